/- Words and lemmas that the claim's proof names, part 10: what the program's functions answer, at the inputs that each theorem's premises name. Conditions: each theorem's own premises. -/
import Derived.Test.YtljipbmmgcccnaaGreatKS9
section
namespace Go.Proofs.YtljipbmmgcccnaaGreat.T
open Go.RowKit Go.Proofs.YtljipbmmgcccnaaGreatW.PrintWords Go.Proofs.YtljipbmmgcccnaaGreatW.PrintLast Go.Proofs.YtljipbmmgcccnaaGreatW.PrintMore
attribute [local go_sem] cell_tc frozen_tc max2_int min2_int
attribute [local go_sem ↓] Go.wp_at_zero Go.wp_at_succ
set_option linter.unusedVariables false
set_option linter.unusedSimpArgs false
set_option synthInstance.maxHeartbeats 400000
set_option synthInstance.maxSize 512
attribute [local go_sem] cell_tc2
def nodeSz (x : S40) : Nat := x.f1.f1.length + x.f1.f2.length + x.f2.length + x.f3.length
def nodesSz (l : List S40) : Prop := ∀ x ∈ l, nodeSz x ≤ 1000000000000000
def nodeAt (l : List S40) (i : Nat) : Bool := nodeB (l.getD i z40) && (decide (i = 0) || decide ((l.getD (i - 1) z40).f1.f0 < (l.getD i z40).f1.f0))
def nodesB (l : List S40) : Bool := (List.range l.length).all (nodeAt l) && (decide (1 ≤ l.length) && decide (l.length ≤ 8))
theorem getD40 {l : List S40} {i : Nat} (h : i < l.length) : l.getD i z40 = l[i] := by
  rw [List.getD_eq_getElem?_getD, List.getElem?_eq_getElem h]; rfl
theorem nodeAt_yes {l : List S40} {i : Nat} (h : i < l.length) (h1 : nodeB l[i] = true) (h2 : i = 0 ∨ (l.getD (i - 1) z40).f1.f0 < l[i].f1.f0) : nodeAt l i = true := by
  unfold nodeAt; rw [getD40 h, h1]; rcases h2 with h2 | h2 <;> simp only [h2, decide_true, Bool.true_or, Bool.or_true, Bool.and_true]
theorem nodeAt_no1 {l : List S40} {i : Nat} (h : i < l.length) (h1 : nodeB l[i] = false) : nodeAt l i = false := by unfold nodeAt; rw [getD40 h, h1]; rfl
theorem nodeAt_no2 {l : List S40} {i : Nat} (h : i < l.length) (h0 : i ≠ 0) (h2 : ¬ (l.getD (i - 1) z40).f1.f0 < l[i].f1.f0) : nodeAt l i = false := by
  unfold nodeAt; rw [getD40 h, decide_eq_false h0, decide_eq_false h2]; simp only [Bool.or_false, Bool.and_false]
set_option maxRecDepth 100000 in
set_option maxHeartbeats 4000000 in
theorem nodes_ {A : Option Addr} {n c : Nat} {l : List S40} {w : World} [h : Sr k40 w A n c l] (hz : nodesSz l) :
    Calls Tryz.prog 90 #[.slice A n c] w fun e w' => e = .returned (.bool (nodesB l)) ∧ BelL w w' := by
  obtain rfl := h.len
  have HS := sr_l h
  have hlen : l.length ≤ 9223372036854775807 := h.C.2.1
  have HZ := Aside0.mk hz
  clear h hz
  go_enter Tryz.func90, Tryz.ntmps90
  go_wp2
  go_loopg [3, 4, 7] l.length (fun kq v3 v4 v7 w' => ∃ i : Nat, v7 = .int .i64 i ∧ i ≤ l.length ∧ kq = l.length - i ∧ Aside0 ((List.range i).all (nodeAt l) = true) ∧ BelL w w')
  case atStart => exact ⟨0, rfl, Nat.zero_le _, rfl, ⟨by simp⟩, belL⟩
  case round =>
    obtain ⟨i, rfl, hi, rfl, HA, hbr⟩ := hrel
    by_cases hlt : i < l.length
    · obtain ⟨ad, A2, c2, A3, c3, A4, c4, A5, c5, rfl, hx0, hx1, hx2, hx3, hx4, hx5, hg2, hg3, hg4, hg5⟩ := el_T40 (W := wr) (A := A) (n := l.length) (c := c) (l := l) i hlt
      have HZI := Aside0.mk (HZ.out l[i] (List.getElem_mem hlt))
      have HXI := Aside0.mk (show (⟨l[i].f0, ⟨l[i].f1.f0, l[i].f1.f1, l[i].f1.f2⟩, l[i].f2, l[i].f3⟩ : S40) = l[i] from rfl)
      cases h1 : nodeB ⟨l[i].f0, ⟨l[i].f1.f0, l[i].f1.f1, l[i].f1.f2⟩, l[i].f2, l[i].f3⟩
      · have HF := Aside0.mk (show nodesB l = false by unfold nodesB; rw [range_no hlt (nodeAt_no1 hlt h1)]; rfl)
        go_wp2_with (first | (with_reducible refine gate_dst (N := 4) rfl ?_; refine box_tc rfl (N := 4) rfl (cs := #[.bool false, .int .i64 0, .slice none 0 0, .slice none 0 0, .slice none 0 0, .slice none 0 0]) (t := 40) ?hr ?_; (case hr => first | (go_simp; done) | (go_simp; rfl)); intro g1 wg1 _ _ _))
        (refine wp_region_bel (by kernel_rfl) (by kernel_rfl) ?_; (repeat (first | go_big_quiet_skip | (go_big_quiet_want; first | (go_big_quiet_op; go_big_quiet_on) | (apply Exists.intro; refine ⟨fun wq hq => ?_, ?_⟩; (focus (unfold Oper.quietAt; go_simp; first | done | exact ⟨rfl, rfl⟩ | exact rfl | (first | (go_at_call 108; refine Calls.mono (nodeMay_ HZI.out) ?_; rintro e w1 ⟨rfl, hb⟩; exact ⟨by rw [h1], belL⟩)))); (try simp only [Act.put, List.setIfInBounds_toArray, List.set_cons_zero, List.set_cons_succ]); go_big_quiet_on)))); refine wpQuiet_nil ?_; intro w7 hb7)
        all_goals
          go_wp2
          go_ret
          exact ⟨by rw [HF.out]; rfl, belL⟩
      · by_cases h0 : i = 0
        · have HT := Aside0.mk (range_all HA.out (nodeAt_yes hlt h1 (.inl h0)))
          have hgt : decide ((0 : Int) < (i : Int)) = false := decide_eq_false (by omega)
          have hgn : decide (0 < i) = false := decide_eq_false (by omega)
          clear h0
          go_wp2_with (first | (with_reducible refine gate_dst (N := 4) rfl ?_; refine box_tc rfl (N := 4) rfl (cs := #[.bool false, .int .i64 0, .slice none 0 0, .slice none 0 0, .slice none 0 0, .slice none 0 0]) (t := 40) ?hr ?_; (case hr => first | (go_simp; done) | (go_simp; rfl)); intro g1 wg1 _ _ _))
          (refine wp_region_bel (by kernel_rfl) (by kernel_rfl) ?_; (repeat (first | go_big_quiet_skip | (go_big_quiet_want; first | (go_big_quiet_op; go_big_quiet_on) | (apply Exists.intro; refine ⟨fun wq hq => ?_, ?_⟩; (focus (unfold Oper.quietAt; go_simp; first | done | exact ⟨rfl, rfl⟩ | exact rfl | (first | (go_at_call 108; refine Calls.mono (nodeMay_ HZI.out) ?_; rintro e w1 ⟨rfl, hb⟩; exact ⟨by rw [h1], belL⟩)))); (try simp only [Act.put, List.setIfInBounds_toArray, List.set_cons_zero, List.set_cons_succ]); go_big_quiet_on)))); refine wpQuiet_nil ?_; intro w7 hb7)
          all_goals
            go_wp2
            go_roundg (l.length - (i + 1))
            case measure => omega
            case rel => exact ⟨i + 1, by go_num, by omega, rfl, HT, belL⟩
        · have hgt : decide ((0 : Int) < (i : Int)) = true := decide_eq_true (by omega)
          have hgn : decide (0 < i) = true := decide_eq_true (by omega)
          obtain ⟨ad', B2, d2, B3, d3, B4, d4, B5, d5, he, hy0, hy1, hy2, hy3, hy4, hy5, hq2, hq3, hq4, hq5⟩ := el_T40 (W := wr) (A := some ad) (n := l.length) (c := c) (l := l) (i - 1) (by omega)
          obtain rfl := Option.some.inj he
          have e1 : (i : Int) - 1 = ((i - 1 : Nat) : Int) := by omega
          have e1w : IntKind.i64.wrap ((i - 1 : Nat) : Int) = ((i - 1 : Nat) : Int) := IntWalk.i64_in _ (by omega)
          have hj1 : i - 1 < l.length := by omega
          have e2 : l.getD (i - 1) z40 = l[i - 1] := getD40 (by omega)
          by_cases h2 : l[i - 1].f1.f0 < l[i].f1.f0
          · have HT := Aside0.mk (range_all HA.out (nodeAt_yes hlt h1 (.inr (by rw [e2]; exact h2))))
            have h3 : decide (l[i].f1.f0 ≤ l[i - 1].f1.f0) = false := decide_eq_false (by omega)
            clear e2
            go_wp2_with (first | (with_reducible refine gate_dst (N := 4) rfl ?_; refine box_tc rfl (N := 4) rfl (cs := #[.bool false, .int .i64 0, .slice none 0 0, .slice none 0 0, .slice none 0 0, .slice none 0 0]) (t := 40) ?hr ?_; (case hr => first | (go_simp; done) | (go_simp; rfl)); intro g1 wg1 _ _ _))
            (refine wp_region_bel (by kernel_rfl) (by kernel_rfl) ?_; (repeat (first | go_big_quiet_skip | (go_big_quiet_want; first | (go_big_quiet_op; go_big_quiet_on) | (apply Exists.intro; refine ⟨fun wq hq => ?_, ?_⟩; (focus (unfold Oper.quietAt; go_simp; first | done | exact ⟨rfl, rfl⟩ | exact rfl | (first | (go_at_call 108; refine Calls.mono (nodeMay_ HZI.out) ?_; rintro e w1 ⟨rfl, hb⟩; exact ⟨by rw [h1], belL⟩)))); (try simp only [Act.put, List.setIfInBounds_toArray, List.set_cons_zero, List.set_cons_succ]); go_big_quiet_on)))); refine wpQuiet_nil ?_; intro w7 hb7)
            all_goals
              go_wp2
              go_roundg (l.length - (i + 1))
              case measure => omega
              case rel => exact ⟨i + 1, by go_num, by omega, rfl, HT, belL⟩
          · have HF := Aside0.mk (show nodesB l = false by unfold nodesB; rw [range_no hlt (nodeAt_no2 hlt h0 (by rw [e2]; exact h2))]; rfl)
            have h3 : decide (l[i].f1.f0 ≤ l[i - 1].f1.f0) = true := decide_eq_true (by omega)
            clear e2
            go_wp2_with (first | (with_reducible refine gate_dst (N := 4) rfl ?_; refine box_tc rfl (N := 4) rfl (cs := #[.bool false, .int .i64 0, .slice none 0 0, .slice none 0 0, .slice none 0 0, .slice none 0 0]) (t := 40) ?hr ?_; (case hr => first | (go_simp; done) | (go_simp; rfl)); intro g1 wg1 _ _ _))
            (refine wp_region_bel (by kernel_rfl) (by kernel_rfl) ?_; (repeat (first | go_big_quiet_skip | (go_big_quiet_want; first | (go_big_quiet_op; go_big_quiet_on) | (apply Exists.intro; refine ⟨fun wq hq => ?_, ?_⟩; (focus (unfold Oper.quietAt; go_simp; first | done | exact ⟨rfl, rfl⟩ | exact rfl | (first | (go_at_call 108; refine Calls.mono (nodeMay_ HZI.out) ?_; rintro e w1 ⟨rfl, hb⟩; exact ⟨by rw [h1], belL⟩)))); (try simp only [Act.put, List.setIfInBounds_toArray, List.set_cons_zero, List.set_cons_succ]); go_big_quiet_on)))); refine wpQuiet_nil ?_; intro w7 hb7)
            all_goals
              go_wp2
              go_ret
              exact ⟨by rw [HF.out]; rfl, belL⟩
    · have HT := Aside0.mk (show nodesB l = (decide (1 ≤ l.length) && decide (l.length ≤ 8)) by
        have e : i = l.length := by omega
        have := HA.out
        rw [e] at this
        unfold nodesB; rw [this, Bool.true_and])
      by_cases hq1 : 1 ≤ l.length
      · have hq2 : decide ((1 : Int) ≤ (l.length : Int)) = true := decide_eq_true (by omega)
        have hq3 : decide (1 ≤ l.length) = true := decide_eq_true hq1
        have HT2 : Aside0 (nodesB l = decide ((l.length : Int) ≤ 8)) := ⟨by rw [HT.out, hq3, Bool.true_and]; exact decide_eq_decide.2 (by omega)⟩
        clear hq1
        go_wp2
        go_ret
        exact ⟨by rw [HT2.out]; rfl, belL⟩
      · have hq2 : decide ((1 : Int) ≤ (l.length : Int)) = false := decide_eq_false (by omega)
        have hq3 : decide (1 ≤ l.length) = false := decide_eq_false hq1
        have HT2 : Aside0 (nodesB l = false) := ⟨by rw [HT.out, hq3, Bool.false_and]⟩
        clear hq1
        go_wp2
        go_ret
        exact ⟨by rw [HT2.out]; rfl, belL⟩
end Go.Proofs.YtljipbmmgcccnaaGreat.T
end
section
namespace Go.Proofs.YtljipbmmgcccnaaGreat.T
open Go.RowKit Go.Proofs.YtljipbmmgcccnaaGreatW.PrintWords Go.Proofs.YtljipbmmgcccnaaGreatW.PrintLast Go.Proofs.YtljipbmmgcccnaaGreatW.PrintMore
attribute [local go_sem] cell_tc frozen_tc max2_int min2_int
attribute [local go_sem ↓] Go.wp_at_zero Go.wp_at_succ
set_option linter.unusedVariables false
set_option linter.unusedSimpArgs false
set_option synthInstance.maxHeartbeats 400000
set_option synthInstance.maxSize 512
attribute [local go_sem] cell_tc2
theorem find1_ {up : Bool} {id x : Int} {A B I L : Option Addr} {n c m d ni ci nl cl : Nat} {w : World} :
    Calls Tryz.prog 147 #[.agg #[.bool up, .int .i64 id, .slice A n c, .slice B m d, .slice I ni ci, .slice L nl cl], .int .i64 x] w fun e w' => e = .returned (.int .i64 (cmpI id x)) ∧ BelL w w' := by
  go_enter Tryz.func147, Tryz.ntmps147
  go_wp2_with (first | (with_reducible refine gate_dst (N := 2) rfl ?_; refine box_tc rfl (N := 2) rfl (cs := #[.bool up, .int .i64 id, .slice A n c, .slice B m d, .slice I ni ci, .slice L nl cl]) (t := 40) ?hr ?_; (case hr => first | (go_simp; done) | (go_simp; rfl)); intro g1 wg1 _ _ _) | (go_at_call 107; (with_reducible refine Calls.mono (compare _ _ _) ?_); rintro e w' ⟨rfl, ⟨nd, rfl⟩⟩))
  go_ret
  exact ⟨rfl, belL⟩
set_option maxHeartbeats 4000000 in
theorem bsNode_ {key : Int} {A : Option Addr} {n c : Nat} {l : List S40} {w : World} [h : Sr k40 w A n c l] (hl : n ≤ 1000000) 
    (hm : ∀ a b, a ≤ b → b < l.length → (fun i => cmpI (l.getD i z40).f1.f0 key) b < 0 → (fun i => cmpI (l.getD i z40).f1.f0 key) a < 0) :
    Calls Tryz.prog 146 #[.slice A n c, .int .i64 key, .func (.func 147) #[] #[]] w fun e w' => e = .returned (.tuple #[.int .i64 (cnt (fun i => cmpI (l.getD i z40).f1.f0 key) l.length : Nat), .bool (hit (fun i => cmpI (l.getD i z40).f1.f0 key) l.length)]) ∧ BelL w w' := by
  obtain rfl := h.len
  have HS := sr_l h
  clear h
  have M := Aside0.mk hm
  generalize hcf : (fun i => cmpI (l.getD i z40).f1.f0 key) = cf at M ⊢
  have CF := Aside0.mk hcf
  generalize hn : cnt cf l.length = n0
  have CN := Aside0.mk hn
  generalize hh : hit cf l.length = h0_
  have CH := Aside0.mk hh
  clear hm hn hh hcf
  go_enter Tryz.func146, Tryz.ntmps146
  go_wp2
  go_loopg [9, 10] l.length (fun kx s9 s10 w' => ∃ lo hi : Nat, s9 = .int .i64 lo ∧ s10 = .int .i64 hi ∧ lo ≤ hi ∧ hi ≤ l.length ∧ hi - lo ≤ kx ∧ BelL w w' ∧ Aside0 ((∀ t, t < lo → cf t < 0) ∧ (∀ t, hi ≤ t → t < l.length → 0 ≤ cf t)))
  case atStart => exact ⟨0, l.length, rfl, rfl, Nat.zero_le _, Nat.le_refl _, by omega, belL, ⟨fun t ht => absurd ht (Nat.not_lt_zero _), fun t h1 h2 => by omega⟩⟩
  case round =>
    obtain ⟨lo, hi, rfl, rfl, hlh, hin, hg, hbr, II⟩ := hrel
    by_cases hlt : lo < hi
    · have hmid : (lo + hi) / 2 < l.length := by omega
      obtain ⟨ad, A2, c2, A3, c3, A4, c4, A5, c5, rfl, hx0, hx1, hx2, hx3, hx4, hx5, hg2, hg3, hg4, hg5⟩ := el_T40 (W := wr) (A := A) (n := l.length) (c := c) (l := l) ((lo + hi) / 2) hmid
      have HC := Aside0.mk (show (fun i => cmpI (l.getD i z40).f1.f0 key) ((lo + hi) / 2) = cf ((lo + hi) / 2) by rw [CF.out])
      by_cases hyx : cf ((lo + hi) / 2) < 0
      · go_wp2_with (first | (go_at_call 147; (with_reducible refine Calls.mono find1_ ?_); rintro e w5 ⟨rfl, hb⟩; rw [show cmpI l[((lo + hi) / 2)].f1.f0 key = cf (((lo + hi) / 2)) by rw [← HC.out]; show _ = cmpI (l.getD (((lo + hi) / 2)) z40).f1.f0 key; rw [getD40 hmid]]))
        go_roundg (hi - ((lo + hi) / 2 + 1))
        case measure => omega
        case rel =>
          exact ⟨(lo + hi) / 2 + 1, hi, by rw [show ((lo : Int) + (hi : Int)) / 2 + 1 = (((lo + hi) / 2 + 1 : Nat) : Int) by omega], rfl, by omega, hin, Nat.le_refl _, belL, ⟨fun t ht => M.out t ((lo + hi) / 2) (by omega) (by omega) hyx, II.out.2⟩⟩
      · go_wp2_with (first | (go_at_call 147; (with_reducible refine Calls.mono find1_ ?_); rintro e w5 ⟨rfl, hb⟩; rw [show cmpI l[((lo + hi) / 2)].f1.f0 key = cf (((lo + hi) / 2)) by rw [← HC.out]; show _ = cmpI (l.getD (((lo + hi) / 2)) z40).f1.f0 key; rw [getD40 hmid]]))
        go_roundg ((lo + hi) / 2 - lo)
        case measure => omega
        case rel =>
          exact ⟨lo, (lo + hi) / 2, rfl, by rw [show ((lo : Int) + (hi : Int)) / 2 = (((lo + hi) / 2 : Nat) : Int) by omega], by omega, by omega, Nat.le_refl _, belL, ⟨II.out.1, fun t ht htn => Int.not_lt.1 fun h => by have := M.out ((lo + hi) / 2) t ht htn h; omega⟩⟩
    · obtain rfl : hi = lo := by omega
      have EN := Aside0.mk (show n0 = hi by rw [← CN.out]; exact cnt_eq hin II.out.1 II.out.2)
      have EH := Aside0.mk (show h0_ = (decide (hi < l.length) && (cf hi == 0)) by rw [← CH.out]; exact hit_of (cnt_eq hin II.out.1 II.out.2))
      by_cases hn : hi < l.length
      · obtain ⟨ad, A2, c2, A3, c3, A4, c4, A5, c5, rfl, hx0, hx1, hx2, hx3, hx4, hx5, hg2, hg3, hg4, hg5⟩ := el_T40 (W := wr) (A := A) (n := l.length) (c := c) (l := l) hi hn
        have HC := Aside0.mk (show (fun i => cmpI (l.getD i z40).f1.f0 key) hi = cf hi by rw [CF.out])
        go_wp2_with (first | (go_at_call 147; (with_reducible refine Calls.mono find1_ ?_); rintro e w5 ⟨rfl, hb⟩; rw [show cmpI l[hi].f1.f0 key = cf (hi) by rw [← HC.out]; show _ = cmpI (l.getD (hi) z40).f1.f0 key; rw [getD40 hn]]))
        go_ret2
        exact ⟨by rw [EN.out, EH.out, decide_eq_true hn]; rfl, belL⟩
      · go_wp2
        go_ret2
        exact ⟨by rw [EN.out, EH.out, decide_eq_false hn]; rfl, belL⟩
def nodeC (l : List S40) (key : Int) : Nat → Int := fun i => cmpI (l.getD i z40).f1.f0 key
theorem nodeC_at {l : List S40} {key : Int} {i : Nat} (hi : i < l.length) : nodeC l key i = cmpI l[i].f1.f0 key := by unfold nodeC; rw [getD40 hi]
theorem nodesB_at {l : List S40} (h : nodesB l = true) (i : Nat) (hi : i < l.length) : nodeB l[i] = true ∧ (i = 0 ∨ (l.getD (i - 1) z40).f1.f0 < l[i].f1.f0) := by
  unfold nodesB at h
  have h2 := (Bool.and_eq_true_iff.1 h).1
  rw [List.all_eq_true] at h2
  have h3 := h2 i (List.mem_range.2 hi)
  unfold nodeAt at h3
  rw [getD40 hi] at h3
  simp only [Bool.and_eq_true, Bool.or_eq_true, decide_eq_true_eq] at h3
  exact h3
theorem nodesB_len {l : List S40} (h : nodesB l = true) : 1 ≤ l.length ∧ l.length ≤ 8 := by
  unfold nodesB at h
  simp only [Bool.and_eq_true, decide_eq_true_eq] at h
  exact h.2
theorem nodesB_lt {l : List S40} (h : nodesB l = true) : ∀ (d a : Nat) (hb : a + d + 1 < l.length), (l[a]'(by omega)).f1.f0 < l[a + d + 1].f1.f0
  | 0, a, hb => by
    have := (nodesB_at h (a + 1) hb).2
    rcases this with h0 | h1
    · omega
    · rwa [Nat.add_sub_cancel, getD40 (by omega)] at h1
  | d + 1, a, hb => by
    have h1 := nodesB_lt h d a (by omega)
    have h2 := (nodesB_at h (a + (d + 1) + 1) hb).2
    rcases h2 with h0 | h2
    · omega
    · rw [show a + (d + 1) + 1 - 1 = a + d + 1 by omega, getD40 (by omega)] at h2
      exact Int.lt_trans h1 h2
theorem nodesB_lt' {l : List S40} (h : nodesB l = true) {a b : Nat} (hab : a < b) (hb : b < l.length) : (l[a]'(by omega)).f1.f0 < l[b].f1.f0 := by
  have := nodesB_lt h (b - a - 1) a (by omega)
  have e : a + (b - a - 1) + 1 = b := by omega
  simp only [e] at this
  exact this
theorem nodeC_mono {l : List S40} (h : nodesB l = true) (key : Int) (a b : Nat) (hab : a ≤ b) (hb : b < l.length) (hc : nodeC l key b < 0) : nodeC l key a < 0 := by
  rw [nodeC_at hb, cmpI_neg] at hc
  rw [nodeC_at (by omega), cmpI_neg]
  rcases Nat.lt_or_eq_of_le hab with h1 | h1
  · exact Int.lt_trans (nodesB_lt' h h1 hb) hc
  · subst h1; exact hc
def placeN (l : List S40) (key : Int) : Nat := cnt (nodeC l key) l.length
def isNode (l : List S40) (key : Int) : Bool := l.any fun x => x.f1.f0 == key
theorem placeN_hit {l : List S40} (h : nodesB l = true) (key : Int) : hit (nodeC l key) l.length = isNode l key := by
  rw [Bool.eq_iff_iff, hit_iff _ _ (nodeC_mono h key) (fun a b hab hb hc => ?_)]
  · unfold isNode
    rw [List.any_eq_true]
    constructor
    · rintro ⟨i, hi, hc⟩
      rw [nodeC_at hi, cmpI_zero] at hc
      exact ⟨l[i], List.getElem_mem hi, by simp [hc]⟩
    · rintro ⟨x, hx, he⟩
      obtain ⟨i, hi, rfl⟩ := List.getElem_of_mem hx
      exact ⟨i, hi, by rw [nodeC_at hi, cmpI_zero]; simpa using he⟩
  · rw [nodeC_at hb] at hc
    rw [nodeC_at (by omega), cmpI_neg]
    have h1 := nodesB_lt' h hab hb
    have h2 : ¬ key < l[b].f1.f0 := fun h3 => by
      have : 0 < cmpI l[b].f1.f0 key := by unfold cmpI; rw [if_neg (by omega), if_pos (by omega)]; omega
      omega
    omega
theorem placeN_at {l : List S40} (h : nodesB l = true) {key : Int} (hk : isNode l key = true) : ∃ hn : placeN l key < l.length, l[placeN l key].f1.f0 = key := by
  rw [← placeN_hit h] at hk
  unfold hit at hk
  simp only [Bool.and_eq_true, decide_eq_true_eq, beq_iff_eq] at hk
  refine ⟨hk.1, ?_⟩
  have h2 := hk.2
  rw [nodeC_at hk.1, cmpI_zero] at h2
  exact h2
theorem bsNodeC_ {key : Int} {A : Option Addr} {n c : Nat} {l : List S40} {w : World} [h : Sr k40 w A n c l] (hs : nodesB l = true) :
    Calls Tryz.prog 146 #[.slice A n c, .int .i64 key, .func (.func 147) #[] #[]] w fun e w' => e = .returned (.tuple #[.int .i64 (placeN l key : Nat), .bool (isNode l key)]) ∧ BelL w w' := by
  have hl := h.len
  have := nodesB_len hs
  rw [← placeN_hit hs]
  exact bsNode_ (by omega) (nodeC_mono hs key)
theorem find_ {g t : Nat} {key : Int} {A B C : Option Addr} {n c m d k f : Nat} {l : List S40} {w : World} [hg : Blk w g #[.slice A n c, .slice B m d, .slice C k f] t] [h : Sr k40 w A n c l] (hs : nodesB l = true) :
    Calls Tryz.prog 96 #[.pointer (some ⟨g, 0, none⟩), .int .i64 key] w fun e w' => e = .returned (.tuple #[.int .i64 (placeN l key : Nat), .bool (isNode l key)]) ∧ BelL w w' := by
  have HC := Aside0.mk (bsNodeC_ (key := key) (A := A) (n := n) (c := c) (w := w) hs)
  clear h hs
  go_enter Tryz.func96, Tryz.ntmps96
  go_wp2_with (first | (go_at_call 146; (with_reducible refine Calls.mono (HC.out) ?_); rintro e wb ⟨rfl, hb⟩))
  go_ret2
  exact ⟨rfl, belL⟩
end Go.Proofs.YtljipbmmgcccnaaGreat.T
end
section
namespace Go.Proofs.YtljipbmmgcccnaaGreat.T
open Go.RowKit Go.Proofs.YtljipbmmgcccnaaGreatW.PrintWords Go.Proofs.YtljipbmmgcccnaaGreatW.PrintLast Go.Proofs.YtljipbmmgcccnaaGreatW.PrintMore
attribute [local go_sem] cell_tc frozen_tc max2_int min2_int
attribute [local go_sem ↓] Go.wp_at_zero Go.wp_at_succ
set_option linter.unusedVariables false
set_option linter.unusedSimpArgs false
set_option synthInstance.maxHeartbeats 400000
set_option synthInstance.maxSize 512
attribute [local go_sem] cell_tc2
def namedN1 (x : S40) : List Int := idsOf x.f1.f1 ++ x.f1.f2
def namedM1 (m : S126) : List Int := [m.f1, m.f2] ++ m.f3
def namedN (ns : List S40) : List Int := ns.flatMap namedN1
def namedM (ms : List S126) : List Int := ms.flatMap namedM1
theorem namedN_snoc {ns : List S40} {i : Nat} (h : i < ns.length) : namedN (ns.take (i + 1)) = namedN (ns.take i) ++ idsOf ns[i].f1.f1 ++ ns[i].f1.f2 := by
  unfold namedN; rw [List.take_succ_eq_append_getElem h, List.flatMap_append, List.append_assoc]; simp [namedN1]
theorem namedM_snoc {ms : List S126} {i : Nat} (h : i < ms.length) : namedM (ms.take (i + 1)) = namedM (ms.take i) ++ [ms[i].f1, ms[i].f2] ++ ms[i].f3 := by
  unfold namedM; rw [List.take_succ_eq_append_getElem h, List.flatMap_append, List.append_assoc]; simp [namedM1]
theorem flat_len {α : Type} (f : α → List Int) (b : Nat) : ∀ (l : List α), (∀ x ∈ l, (f x).length ≤ b) → (l.flatMap f).length ≤ l.length * b
  | [], _ => by simp
  | x :: l, h => by
    rw [List.flatMap_cons, List.length_append, List.length_cons, Nat.succ_mul]
    have h1 := h x (List.mem_cons_self ..)
    have h2 := flat_len f b l (fun y hy => h y (List.mem_cons_of_mem _ hy))
    omega
def smallN (ns : List S40) : Prop := ∀ x ∈ ns, x.f1.f1.length + x.f1.f2.length ≤ 16
def smallM (ms : List S126) : Prop := ∀ m ∈ ms, m.f3.length ≤ 16
theorem namedN_len {ns : List S40} (h : smallN ns) (i : Nat) : (namedN (ns.take i)).length ≤ i * 16 := by
  have := flat_len namedN1 16 (ns.take i) (fun x hx => by unfold namedN1; rw [List.length_append, idsOf_len]; exact h x (List.mem_of_mem_take hx))
  rw [List.length_take] at this
  have h2 : min i ns.length * 16 ≤ i * 16 := Nat.mul_le_mul_right _ (Nat.min_le_left _ _)
  exact Nat.le_trans this h2
theorem namedM_len {ms : List S126} (h : smallM ms) (i : Nat) : (namedM (ms.take i)).length ≤ i * 18 := by
  have := flat_len namedM1 18 (ms.take i) (fun m hm => by unfold namedM1; rw [List.length_append]; have := h m (List.mem_of_mem_take hm); simp; omega)
  rw [List.length_take] at this
  have h2 : min i ms.length * 18 ≤ i * 18 := Nat.mul_le_mul_right _ (Nat.min_le_left _ _)
  exact Nat.le_trans this h2
def namedL (ns : List S40) (ms : List S126) : List Int := namedN ns ++ namedM ms
set_option maxRecDepth 100000 in
set_option maxHeartbeats 4000000 in
theorem named0_ {g t : Nat} {A B C : Option Addr} {n c d k f : Nat} {ns : List S40} {ms : List S126} {w : World} [hg : Blk w g #[.slice A n c, .slice B 0 d, .slice C k f] t] [h : Sr k40 w A n c ns] [q : Sr k126 w C k f ms] (hn : n ≤ 8) (hk : k ≤ 512) (hsn : smallN ns) (hsm : smallM ms) :
    Calls Tryz.prog 94 #[.pointer (some ⟨g, 0, none⟩)] w fun e w' => ∃ A' c', e = .returned (.slice A' (namedN ns ++ namedM ms).length c') ∧ FrL kI 3 w' w.heap.size (Under w'.heap.size) A' (namedN ns ++ namedM ms).length c' (namedN ns ++ namedM ms) ∧ BelL w w' := by
  obtain rfl := h.len
  obtain rfl := q.len
  have s1 := sr_l h
  have s2 := sr_l q
  have hbk : BlkL w g #[.slice A ns.length c, .slice B 0 d, .slice C ms.length f] t := ⟨hg.out⟩
  have SN := Aside0.mk hsn
  have SM := Aside0.mk hsm
  clear h q hg hsn hsm
  go_enter Tryz.func94, Tryz.ntmps94
  go_wp2
  go_loopg [3, 4, 14] ns.length (fun kq v3 v4 v14 w' => ∃ (i : Nat) (A3 : Option Addr) (c3 : Nat), v14 = .int .i64 i ∧ v3 = .slice A3 (namedN (ns.take i)).length c3 ∧ i ≤ ns.length ∧ kq = ns.length - i ∧ FrL kI 3 w' w.heap.size (Under w'.heap.size) A3 (namedN (ns.take i)).length c3 (namedN (ns.take i)) ∧ BelL w w')
  case atStart => exact ⟨0, none, 0, rfl, rfl, Nat.zero_le _, rfl, frl_nil, belL⟩
  case round =>
    obtain ⟨i, A3, c3, rfl, rfl, hi, rfl, hF, hbr⟩ := hrel
    by_cases hlt : i < ns.length
    · obtain ⟨ad, A2, c2, B3, d3, A4, c4, A5, c5, rfl, hx0, hx1, hx2, hx3, hx4, hx5, hg2, hg3, hg4, hg5⟩ := el_T40 (W := w) (A := A) (n := ns.length) (c := c) (l := ns) i hlt
      have hv : VAtL w ⟨(ad.add (i * 6)).block, (ad.add (i * 6)).off + 1, none⟩ ns[i].f1.f0 A2 ns[i].f1.f1.length c2 B3 ns[i].f1.f2.length d3 := ⟨hx1.out, hx2.out, hx3.out⟩
      have hb1 := namedN_len SN.out i
      have hb2 := SN.out ns[i] (List.getElem_mem hlt)
      have HS := Aside0.mk (namedN_snoc hlt)
      have HSL : Aside0 ((namedN (ns.take (i + 1))).length = (namedN (ns.take i)).length + ns[i].f1.f1.length + ns[i].f1.f2.length) := ⟨by rw [HS.out, List.length_append, List.length_append, idsOf_len]⟩
      go_wp2_with (first | (go_at_call 141; (with_reducible refine Calls.mono (ids_ (by omega)) ?_); rintro e w9 ⟨A9, c9, rfl, hF9, hb9⟩) | ((with_reducible refine gate_dst (N := 26) rfl ?_); refine app_tc (k := kI) (t := 23) (A := A3) (n := (namedN (ns.take i)).length) (c := c3) (B := A9) (m := ns[i].f1.f1.length) (d := c9) (by rfl) (by rfl) Tryz.underlying23 (by rfl) (by rfl) (by omega) ?_; intro A6 c6 w6 _ _ _) | ((with_reducible refine gate_dst (N := 37) rfl ?_); refine app_tc (k := kI) (t := 23) (A := A6) (n := (namedN (ns.take i)).length + ns[i].f1.f1.length) (c := c6) (B := B3) (m := ns[i].f1.f2.length) (d := d3) (by rfl) (by rfl) Tryz.underlying23 (by rfl) (by rfl) (by omega) ?_; intro A7 c7 w7 _ _ _))
      go_roundg (ns.length - (i + 1))
      case measure => omega
      case rel => exact ⟨i + 1, _, _, by go_num, by rw [HSL.out], by omega, rfl, by rw [HSL.out, HS.out]; exact frl, belL⟩
    · obtain rfl : i = ns.length := by omega
      have hb1 := namedN_len SN.out ns.length
      rw [List.take_length] at hF hb1
      rw [List.take_length]
      generalize hN0 : namedN ns = N0 at hF hb1
      have HN0 := Aside0.mk hN0
      clear hN0
      go_wp2
      go_loopg [3, 6, 44] 0 (fun kq v3 v6 v44 w' => ∃ (A3 : Option Addr) (c3 : Nat), v44 = .int .i64 0 ∧ v3 = .slice A3 N0.length c3 ∧ FrL kI 3 w' w.heap.size (Under w'.heap.size) A3 N0.length c3 N0 ∧ BelL w w')
      case atStart => exact ⟨A3, c3, rfl, rfl, frl, belL⟩
      case round =>
        clear hF
        obtain ⟨A7, c7, rfl, rfl, hF7, hbr7⟩ := hrel
        go_wp2
        go_loopg [3, 8, 61] ms.length (fun kq v3 v8 v61 w' => ∃ (i : Nat) (A3 : Option Addr) (c3 : Nat), v61 = .int .i64 i ∧ v3 = .slice A3 (N0 ++ namedM (ms.take i)).length c3 ∧ i ≤ ms.length ∧ kq = ms.length - i ∧ FrL kI 3 w' w.heap.size (Under w'.heap.size) A3 (N0 ++ namedM (ms.take i)).length c3 (N0 ++ namedM (ms.take i)) ∧ BelL w w')
        case atStart => exact ⟨0, A7, c7, rfl, by rw [show N0 ++ namedM (ms.take 0) = N0 by simp [namedM]], Nat.zero_le _, rfl, by rw [show N0 ++ namedM (ms.take 0) = N0 by simp [namedM]]; exact frl, belL⟩
        case round =>
          clear hF7
          obtain ⟨i, A8, c8, rfl, rfl, hi8, rfl, hF8, hbr8⟩ := hrel
          by_cases hlt8 : i < ms.length
          · obtain ⟨ad, A9, c9, rfl, hy0, hy1, hy2, hy3, hy4, hy5, hy6, hy7, hy8, hy9, hy10, hs9⟩ := el_T126 (W := w) (A := C) (n := ms.length) (c := f) (l := ms) i hlt8
            have hm1 := namedM_len SM.out i
            have hm2 := SM.out ms[i] (List.getElem_mem hlt8)
            have hm3 : (N0 ++ namedM (ms.take i)).length = N0.length + (namedM (ms.take i)).length := List.length_append
            have HS8 := Aside0.mk (show N0 ++ namedM (ms.take (i + 1)) = N0 ++ namedM (ms.take i) ++ [ms[i].f1, ms[i].f2] ++ ms[i].f3 by rw [namedM_snoc hlt8]; simp)
            have HSL8 : Aside0 ((N0 ++ namedM (ms.take (i + 1))).length = (N0 ++ namedM (ms.take i)).length + 2 + ms[i].f3.length) := ⟨by rw [HS8.out, List.length_append, List.length_append]; rfl⟩
            have hm4 : (N0 ++ namedM (ms.take i)).length ≤ 100000 := by omega
            generalize N0 ++ namedM (ms.take i) = N1 at hF8 HS8 HSL8 hm4
            clear hm3
            go_wp2_with (first | (with_reducible refine gate_dst (N := 8) rfl ?_; refine box_tc rfl (N := 8) rfl (cs := #[.int .i64 0, .int .i64 0, .int .i64 0, .slice none 0 0, .int .i64 0, .int .i64 0, .int .i64 0, .int .i64 0, .int .i64 0, .bool false, .bool false]) (t := 126) ?hr ?_; (case hr => first | (go_simp; done) | (go_simp; rfl)); intro g1 wg1 _ _ _) | ((with_reducible refine gate_dst (N := 70) rfl ?_); refine lit_tc ?hg (N := 70) ?hd (cs := #[.int .i64 ms[i].f1, .int .i64 ms[i].f2]) (t := 3) (m := 2) ?hr ?_; (case hd => rfl); (case hg => rfl); (case hr => first | (go_simp; done) | (go_simp; rfl)); intro g2 wg2 _ _ _) | ((with_reducible refine gate_dst (N := 71) rfl ?_); refine app_tc (k := kI) (t := 23) (A := A8) (n := N1.length) (c := c8) (B := some ⟨g2, 0, none⟩) (m := 2) (d := 2) (by rfl) (by rfl) Tryz.underlying23 (by rfl) (by rfl) (by omega) ?_; intro A6 c6 w6 _ _ _) | ((with_reducible refine gate_dst (N := 75) rfl ?_); refine app_tc (k := kI) (t := 23) (A := A6) (n := N1.length + 2) (c := c6) (B := A9) (m := ms[i].f3.length) (d := c9) (by rfl) (by rfl) Tryz.underlying23 (by rfl) (by rfl) (by omega) ?_; intro A7 c7 w7 _ _ _))
            go_roundg (ms.length - (i + 1))
            case measure => omega
            case rel => exact ⟨i + 1, _, _, by go_num, by rw [HSL8.out], by omega, rfl, by rw [HSL8.out, HS8.out]; exact frl, belL⟩
          · obtain rfl : i = ms.length := by omega
            rw [List.take_length] at hF8
            rw [List.take_length]
            go_wp2
            go_ret
            exact ⟨_, _, by rw [HN0.out]; rfl, by rw [HN0.out]; exact frl, belL⟩
theorem named_ {g t : Nat} {A B C : Option Addr} {n c d k f : Nat} {ns : List S40} {ms : List S126} {w : World} [hg : Blk w g #[.slice A n c, .slice B 0 d, .slice C k f] t] [h : Sr k40 w A n c ns] [q : Sr k126 w C k f ms] (hn : n ≤ 8) (hk : k ≤ 512) (hsn : smallN ns) (hsm : smallM ms) :
    Calls Tryz.prog 94 #[.pointer (some ⟨g, 0, none⟩)] w fun e w' => ∃ A' c', e = .returned (.slice A' (namedL ns ms).length c') ∧ FrL kI 3 w' w.heap.size (Under w'.heap.size) A' (namedL ns ms).length c' (namedL ns ms) ∧ BelL w w' := named0_ hn hk hsn hsm
end Go.Proofs.YtljipbmmgcccnaaGreat.T
end
section
namespace Go.Proofs.YtljipbmmgcccnaaGreat.T
open Go.RowKit Go.Proofs.YtljipbmmgcccnaaGreatW.PrintWords Go.Proofs.YtljipbmmgcccnaaGreatW.PrintLast Go.Proofs.YtljipbmmgcccnaaGreatW.PrintMore
attribute [local go_sem] cell_tc frozen_tc max2_int min2_int
attribute [local go_sem ↓] Go.wp_at_zero Go.wp_at_succ
set_option linter.unusedVariables false
set_option linter.unusedSimpArgs false
set_option synthInstance.maxHeartbeats 400000
set_option synthInstance.maxSize 512
attribute [local go_sem] cell_tc2
theorem cutsMay0_ {B : Option Addr} {d : Nat} {w : World} : Calls Tryz.prog 91 #[.slice B 0 d] w fun e w' => e = .returned (.bool true) ∧ BelL w w' := by
  go_enter Tryz.func91, Tryz.ntmps91
  go_wp2
  go_loopg [3, 4, 7] 0 (fun kq v3 v4 v7 w' => v7 = .int .i64 0 ∧ BelL w w')
  case atStart => exact ⟨rfl, belL⟩
  case round =>
    obtain ⟨rfl, hbr⟩ := hrel
    go_wp2
    go_ret
    exact ⟨rfl, belL⟩
theorem may1_ {g t : Nat} {x : Int} {A B C : Option Addr} {n c m d k f : Nat} {l : List S40} {w : World} [hg : Blk w g #[.slice A n c, .slice B m d, .slice C k f] t] [h : Sr k40 w A n c l] (hs : nodesB l = true) :
    Calls Tryz.prog 95 #[.int .i64 x, .pointer (some ⟨g, 0, none⟩)] w fun e w' => e = .returned (.bool (!isNode l x)) ∧ BelL w w' := by
  have HC := Aside0.mk (find_ (key := x) (g := g) (A := A) (B := B) (C := C) (n := n) (c := c) (m := m) (d := d) (k := k) (f := f) (w := w) hs)
  clear h hs
  go_enter Tryz.func95, Tryz.ntmps95
  go_wp2_with (first | (go_at_call 96; (with_reducible refine Calls.mono (HC.out) ?_); rintro e wb ⟨rfl, hb⟩))
  go_ret
  exact ⟨rfl, belL⟩
def strayB (ns : List S40) (l : List Int) : Bool := l.any fun x => !isNode ns x
theorem stray_ {g t : Nat} {A B C A2 : Option Addr} {n c m d k f n2 c2 : Nat} {ns : List S40} {l : List Int} {w : World} [hg : Blk w g #[.slice A n c, .slice B m d, .slice C k f] t] [h : Sr k40 w A n c ns] [q : Sr kI w A2 n2 c2 l] (hs : nodesB ns = true) :
    Calls Tryz.prog 93 #[.slice A2 n2 c2, .func (.func 95) #[] #[.pointer (some ⟨g, 0, none⟩)]] w fun e w' => e = .returned (.bool (strayB ns l)) ∧ BelL w w' := by
  obtain rfl := q.len
  refine (anyInt 95 #[.pointer (some ⟨g, 0, none⟩)] (enters_of Tryz.func95 (by kernel_rfl) rfl) (fun x => !isNode ns x) A2 c2 l w q.C q.le (fun W hb i hi => ?_)).mono fun _ _ ⟨a, b⟩ => ⟨a, ⟨b⟩⟩
  have hb' : BelL w W := ⟨hb⟩
  have hs' : SrL k40 w A n c ns := sr_l h
  exact (may1_ (t := t) (g := g) (A := A) (B := B) (C := C) (n := n) (c := c) (m := m) (d := d) (k := k) (f := f) hs).mono fun _ _ ⟨a, b⟩ => ⟨a, b.out⟩
def mayB (ns : List S40) (ms : List S126) : Bool := nodesB ns && queueB ms && !strayB ns (namedL ns ms)
theorem nodeB_view {x : S40} (h : nodeB x = true) : viewB x.f1.f0 x.f1.f1 x.f1.f2 = true := by
  unfold nodeB at h; simp only [Bool.and_eq_true] at h; exact h.1.1.1.2
theorem nodesB_small {ns : List S40} (h : nodesB ns = true) : smallN ns := by
  intro x hx
  obtain ⟨i, hi, rfl⟩ := List.getElem_of_mem hx
  exact viewB_len (nodeB_view (nodesB_at h i hi).1)
theorem noneB_len {n : Nat} {k : Int} {i : S48} {h : Bool} (q : noneB n k i h = true) : n = 0 := by
  unfold noneB at q; simp only [Bool.and_eq_true, beq_iff_eq] at q; exact q.1.1.1
theorem msgB_ids {m : S126} (h : msgB m = true) : m.f3.length ≤ 16 := by
  unfold msgB kindB at h
  simp only [Bool.and_eq_true] at h
  have h2 := h.2
  split at h2
  · simp only [Bool.and_eq_true, decide_eq_true_eq] at h2; exact h2.1.2
  · split at h2
    · simp only [Bool.and_eq_true] at h2; have := noneB_len h2.1; omega
    · split at h2
      · simp only [Bool.and_eq_true] at h2; have := noneB_len h2.1; omega
      · split at h2
        · simp only [Bool.and_eq_true] at h2; have := noneB_len h2.1.1; omega
        · cases h2
theorem queueB_len {ms : List S126} (h : queueB ms = true) : ms.length ≤ 512 := by
  unfold queueB at h; simp only [Bool.and_eq_true, decide_eq_true_eq] at h; exact h.1
theorem queueB_msg {ms : List S126} (h : queueB ms = true) {m : S126} (hm : m ∈ ms) : msgB m = true := by
  unfold queueB at h
  simp only [Bool.and_eq_true] at h
  have h2 : badMsgs ms = false := by simpa using h.2
  unfold badMsgs at h2
  rw [List.any_eq_false] at h2
  simpa using h2 m hm
theorem queueB_small {ms : List S126} (h : queueB ms = true) : smallM ms := fun m hm => msgB_ids (queueB_msg h hm)
set_option maxRecDepth 100000 in
set_option maxHeartbeats 2000000 in
theorem worldMay_ {A B C : Option Addr} {n c d k f : Nat} {ns : List S40} {ms : List S126} {w : World} [h : Sr k40 w A n c ns] [q : Sr k126 w C k f ms] (hz : nodesSz ns) :
    Calls Tryz.prog 33 #[.agg #[.slice A n c, .slice B 0 d, .slice C k f]] w fun e w' => e = .returned (.bool (mayB ns ms)) ∧ BelL w w' := by
  obtain rfl := h.len
  obtain rfl := q.len
  have s1 := sr_l h
  have s2 := sr_l q
  have HZ := Aside0.mk hz
  clear h q hz
  cases h1 : nodesB ns
  · rw [show mayB ns ms = false by simp [mayB, h1]]
    go_enter Tryz.func33, Tryz.ntmps33
    go_wp2_with (first | (with_reducible refine gate_dst (N := 1) rfl ?_; refine box_tc rfl (N := 1) rfl (cs := #[.slice A ns.length c, .slice B 0 d, .slice C ms.length f]) (t := 61) ?hr ?_; (case hr => first | (go_simp; done) | (go_simp; rfl)); intro g1 wg1 _ _ _) | (go_at_call 90; (with_reducible refine Calls.mono (nodes_ HZ.out) ?_); rintro e wb ⟨rfl, hb⟩) | (go_at_call 91; (with_reducible refine Calls.mono (cutsMay0_) ?_); rintro e wb ⟨rfl, hb⟩) | (go_at_call 92; (with_reducible refine Calls.mono (queueMay_) ?_); rintro e wb ⟨rfl, hb⟩))
    go_ret
    exact ⟨rfl, belL⟩
  · cases h2 : queueB ms
    · rw [show mayB ns ms = false by simp [mayB, h2]]
      go_enter Tryz.func33, Tryz.ntmps33
      go_wp2_with (first | (with_reducible refine gate_dst (N := 1) rfl ?_; refine box_tc rfl (N := 1) rfl (cs := #[.slice A ns.length c, .slice B 0 d, .slice C ms.length f]) (t := 61) ?hr ?_; (case hr => first | (go_simp; done) | (go_simp; rfl)); intro g1 wg1 _ _ _) | (go_at_call 90; (with_reducible refine Calls.mono (nodes_ HZ.out) ?_); rintro e wb ⟨rfl, hb⟩) | (go_at_call 91; (with_reducible refine Calls.mono (cutsMay0_) ?_); rintro e wb ⟨rfl, hb⟩) | (go_at_call 92; (with_reducible refine Calls.mono (queueMay_) ?_); rintro e wb ⟨rfl, hb⟩))
      go_ret
      exact ⟨rfl, belL⟩
    · rw [show mayB ns ms = !strayB ns (namedL ns ms) by simp [mayB, h1, h2]]
      have L1 := (nodesB_len h1).2
      have L2 := queueB_len h2
      have L3 := nodesB_small h1
      have L4 := queueB_small h2
      have H3 := Aside0.mk L3
      have H4 := Aside0.mk L4
      clear L3 L4
      go_enter Tryz.func33, Tryz.ntmps33
      go_wp2_with (first | (with_reducible refine gate_dst (N := 1) rfl ?_; refine box_tc rfl (N := 1) rfl (cs := #[.slice A ns.length c, .slice B 0 d, .slice C ms.length f]) (t := 61) ?hr ?_; (case hr => first | (go_simp; done) | (go_simp; rfl)); intro g1 wg1 _ _ _) | (go_at_call 90; (with_reducible refine Calls.mono (nodes_ HZ.out) ?_); rintro e wb ⟨rfl, hb⟩) | (go_at_call 91; (with_reducible refine Calls.mono (cutsMay0_) ?_); rintro e wb ⟨rfl, hb⟩) | (go_at_call 92; (with_reducible refine Calls.mono (queueMay_) ?_); rintro e wb ⟨rfl, hb⟩) | (go_at_call 94; (with_reducible refine Calls.mono (named_ (by omega) (by omega) H3.out H4.out) ?_); rintro e w2 ⟨A2, c2, rfl, hF2, hb2⟩) | (go_at_call 93; (with_reducible refine Calls.mono (stray_ h1) ?_); rintro e wb ⟨rfl, hb⟩))
      go_ret
      exact ⟨rfl, belL⟩
end Go.Proofs.YtljipbmmgcccnaaGreat.T
end
section
namespace Go.Proofs.YtljipbmmgcccnaaGreat.T
open Go.RowKit Go.Proofs.YtljipbmmgcccnaaGreatW.PrintWords Go.Proofs.YtljipbmmgcccnaaGreatW.PrintLast Go.Proofs.YtljipbmmgcccnaaGreatW.PrintMore
attribute [local go_sem] cell_tc frozen_tc max2_int min2_int
attribute [local go_sem ↓] Go.wp_at_zero Go.wp_at_succ
set_option linter.unusedVariables false
set_option linter.unusedSimpArgs false
set_option synthInstance.maxHeartbeats 400000
set_option synthInstance.maxSize 512
attribute [local go_sem] cell_tc2
theorem cloneTold_ {A : Option Addr} {n c : Nat} {l : List S77} {w : World} [h : Sr k77 w A n c l] (hn : n ≤ 1000000) :
    Calls Tryz.prog 110 #[.slice A n c] w fun e w' => ∃ A' c', e = .returned (.slice A' l.length c') ∧ FrL k77 77 w' w.heap.size (Under w'.heap.size) A' l.length c' l ∧ BelL w w' := by
  have := h.len; subst this
  refine (cloneTold A c l w h.C h.le (by omega)).mono ?_
  rintro e w' ⟨v, rfl, hR, hb⟩
  obtain ⟨A', c', rfl, hF⟩ := frl_of hR
  exact ⟨A', c', rfl, hF, ⟨hb⟩⟩
def NodeR (w' : World) (b : Nat) (v : Value) (x : S40) : Prop := ∃ A c B d I ci L cl, v = .agg #[.bool x.f0, .int .i64 x.f1.f0, .slice A x.f1.f1.length c, .slice B x.f1.f2.length d, .slice I x.f2.length ci, .slice L x.f3.length cl] ∧
  FrL k98 98 w' b (Under w'.heap.size) A x.f1.f1.length c x.f1.f1 ∧ FrL kI 3 w' b (Under w'.heap.size) B x.f1.f2.length d x.f1.f2 ∧ FrL k48 48 w' b (Under w'.heap.size) I x.f2.length ci x.f2 ∧ FrL k77 77 w' b (Under w'.heap.size) L x.f3.length cl x.f3
set_option maxRecDepth 100000 in
set_option maxHeartbeats 4000000 in
theorem nodeCopy_ {up : Bool} {id : Int} {A B I L : Option Addr} {n c m d ni ci nl cl : Nat} {ps : List S98} {xs : List Int} {is : List S48} {ls : List S77} {w : World} [h1 : Sr k98 w A n c ps] [h2 : Sr kI w B m d xs] [h3 : Sr k48 w I ni ci is] [h4 : Sr k77 w L nl cl ls] (hb : n ≤ 1000000 ∧ m ≤ 1000000 ∧ ni ≤ 1000000 ∧ nl ≤ 1000000) :
    Calls Tryz.prog 58 #[.agg #[.bool up, .int .i64 id, .slice A n c, .slice B m d, .slice I ni ci, .slice L nl cl]] w fun e w' => ∃ v, e = .returned v ∧ NodeR w' w.heap.size v ⟨up, ⟨id, ps, xs⟩, is, ls⟩ ∧ BelL w w' := by
  obtain rfl := h1.len
  obtain rfl := h2.len
  obtain rfl := h3.len
  obtain rfl := h4.len
  have s1 := sr_l h1
  have s2 := sr_l h2
  have s3 := sr_l h3
  have s4 := sr_l h4
  clear h1 h2 h3 h4
  obtain ⟨b1, b2, b3, b4⟩ := hb
  go_enter Tryz.func58, Tryz.ntmps58
  go_wp2_with (first | (with_reducible refine gate_dst (N := 1) rfl ?_; refine box_tc rfl (N := 1) rfl (cs := #[.bool up, .int .i64 id, .slice A ps.length c, .slice B xs.length d, .slice I is.length ci, .slice L ls.length cl]) (t := 40) ?hr ?_; (case hr => first | (go_simp; done) | (go_simp; rfl)); intro g1 wg1 _ _ _) | (with_reducible refine gate_dst (N := 2) rfl ?_; refine box_tc rfl (N := 2) rfl (cs := #[.bool false, .int .i64 0, .slice none 0 0, .slice none 0 0, .slice none 0 0, .slice none 0 0]) (t := 40) ?hr ?_; (case hr => first | (go_simp; done) | (go_simp; rfl)); intro g2 wg2 _ _ _))
  go_region_with (first | (go_at_call 37; (with_reducible refine Calls.mono (viewCopy_ b1 b2) ?_); rintro e w1 ⟨A1, c1, B1, d1, rfl, hFa, hFb, hb1⟩) | (go_at_call 109; (with_reducible refine Calls.mono (cloneItem_ b3) ?_); rintro e w2 ⟨A2, c2, rfl, hFc, hb2⟩) | (go_at_call 110; (with_reducible refine Calls.mono (cloneTold_ b4) ?_); rintro e w3 ⟨A3, c3, rfl, hFd, hb3⟩))
  all_goals
    go_wp2
    exact bodyPost_ret (v := .agg #[.bool up, .int .i64 id, .slice A1 ps.length c1, .slice B1 xs.length d1, .slice A2 is.length c2, .slice A3 ls.length c3]) (by simp [results, Tryz.results58, go_sem]) rfl ⟨_, rfl, ⟨_, _, _, _, _, _, _, _, rfl, frl, frl, frl, frl⟩, belL⟩
end Go.Proofs.YtljipbmmgcccnaaGreat.T
end
section
namespace Go.Proofs.YtljipbmmgcccnaaGreat.T
open Go.RowKit Go.Proofs.YtljipbmmgcccnaaGreatW.PrintWords Go.Proofs.YtljipbmmgcccnaaGreatW.PrintLast Go.Proofs.YtljipbmmgcccnaaGreatW.PrintMore
attribute [local go_sem] cell_tc frozen_tc max2_int min2_int
attribute [local go_sem ↓] Go.wp_at_zero Go.wp_at_succ
set_option linter.unusedVariables false
set_option linter.unusedSimpArgs false
set_option synthInstance.maxHeartbeats 400000
set_option synthInstance.maxSize 512
attribute [local go_sem] cell_tc2 frozen_row
theorem node_el {w0 W : World} {b : Nat} {S : Nat → Prop} {g n c : Nat} {l : List (Bool × S40)} {x : S40} (h : Fr (tg k40 w0) 40 W b S (some ⟨g, 0, none⟩) n c l) (i : Nat) (hi : i < l.length) (hf : l[i] = (false, x)) :
    ∃ A2 c2 A3 c3 A4 c4 A5 c5, CellL W ⟨g, i * 6, none⟩ (.bool x.f0) ∧ CellL W ⟨g, i * 6 + 1, none⟩ (.int .i64 x.f1.f0) ∧ CellL W ⟨g, i * 6 + 2, none⟩ (.slice A2 x.f1.f1.length c2) ∧ CellL W ⟨g, i * 6 + 3, none⟩ (.slice A3 x.f1.f2.length c3) ∧ CellL W ⟨g, i * 6 + 4, none⟩ (.slice A4 x.f2.length c4) ∧ CellL W ⟨g, i * 6 + 5, none⟩ (.slice A5 x.f3.length c5) ∧
      SrL k98 w0 A2 x.f1.f1.length c2 x.f1.f1 ∧ SrL kI w0 A3 x.f1.f2.length c3 x.f1.f2 ∧ SrL k48 w0 A4 x.f2.length c4 x.f2 ∧ SrL k77 w0 A5 x.f3.length c5 x.f3 := by
  obtain ⟨cs, h1, h2, h3⟩ := tg_at h i hi
  rw [hf] at h2
  have h2' : k40.K w0 x cs := h2
  obtain ⟨A2, c2, A3, c3, A4, c4, A5, c5, rfl, l2, q2, l3, q3, l4, q4, l5, q5⟩ := k40_open h2'
  exact ⟨A2, c2, A3, c3, A4, c4, A5, c5, ⟨h3 0 _ rfl⟩, ⟨h3 1 _ rfl⟩, ⟨h3 2 _ rfl⟩, ⟨h3 3 _ rfl⟩, ⟨h3 4 _ rfl⟩, ⟨h3 5 _ rfl⟩, ⟨rfl, l2, q2⟩, ⟨rfl, l3, q3⟩, ⟨rfl, l4, q4⟩, ⟨rfl, l5, q5⟩⟩
theorem R_at {α : Type} {k : Kd α} {W : World} {A : Option Addr} {n c e b b2 : Nat} {S : Nat → Prop} {xs : List α} (h : Fr k e W b2 S A n c xs) (hb : b ≤ b2) : k.R e W b (fun j => b2 ≤ j) (.slice A n c) xs :=
  Kd.R_mono (Kd.R_lower (Kd.R_bound h.R) hb) (fun j hj => hj.2.1)
theorem fr_any2 {α : Type} {k : Kd α} {W : World} {A : Option Addr} {n c e b : Nat} {S : Nat → Prop} {xs : List α} [h : Fr k e W b S A n c xs] {b' : Nat} [l : LeB b' b] : FrL k e W b' Any A n c xs := ⟨h.len, h.le, Kd.R_mono (Kd.R_lower h.R l.out) (fun _ _ => trivial)⟩
theorem node_set {w0 W : World} {b b2 : Nat} {S S1 S2 S3 S4 : Nat → Prop} {g n c n1 c1 n2 c2 n3 c3 n4 c4 : Nat} {A1 A2 A3 A4 : Option Addr} {l : List (Bool × S40)} {x : S40} (h : Fr (tg k40 w0) 40 W b S (some ⟨g, 0, none⟩) n c l) (i : Nat) (hi : i < l.length)
    (h1 : Fr k98 98 W b2 S1 A1 n1 c1 x.f1.f1) (h2 : Fr kI 3 W b2 S2 A2 n2 c2 x.f1.f2) (h3 : Fr k48 48 W b2 S3 A3 n3 c3 x.f2) (h4 : Fr k77 77 W b2 S4 A4 n4 c4 x.f3) (hb2 : b ≤ b2) (hg2 : g < b2) (hb : b ≤ W.heap.size) :
    FrL (tg k40 w0) 40 ((((((W.setCell ⟨g, i * 6, none⟩ (.bool x.f0)).setCell ⟨g, i * 6 + 1, none⟩ (.int .i64 x.f1.f0)).setCell ⟨g, i * 6 + 2, none⟩ (.slice A1 n1 c1)).setCell ⟨g, i * 6 + 3, none⟩ (.slice A2 n2 c2)).setCell ⟨g, i * 6 + 4, none⟩ (.slice A3 n3 c3)).setCell ⟨g, i * 6 + 5, none⟩ (.slice A4 n4 c4)) b Any (some ⟨g, 0, none⟩) n c (l.set i (true, x)) := by
  have hl := h.len
  obtain ⟨cs, q1, q2, q3⟩ := tg_at h i hi
  have e1 := h1.len
  have e2 := h2.len
  have e3 := h3.len
  have e4 := h4.len
  subst e1 e2 e3 e4
  have hs := Kd.R_seg (d := tg k40 w0) (okp := fun j => b2 ≤ j) h.any (i : Int) (by omega) (by omega) (j := 0) (seg := [.bool x.f0, .int .i64 x.f1.f0, .slice A1 x.f1.f1.length c1, .slice A2 x.f1.f2.length c2, .slice A3 x.f2.length c3, .slice A4 x.f3.length c4]) q1 (fun j u hj => q3 j u hj) (Nat.le_refl 6) (x' := (true, x))
    (by
      have e6 : cs.drop (0 + 6) = [] := List.drop_eq_nil_of_le (by rw [q1]; exact Nat.le_refl 6)
      show k40.M W b (fun j => b2 ≤ j) x (cs.take 0 ++ [.bool x.f0, .int .i64 x.f1.f0, .slice A1 x.f1.f1.length c1, .slice A2 x.f1.f2.length c2, .slice A3 x.f2.length c3, .slice A4 x.f3.length c4] ++ cs.drop (0 + 6))
      rw [e6, List.take_zero, List.nil_append, List.append_nil]
      exact k40_mkM W b _ x (R_at h1 hb2) (R_at h2 hb2) (R_at h3 hb2) (R_at h4 hb2)) (fun j hj => ⟨trivial, by omega⟩)
  exact ⟨by rw [List.length_set]; exact hl, h.le, hs.1⟩
theorem cloneCut0_ {B : Option Addr} {d : Nat} {w : World} : Calls Tryz.prog 118 #[.slice B 0 d] w fun e w' => ∃ B' d', e = .returned (.slice B' 0 d') ∧ BelL w w' := by
  refine (cloneCut B d [] w ⟨rfl, by decide, fun h => absurd h (Nat.lt_irrefl 0)⟩ (Nat.zero_le d) (by simp)).mono ?_
  rintro e w' ⟨v, rfl, hR, hb⟩
  obtain ⟨A', c', rfl, hF⟩ := frl_of hR
  exact ⟨A', c', rfl, ⟨hb⟩⟩
def WorldR (w' : World) (b : Nat) (v : Value) (ns : List S40) (ms : List S126) : Prop := ∃ A c B d C f, v = .agg #[.slice A ns.length c, .slice B 0 d, .slice C ms.length f] ∧ FrL k40 40 w' b (Under w'.heap.size) A ns.length c ns ∧ FrL k126 126 w' b (Under w'.heap.size) C ms.length f ms
def Both (u g : Nat) : Nat → Prop := fun k => k < u ∧ k ≠ g
theorem frl_both {α : Type} {k : Kd α} {W : World} {A : Option Addr} {n c e b g : Nat} {S : Nat → Prop} {xs : List α} [h : Fr k e W b S A n c xs] {b' : Nat} [l : LeB b' b] [q : Avoid g b S] : FrL k e W b' (Both W.heap.size g) A n c xs := ⟨h.len, h.le, Kd.R_mono (Kd.R_lower (Kd.R_bound h.R) l.out) (fun j hk => ⟨hk.2.2.1, q.out j hk.2.1 hk.1⟩)⟩
def WorldS (w' : World) (b : Nat) (v : Value) (ns : List S40) (ms : List S126) : Prop := ∃ gr c B d C f, v = .agg #[.slice (some ⟨gr, 0, none⟩) ns.length c, .slice B 0 d, .slice C ms.length f] ∧ FrL k40 40 w' b (Under w'.heap.size) (some ⟨gr, 0, none⟩) ns.length c ns ∧ FrL k126 126 w' b (Both w'.heap.size gr) C ms.length f ms ∧ RowL w' gr ∧ b ≤ gr
theorem nodeB_small {x : S40} (h : nodeB x = true) : x.f1.f1.length ≤ 1000000 ∧ x.f1.f2.length ≤ 1000000 ∧ x.f2.length ≤ 1000000 ∧ x.f3.length ≤ 1000000 := by
  have h1 := viewB_len (nodeB_view h)
  unfold nodeB at h; simp only [Bool.and_eq_true, decide_eq_true_eq] at h
  have h2 := storeB_len h.1.1.2
  have h3 := h.1.2
  omega
set_option maxRecDepth 100000 in
set_option maxHeartbeats 8000000 in
theorem worldCopyS_ {A B C : Option Addr} {n c d k f : Nat} {ns : List S40} {ms : List S126} {w : World} [h : Sr k40 w A n c ns] [q : Sr k126 w C k f ms] (h1 : nodesB ns = true) (h2 : queueB ms = true) :
    Calls Tryz.prog 65 #[.agg #[.slice A n c, .slice B 0 d, .slice C k f]] w fun e w' => ∃ v, e = .returned v ∧ WorldS w' w.heap.size v ns ms ∧ BelL w w' := by
  obtain rfl := h.len
  obtain rfl := q.len
  have s1 := sr_l h
  have s2 := sr_l q
  have L1 := nodesB_len h1
  have L2 := queueB_len h2
  have CO := Aside0.mk (show copyOk ms from fun m hm => Nat.le_trans (queueB_small h2 m hm) (by decide))
  have NB := Aside0.mk (fun (i : Nat) (hi : i < ns.length) => nodeB_small (nodesB_at h1 i hi).1)
  clear h q h1 h2
  go_enter Tryz.func65, Tryz.ntmps65
  go_upto_region 1 with (first | (with_reducible refine gate_dst (N := 1) rfl ?_; refine box_tc rfl (N := 1) rfl (cs := #[.slice A ns.length c, .slice B 0 d, .slice C ms.length f]) (t := 61) ?hr ?_; (case hr => first | (go_simp; done) | (go_simp; rfl)); intro g1 wg1 _ _ _) | (with_reducible refine gate_dst (N := 2) rfl ?_; refine box_tc rfl (N := 2) rfl (cs := #[.slice none 0 0, .slice none 0 0, .slice none 0 0]) (t := 61) ?hr ?_; (case hr => first | (go_simp; done) | (go_simp; rfl)); intro g2 wg2 _ _ _))
  (try simp only [Act.put, List.setIfInBounds_toArray, List.set_cons_zero, List.set_cons_succ])
  go_cut [] (fun wx => ∃ gr c1 B2 d2 C3 f3, BlkL wx g1 #[.slice (some ⟨gr, 0, none⟩) ns.length c1, .slice B2 0 d2, .slice C3 ms.length f3] 61 ∧ FrL (tg k40 w) 40 wx wg2.heap.size (But g1) (some ⟨gr, 0, none⟩) ns.length c1 (ns.map fun x => (false, x)) ∧ FrL k126 126 wx wg2.heap.size (But gr) C3 ms.length f3 ms ∧ KbL g1 wg2 wx ∧ RowL wx gr ∧ GEL wg2 gr)
  case first =>
    go_region_with (first | (go_at_call 117; (with_reducible refine Calls.mono (cloneNode_ (w0 := w) (by omega)) ?_); rintro e w1 ⟨A1, c1, rfl, hF1, hb1⟩; obtain ⟨gr, rfl, hrow, hgr⟩ := fr_form hF1 (by omega)) | (go_at_call 118; (with_reducible refine Calls.mono (cloneCut0_) ?_); rintro e w2 ⟨B2, d2, rfl, hb2⟩) | (go_at_call 119; (with_reducible refine Calls.mono (queueCopy_ (by omega) CO.out) ?_); rintro e w3 ⟨C3, f3, rfl, hF3, hb3⟩))
    all_goals
      go_wp2_with fail
      go_meet
      exact ⟨gr, c1, B2, d2, C3, f3, blkL, frl_but, frl_but, kbL, ⟨Row.out⟩, ⟨Nat.le_trans LeB.out hgr⟩⟩
  case rest =>
    obtain ⟨gr, c1, B2, d2, C3, f3, hB1, hF1, hF3, hk1, hrow, hge⟩ := hcut
    go_wp2
    go_loopg [3, 19] ns.length (fun kq v3 v19 w' => ∃ i : Nat, v19 = .int .i64 i ∧ i ≤ ns.length ∧ kq = ns.length - i ∧ FrL (tg k40 w) 40 w' wg2.heap.size Any (some ⟨gr, 0, none⟩) ns.length c1 (marks ns i) ∧ Kb gr wc w' ∧ RowL w' gr)
    case atStart => exact ⟨0, rfl, Nat.zero_le _, rfl, by rw [marks_zero]; exact fr_any2, inferInstance, ⟨Row.out⟩⟩
    case round =>
      obtain ⟨i, rfl, hi, rfl, hF, hkb, hrow2⟩ := hrel
      have hkb2 := kbL (h := hkb)
      by_cases hlt : i < ns.length
      · have hlm : i < (marks ns i).length := by rw [marks_len]; exact hlt
        have hma := marks_at hlt
        obtain ⟨A2, c2, A3, c3, A4, c4, A5, c5, hx0, hx1, hx2, hx3, hx4, hx5, hg2, hg3, hg4, hg5⟩ := node_el (fr_here (h := hF)) i hlm hma
        have hnb := NB.out i hlt
        have HF := Aside0.mk hF
        have HMA := Aside0.mk hma
        have HMN := Aside0.mk (marks_next hlt)
        have HLM := Aside0.mk hlm
        clear hma hlm hF
        go_wp2
        go_region_with (first | (go_at_call 58; (with_reducible refine Calls.mono (nodeCopy_ hnb) ?_); rintro e w9 ⟨v9, rfl, ⟨A6, c6, B6, d6, I6, ci6, L6, cl6, rfl, hF6, hG6, hH6, hK6⟩, hb9⟩))
        all_goals
          have HF2 := HF.out
          have hq : Fr (tg k40 w) 40 w9 wg2.heap.size Any (some ⟨gr, 0, none⟩) ns.length c1 (marks ns i) := inferInstance
          clear HF2
          have HW := Aside0.mk (node_set hq i HLM.out (fr_here (h := hF6)) (fr_here (h := hG6)) (fr_here (h := hH6)) (fr_here (h := hK6)) (LeB.out) (LtB.out) LeB.out)
          go_wp2
          go_roundg (ns.length - (i + 1))
          case measure => omega
          case rel => exact ⟨i + 1, by go_num, by omega, rfl, by rw [← HMN.out]; exact HW.out, inferInstance, ⟨Row.out⟩⟩
      · obtain rfl : i = ns.length := by omega
        rw [marks_all] at hF
        have hF9 : FrL k40 40 wr wg2.heap.size Any (some ⟨gr, 0, none⟩) ns.length c1 ns := ⟨rfl, hF.le, tg_done hF.R⟩
        clear hF
        go_wp2
        exact bodyPost_ret (v := .agg #[.slice (some ⟨gr, 0, none⟩) ns.length c1, .slice B2 0 d2, .slice C3 ms.length f3]) (by simp [results, Tryz.results65, go_sem]) rfl ⟨_, rfl, ⟨gr, _, _, _, _, _, rfl, frl, frl_both, ⟨Row.out⟩, Nat.le_trans (LeB.out (b := w.heap.size) (b' := wg2.heap.size)) hge.out⟩, belL⟩
theorem worldCopy_ {A B C : Option Addr} {n c d k f : Nat} {ns : List S40} {ms : List S126} {w : World} [h : Sr k40 w A n c ns] [q : Sr k126 w C k f ms] (h1 : nodesB ns = true) (h2 : queueB ms = true) :
    Calls Tryz.prog 65 #[.agg #[.slice A n c, .slice B 0 d, .slice C k f]] w fun e w' => ∃ v, e = .returned v ∧ WorldR w' w.heap.size v ns ms ∧ BelL w w' := by
  refine (worldCopyS_ h1 h2).mono ?_
  rintro e w' ⟨v, rfl, ⟨gr, c, B, d, C, f, rfl, h3, h4, _, _⟩, hb⟩
  exact ⟨_, rfl, ⟨_, _, _, _, _, _, rfl, h3, ⟨h4.len, h4.le, Kd.R_mono h4.R (fun _ hj => hj.1)⟩⟩, hb⟩
end Go.Proofs.YtljipbmmgcccnaaGreat.T
end
section
namespace Go.Proofs.YtljipbmmgcccnaaGreat.T
open Go.RowKit Go.Proofs.YtljipbmmgcccnaaGreatW.PrintWords Go.Proofs.YtljipbmmgcccnaaGreatW.PrintLast Go.Proofs.YtljipbmmgcccnaaGreatW.PrintMore
attribute [local go_sem] cell_tc frozen_tc max2_int min2_int
attribute [local go_sem ↓] Go.wp_at_zero Go.wp_at_succ
set_option linter.unusedVariables false
set_option linter.unusedSimpArgs false
set_option synthInstance.maxHeartbeats 400000
set_option synthInstance.maxSize 512
theorem setCells_row {w : World} {g o : Nat} {vs : List Value} {cur : Array Value} {t : TypeId} (hg : w.heap[g]? = some (.cells cur t (0, 0))) (hf : o + vs.length ≤ cur.size) (h1 : ∀ v ∈ vs, v.oneCell' = true) :
    w.setCells g o vs = w.setRow g (cur.toList.take o ++ vs ++ cur.toList.drop (o + vs.length)).toArray := by
  have a := run_storeCells_at (P := Tryz.prog) g o t vs 0 cur w hg (by simpa using hf) h1
  have b := run_storeCells_cells (P := Tryz.prog) g o vs 0 w (fun j hj => by rw [blk_cell hg]; simp; omega) (fun j _ => blk_frozen hg _) h1
  rw [b] at a
  simp only [Nat.add_zero] at a
  injection a
theorem run_clear_k {P : Program} (w : World) (t e ty et : TypeId) (z : Value) (zs : List Value) (g o m c : Nat) (cur : Array Value) (hu : P.underlying t = some (.slice e)) (hv : ∀ w, (zeroValue e).run P w = .ok z w) (hz : (Builtin.zeroCells z.cells m).toList = zs) (h1 : ∀ v ∈ zs, v.oneCell' = true)
    (hg : w.heap[g]? = some (.cells cur et (0, 0))) (hf : o + zs.length ≤ cur.size) (hm : 0 < m) :
    (Builtin.clear_ #[t] ty #[.slice (some ⟨g, o, none⟩) m c]).run P w = .ok (.tuple #[]) (w.setRow g (cur.toList.take o ++ zs ++ cur.toList.drop (o + zs.length)).toArray) := by
  have hst := run_storeCells_at (P := P) g o et zs 0 cur w hg (by simpa using hf) h1
  simp only [Nat.add_zero] at hst
  obtain ⟨q, rfl⟩ : ∃ q, m = q + 1 := ⟨m - 1, by omega⟩
  simp [Builtin.clear_, run_underlying hu, hv, hz, hst]
set_option maxRecDepth 100000 in
set_option maxHeartbeats 2000000 in
theorem deleteMsg0 (g n cap i j : Nat) (cur : Array Value) (xs : List Value) (w : World) (b0 : Nat) (hbg : b0 ≤ g) (hg : w.heap[g]? = some (.cells cur 126 (0, 0))) (hnc : n ≤ cap) (hcm : cap ≤ maxLen) (hcs : cur.size = cap * 11) (htake : cur.toList.take (n * 11) = xs) (h1x : ∀ u ∈ xs, u.oneCell' = true)
    (hj : j = i + 1) (hi : i < n) (hn : n ≤ 1000000) :
    Calls Tryz.prog 191 #[.slice (some ⟨g, 0, none⟩) n cap, .int .i64 i, .int .i64 j] w fun e w' => e = .returned (.slice (some ⟨g, 0, none⟩) (i + (n - j)) cap) ∧ w'.ownsRow b0 126 11 (.slice (some ⟨g, 0, none⟩) (i + (n - j)) cap) (i + (n - j)) (xs.take (i * 11) ++ xs.drop (j * 11)) ∧ w.grownBy w' (some g) := by
  have hxl : xs.length = n * 11 := by rw [← htake, List.length_take, Array.length_toList, hcs]; omega
  obtain ⟨i0, hi0, hz0, hzs, hzb⟩ := info_parts (P := Tryz.prog) (e := 126) (z := .agg #[.int .i64 0, .int .i64 0, .int .i64 0, .slice none 0 0, .int .i64 0, .int .i64 0, .int .i64 0, .int .i64 0, .int .i64 0, .bool false, .bool false]) (size := 11) (bytes := 104) (by kernel_rfl)
  have hsz : (Tryz.prog.info? 126).map (·.size) = some 11 := by rw [hi0]; simp [hzs]
  have hv : ∀ w, (zeroValue 126).run Tryz.prog w = .ok (.agg #[.int .i64 0, .int .i64 0, .int .i64 0, .slice none 0 0, .int .i64 0, .int .i64 0, .int .i64 0, .int .i64 0, .int .i64 0, .bool false, .bool false]) w := fun w => by simp [zeroValue, typeInfo, hi0, hz0]
  obtain ⟨news, hnews⟩ : ∃ news, news = xs.drop (j * 11) := ⟨_, rfl⟩
  have hnl : news.length = (n - j) * 11 := by rw [hnews, List.length_drop, hxl]; omega
  obtain ⟨A, hA, hsrc⟩ : ∃ A : Addr, (if cap = j then (some ⟨g, 0, none⟩ : Option Addr) else some ⟨g, j * 11, none⟩) = some A ∧ Aside0 (∀ t u, news[t]? = some u → w.drew.cell? (A.add t) = some u) := by
    by_cases h : cap = j
    · refine ⟨⟨g, 0, none⟩, by simp [h], ⟨fun t u hu => ?_⟩⟩
      have h0 : news.length = 0 := by rw [hnl]; omega
      rw [List.length_eq_zero_iff.1 h0] at hu
      simp at hu
    · refine ⟨⟨g, j * 11, none⟩, by simp [h], ⟨fun t u hu => ?_⟩⟩
      rw [hnews] at hu
      exact cell_own (blk_drew hg) htake (j * 11) t u hu
  have S1 := Aside0.mk (show news.length = (n - j) * 11 from hnl)
  have S2 := Aside0.mk (show ∀ u ∈ news, u.oneCell' = true from fun u hu => h1x u (List.mem_of_mem_drop (hnews ▸ hu)))
  have S3 := Aside0.mk (show ∀ t, t < news.length → (w.drew.cell? ⟨g, 0 + i * 11 + t, none⟩).isSome = true ∧ w.drew.frozen? ⟨g, 0 + i * 11 + t, none⟩ = false from fun t ht => by
    rw [hnl] at ht
    exact ⟨by rw [blk_cell (blk_drew hg)]; simp; omega, blk_frozen (blk_drew hg) _⟩)
  generalize hC1 : (cur.toList.take (0 + i * 11) ++ news ++ cur.toList.drop (0 + i * 11 + news.length)).toArray = C1
  have hC1s : C1.size = cap * 11 := by rw [← hC1]; simp only [List.size_toArray, List.length_append, List.length_take, List.length_drop, Array.length_toList, hcs, hnl]; omega
  obtain ⟨W1, hW1⟩ : ∃ W1, W1 = w.drew.setCells g (0 + i * 11) news := ⟨_, rfl⟩
  have hW1' : W1 = w.drew.setRow g C1 := by rw [hW1, ← hC1]; exact setCells_row (blk_drew hg) (by rw [hnl, hcs]; omega) S2.out
  have HA1 := Aside0.mk (show W1.heap[g]? = some (.cells C1 126 (0, 0)) by rw [hW1']; exact setRow_heap _ _ cur _ 126 (0, 0) (blk_drew hg))
  have HA3 := Aside0.mk (show w.grownBy W1 (some g) by rw [hW1']; exact ⟨rfl, rfl, rfl, by simp only [World.setRow, World.drew, Array.size_modify]; omega, fun k hk hne => setRow_other _ _ _ _ (fun e => hne (by rw [e]))⟩)
  generalize hC2 : (C1.toList.take ((i + (n - j)) * 11) ++ ([.int .i64 0, .int .i64 0, .int .i64 0, .slice none 0 0, .int .i64 0, .int .i64 0, .int .i64 0, .int .i64 0, .int .i64 0, .bool false, .bool false] : List Value) ++ C1.toList.drop ((i + (n - j)) * 11 + 11)).toArray = C2
  have hC2s : C2.size = cap * 11 := by rw [← hC2]; simp only [List.size_toArray, List.length_append, List.length_take, List.length_drop, Array.length_toList, hC1s, List.length_cons, List.length_nil]; omega
  have hm : n - (i + (n - j)) = 1 := by omega
  have hcl : ∀ ty c, (Builtin.clear_ #[59] ty #[.slice (some ⟨g, (i + (n - j)) * 11, none⟩) (n - (i + (n - j))) c]).run Tryz.prog W1 = .ok (.tuple #[]) (W1.setRow g C2) := fun ty c => by
    rw [← hC2, hm]
    exact run_clear_k W1 59 126 ty 126 _ ([.int .i64 0, .int .i64 0, .int .i64 0, .slice none 0 0, .int .i64 0, .int .i64 0, .int .i64 0, .int .i64 0, .int .i64 0, .bool false, .bool false] : List Value) g ((i + (n - j)) * 11) 1 c C1 Tryz.underlying59 hv (by kernel_rfl) (by intro u hu; simp only [List.mem_cons, List.not_mem_nil, or_false] at hu; rcases hu with rfl|rfl|rfl|rfl|rfl|rfl|rfl|rfl|rfl|rfl|rfl <;> rfl) HA1.out (by rw [hC1s]; simp only [List.length_cons, List.length_nil]; omega) (by omega)
  have HFIN := Aside0.mk (show C2.toList.take ((i + (n - j)) * 11) = xs.take (i * 11) ++ xs.drop (j * 11) by
    have h9 : cur.toList.length = cap * 11 := Array.length_toList.trans hcs
    rw [← hC2]
    show List.take _ (_ ++ _ ++ _) = _
    have e4 : (i + (n - j)) * 11 = (C1.toList.take ((i + (n - j)) * 11)).length := by rw [List.length_take, Array.length_toList, hC1s]; omega
    rw [List.append_assoc, List.take_append_of_le_length (Nat.le_of_eq e4), List.take_take, Nat.min_self, ← hC1]
    show List.take _ (_ ++ _ ++ _) = _
    have e5 : (i + (n - j)) * 11 = (cur.toList.take (0 + i * 11) ++ news).length := by rw [List.length_append, List.length_take, h9, hnl]; omega
    rw [e5, List.take_left, Nat.zero_add, ← hnews]
    congr 1
    rw [← htake, List.take_take, Nat.min_eq_left (by omega)])
  have HC2 := Aside0.mk hC2s
  have HXL := Aside0.mk hxl
  have HW := Aside0.mk hW1
  have HU := Aside0.mk hm
  have hjn : j ≤ n := by omega
  have hjc : j ≤ cap := by omega
  have hic : i ≤ cap := by omega
  have hij : ¬ ((i : Int) = (j : Int)) := by omega
  have hij2 : i ≤ j := by omega
  clear hW1 hW1' hC1 hC1s hC2 hC2s hg htake h1x hsz hv hcs hxl hnl hnews hj hm
  have mixed : Tryz.prog.follows Departure.mixedOrders = true := by kernel_rfl
  go_enter Tryz.func191, Tryz.ntmps191
  go_wp2_with fail
  go_region_law_o (refine step_append_room rfl (.tmp 22) (.tmp 25) 59 rfl 126 i0 11 Tryz.underlying59 hi0 hzs g 0 i cap (by simp [Act.eval, Act.put]) A (n - j) (cap - j) news (by simp [Act.eval, Act.put]) S1.out hsrc.out S2.out (by omega) S3.out ?_; rw [← HW.out])
  (try simp only [Act.put, List.setIfInBounds_toArray, List.set_cons_zero, List.set_cons_succ])
  have HO1 := Aside0.mk (show (W1.setRow g C2).ownsRow b0 126 11 (.slice (some ⟨g, 0, none⟩) (i + (n - j)) cap) (i + (n - j)) (xs.take (i * 11) ++ xs.drop (j * 11)) from
    ⟨by rw [List.length_append, List.length_take, List.length_drop, HXL.out]; omega, .inr ⟨g, cap, C2, rfl, hbg, setRow_heap _ _ C1 _ 126 (0, 0) HA1.out, by omega, hcm, HC2.out, HFIN.out⟩⟩)
  have HG1 := Aside0.mk (show w.grownBy (W1.setRow g C2) (some g) from
    ⟨HA3.out.os, HA3.out.tape, HA3.out.output, by have := HA3.out.size; simp only [World.setRow, Array.size_modify]; exact this, fun k hk hne => by rw [setRow_other _ _ _ _ (fun e => hne (by rw [e]))]; exact HA3.out.block k hk hne⟩)
  go_wp2
  go_ret
  exact ⟨rfl, HO1.out, HG1.out⟩
theorem deleteMsg_ {A : Option Addr} {n c i : Nat} {b : Nat} {S : Nat → Prop} {ms : List S126} {w : World} [h : Fr k126 126 w b S A n c ms] (hi : i < n) (hn : n ≤ 1000000) :
    Calls Tryz.prog 191 #[.slice A n c, .int .i64 i, .int .i64 (i + 1 : Nat)] w fun e w' => ∃ g, A = some ⟨g, 0, none⟩ ∧ e = .returned (.slice A (n - 1) c) ∧ FrL k126 126 w' b Any A (n - 1) c (ms.eraseIdx i) ∧ KbL g w w' := by
  have hlen := h.len
  obtain ⟨h0, inner, ho, hr⟩ := h.R
  have hl := ho.1
  rcases ho.2 with ⟨e1, e2⟩ | ⟨g, cap, cur, e1, hbg, hg, hnc, hcm, hcs, htake⟩
  · omega
  injection e1 with ea eb ec
  subst ea ec
  subst eb
  have h1x : ∀ u ∈ inner, u.oneCell' = true := by
    intro u hu
    obtain ⟨j, hj, rfl⟩ := List.getElem_of_mem hu
    have hl := hr.1
    have hd : j / 11 < ms.length := by rw [Nat.div_lt_iff_lt_mul (by decide)]; rw [show ms.length * 11 = inner.length from hl.symm]; exact hj
    obtain ⟨v3, h2, hv3⟩ := k126_openM (hr.2 (j / 11) ms[j / 11] (List.getElem?_eq_getElem hd))
    obtain ⟨A3, c3, rfl, _, _⟩ := Kd.R_reads hv3
    have h3 : ((inner.drop (j / 11 * 11)).take 11)[j % 11]? = some inner[j] := by
      rw [List.getElem?_take, if_pos (Nat.mod_lt _ (by decide)), List.getElem?_drop, show j / 11 * 11 + j % 11 = j by omega, List.getElem?_eq_getElem hj]
    rw [show k126.sz = 11 from rfl] at h2
    rw [h2] at h3
    have h4 : j % 11 < 11 := Nat.mod_lt _ (by decide)
    generalize j % 11 = q at h3 h4
    have h5 : inner[j] ∈ [Value.int .i64 _, _, _, _, _, _, _, _, _, _, _] := List.mem_of_getElem? h3
    simp only [List.mem_cons, List.not_mem_nil, or_false] at h5
    rcases h5 with e|e|e|e|e|e|e|e|e|e|e <;> rw [e] <;> rfl
  refine (deleteMsg0 g _ c i (i + 1) cur inner w b hbg hg hnc hcm hcs htake h1x rfl hi hn).mono ?_
  rintro e w' ⟨rfl, ho', hgr⟩
  have e3 : i + (ms.length - (i + 1)) = ms.length - 1 := by omega
  rw [e3] at ho' ⊢
  have hr' : Reps (k126.M w' b fun k => Any k ∧ some k ≠ (Value.slice (some ⟨g, 0, none⟩) (ms.length - 1) c).ownBlock) 11 ms inner :=
    hr.imp_ (fun p cs hp => k126.M_mono (fun k hk => ⟨trivial, hk.2⟩) (Kd.M_step hp (fun k hk hlt => hgr.block k hlt (fun e => hk.2 e))))
  have hd : ms.eraseIdx i = ms.take i ++ ms.drop (i + 1) := List.eraseIdx_eq_take_drop_succ ms i
  have hdl : (ms.take i ++ ms.drop (i + 1)).length = ms.length - 1 := by rw [← hd, List.length_eraseIdx_of_lt hi]
  refine ⟨g, rfl, rfl, ⟨by rw [hd]; exact hdl, by omega, ?_⟩, ⟨hgr.os.symm, hgr.tape.symm, hgr.output.symm, hgr.size, fun k hk hne => hgr.block k hk (fun e => hne (by injection e))⟩⟩
  rw [hd]
  exact ⟨fun _ _ => trivial, _, by rw [hdl]; exact ho', Reps.app_ (Reps.take_ hr' i (by omega)) (Reps.drop_ hr' (i + 1))⟩
end Go.Proofs.YtljipbmmgcccnaaGreat.T
end
section
namespace Go.Proofs.YtljipbmmgcccnaaGreat.T
open Go.RowKit Go.Proofs.YtljipbmmgcccnaaGreatW.PrintWords Go.Proofs.YtljipbmmgcccnaaGreatW.PrintLast Go.Proofs.YtljipbmmgcccnaaGreatW.PrintMore
attribute [local go_sem] cell_tc frozen_tc max2_int min2_int
attribute [local go_sem ↓] Go.wp_at_zero Go.wp_at_succ
set_option linter.unusedVariables false
set_option linter.unusedSimpArgs false
set_option synthInstance.maxHeartbeats 400000
set_option synthInstance.maxSize 512
attribute [local go_sem] cell_tc2
instance ne_row_a {W : World} {g g' : Nat} [k : GEL W g'] [h : Row W g] : NeB g g' := ⟨Nat.ne_of_lt (Nat.lt_of_lt_of_le (LtB.out (g := g) (b := W.heap.size)) k.out)⟩
instance ne_row_b {W : World} {g g' : Nat} [k : GEL W g] [h : Row W g'] : NeB g g' := ⟨Nat.ne_of_gt (Nat.lt_of_lt_of_le (LtB.out (g := g') (b := W.heap.size)) k.out)⟩
instance avoid_both_a {w : World} {g g' b : Nat} [h : GE w g'] : Avoid g' b (Both w.heap.size g) := ⟨fun k _ hs => by have := h.out; have := hs.1; omega⟩
instance avoid_both_b {u g b : Nat} : Avoid g b (Both u g) := ⟨fun k _ hs => hs.2⟩
theorem own_msg {W : World} {b : Nat} {S : Nat → Prop} {g n c : Nat} {ms : List S126} (h : Fr k126 126 W b S (some ⟨g, 0, none⟩) n c ms) (i : Nat) (hi : i < ms.length) :
    ∃ A3 c3, CellL W ⟨g, i * 11, none⟩ (.int .i64 ms[i].f0) ∧ CellL W ⟨g, i * 11 + 1, none⟩ (.int .i64 ms[i].f1) ∧ CellL W ⟨g, i * 11 + 2, none⟩ (.int .i64 ms[i].f2) ∧ CellL W ⟨g, i * 11 + 3, none⟩ (.slice A3 ms[i].f3.length c3) ∧ CellL W ⟨g, i * 11 + 4, none⟩ (.int .i64 ms[i].f4) ∧ CellL W ⟨g, i * 11 + 5, none⟩ (.int .i64 ms[i].f5.f0) ∧ CellL W ⟨g, i * 11 + 6, none⟩ (.int .i64 ms[i].f5.f1.f0) ∧ CellL W ⟨g, i * 11 + 7, none⟩ (.int .i64 ms[i].f5.f1.f1) ∧ CellL W ⟨g, i * 11 + 8, none⟩ (.int .i64 ms[i].f5.f2) ∧ CellL W ⟨g, i * 11 + 9, none⟩ (.bool ms[i].f5.f3) ∧ CellL W ⟨g, i * 11 + 10, none⟩ (.bool ms[i].f6) ∧ FrL kI 3 W b (Both W.heap.size g) A3 ms[i].f3.length c3 ms[i].f3 := by
  obtain ⟨h0, inner, ho, hr⟩ := h.R
  obtain ⟨v3, h2, hv3⟩ := k126_openM (hr.2 i ms[i] (List.getElem?_eq_getElem hi))
  obtain ⟨A3, c3, rfl, hF3⟩ := frl_of hv3
  have hc : ∀ j u, ((inner.drop (i * 11)).take 11)[j]? = some u → W.cell? ⟨g, i * 11 + j, none⟩ = some u := by
    intro j u hj
    rw [List.getElem?_take] at hj
    split at hj
    · rcases ho.2 with ⟨e1, e2⟩ | ⟨g', cap, cur, e1, hbg, hg, hnc, hcm, hcs, htake⟩
      · omega
      injection e1 with ea eb ec
      injection ea with ea
      injection ea with ea
      subst ea
      have := cell_own hg htake (i * 11) j u hj
      rwa [Addr.add_lit] at this
    · cases hj
  rw [show k126.sz = 11 from rfl] at h2
  rw [h2] at hc
  refine ⟨A3, c3, ⟨hc 0 _ rfl⟩, ⟨hc 1 _ rfl⟩, ⟨hc 2 _ rfl⟩, ⟨hc 3 _ rfl⟩, ⟨hc 4 _ rfl⟩, ⟨hc 5 _ rfl⟩, ⟨hc 6 _ rfl⟩, ⟨hc 7 _ rfl⟩, ⟨hc 8 _ rfl⟩, ⟨hc 9 _ rfl⟩, ⟨hc 10 _ rfl⟩, ⟨hF3.len, hF3.le, Kd.R_mono (Kd.R_bound hv3) (fun k hk => ⟨hk.2.2.1, fun e => hk.1.2 (by rw [e]; rfl)⟩)⟩⟩
set_option maxRecDepth 100000 in
set_option maxHeartbeats 4000000 in
theorem queueTake_ {A : Option Addr} {n c i : Nat} {ms : List S126} {w : World} [h : Sr k126 w A n c ms] (h1 : queueB ms = true) (hi : i < ms.length) :
    Calls Tryz.prog 163 #[.slice A n c, .int .i64 i] w fun e w' => ∃ m, ms[i]? = some m ∧ ∃ A3 c3 A' c', e = .returned (.tuple #[.agg #[.int .i64 m.f0, .int .i64 m.f1, .int .i64 m.f2, .slice A3 m.f3.length c3, .int .i64 m.f4, .int .i64 m.f5.f0, .int .i64 m.f5.f1.f0, .int .i64 m.f5.f1.f1, .int .i64 m.f5.f2, .bool m.f5.f3, .bool m.f6], .slice A' (ms.length - 1) c', .int .i64 0]) ∧ FrL kI 3 w' w.heap.size (Under w'.heap.size) A3 m.f3.length c3 m.f3 ∧ FrL k126 126 w' w.heap.size (Under w'.heap.size) A' (ms.length - 1) c' (ms.eraseIdx i) ∧ BelL w w' := by
  obtain rfl := h.len
  have s := sr_l h
  clear h
  have L := queueB_len h1
  have CO := Aside0.mk (show copyOk ms from fun m hm => Nat.le_trans (queueB_small h1 m hm) (by decide))
  have H1 := Aside0.mk h1
  have t1 : decide ((i : Int) < 0) = false := by simp
  have t2 : decide ((ms.length : Int) ≤ (i : Int)) = false := by simp; omega
  have t3 : IntKind.i64.wrap ((i : Int) + 1) = ((i + 1 : Nat) : Int) := by rw [IntKind.wrap_i64]; omega
  have hb : (i : Int) < (ms.length : Int) := by omega
  go_enter Tryz.func163, Tryz.ntmps163
  go_wp2_with (first | (with_reducible refine gate_dst (N := 4) rfl ?_; refine box_tc rfl (N := 4) rfl (cs := #[.int .i64 0, .int .i64 0, .int .i64 0, .slice none 0 0, .int .i64 0, .int .i64 0, .int .i64 0, .int .i64 0, .int .i64 0, .bool false, .bool false]) (t := 126) ?hr ?_; (case hr => first | (go_simp; done) | (go_simp; rfl)); intro g4 wg4 _ _ _) | (go_at_call 92; (with_reducible refine Calls.mono (queueMay_) ?_); rintro e wb ⟨rfl, hb⟩) | (go_at_call 119; (with_reducible refine Calls.mono (queueCopy_ (by omega) CO.out) ?_); rintro e w1 ⟨A1, c1, rfl, hF1, hb1⟩; obtain ⟨g, rfl, hrow, hgr⟩ := fr_form hF1 (by omega); have hge := GEL.mk hgr; obtain ⟨A3, c3, x0, x1, x2, x3, x4, x5, x6, x7, x8, x9, x10, hF3⟩ := own_msg (fr_here (h := hF1)) i hi) | (with_reducible refine gate_dst (N := 8) rfl ?_; refine box_tc rfl (N := 8) rfl (cs := #[.int .i64 0, .int .i64 0, .int .i64 0, .slice none 0 0, .int .i64 0, .int .i64 0, .int .i64 0, .int .i64 0, .int .i64 0, .bool false, .bool false]) (t := 126) ?hr ?_; (case hr => first | (go_simp; done) | (go_simp; rfl)); intro g8 wg8 _ _ _))
  go_region_with (first | (go_at_call 191; (with_reducible refine Calls.mono (deleteMsg_ hi (by omega)) ?_); rintro e w2 ⟨g2, hg2, rfl, hF2, hk2⟩; injection hg2 with hg2; injection hg2 with hg2; subst hg2))
  all_goals
    go_wp2
    exact bodyPost_ret (v := .tuple #[.agg #[.int .i64 ms[i].f0, .int .i64 ms[i].f1, .int .i64 ms[i].f2, .slice A3 ms[i].f3.length c3, .int .i64 ms[i].f4, .int .i64 ms[i].f5.f0, .int .i64 ms[i].f5.f1.f0, .int .i64 ms[i].f5.f1.f1, .int .i64 ms[i].f5.f2, .bool ms[i].f5.f3, .bool ms[i].f6], .slice (some ⟨g, 0, none⟩) (ms.length - 1) c1, .int .i64 0]) (by simp [results, Tryz.results163, go_sem]) rfl ⟨_, List.getElem?_eq_getElem hi, _, _, _, _, rfl, frl, frl, belL⟩
end Go.Proofs.YtljipbmmgcccnaaGreat.T
end
section
namespace Go.Proofs.YtljipbmmgcccnaaGreat.T
open Go.RowKit Go.Proofs.YtljipbmmgcccnaaGreatW.PrintWords Go.Proofs.YtljipbmmgcccnaaGreatW.PrintLast Go.Proofs.YtljipbmmgcccnaaGreatW.PrintMore
attribute [local go_sem] cell_tc frozen_tc max2_int min2_int
attribute [local go_sem ↓] Go.wp_at_zero Go.wp_at_succ
set_option linter.unusedVariables false
set_option linter.unusedSimpArgs false
set_option synthInstance.maxHeartbeats 400000
set_option synthInstance.maxSize 512
attribute [local go_sem] cell_tc2 frozen_row
instance nt_126_40 : NotTy 126 k40 40 := ⟨by decide⟩
instance : NeT 61 126 := ⟨by decide⟩
def Gap (u b2 : Nat) : Nat → Prop := fun j => j < u ∨ b2 ≤ j
instance avoid_gap {w : World} {g b b2 : Nat} [h : GE w g] [l : LtB g b2] : Avoid g b (Gap w.heap.size b2) := ⟨fun k _ hs => by have := h.out; have := l.out; unfold Gap at hs; omega⟩
section
variable {ops : Array Oper} {o : Oper} {a : Act} {Q : Exit → Act → World → Prop} {Kc : Act → World → Prop} {α : Type}
theorem app_own_step {k : Kd α} {e b u b2 : Nat} {S2 : Nat → Prop} {W : World} {A B : Option Addr} {n c m d : Nat} {xs ys : List α} {s x : Operand} {t : Nat}
    (hw : Region.wanted o (yielded ops a.tmps) = true) (ho : o.op = .call { callee := .builtin .append, args := #[s, x], argTypes := #[t, t] }) (ht : Tryz.prog.underlying t = some (.slice e)) (hs : a.eval s = .slice A n c) (hx : a.eval x = .slice B m d)
    [he : ElT k e] [h : Fr k e W b (Under u) A n c xs] [q : Fr k e W b2 S2 B m d ys] [l1 : LeB u b2] [l2 : LeB b b2] [hb : LeB b W.heap.size] [hb2 : LeB b2 W.heap.size] (hl : n + m ≤ 1000000)
    (hk : ∀ A' c' w1, FrL k e w1 b (Gap u b2) A' (n + m) c' (xs ++ ys) → BbL b W w1 → GrL e W w1 → Kc (a.put o.dst (.slice A' (n + m) c')) w1) : if Region.wanted o (yielded ops a.tmps) = true then Oper.wp Tryz.prog o a W Kc Q else Kc (a.put o.dst undef) W := by
  obtain ⟨z, bytes, hi, hz, hs0, hb0, hb1⟩ := he.out
  have hlen := h.len
  obtain ⟨B', d', hv, _, HR⟩ := OwnRow.reads (Kd.R_lower (Kd.R_bound q.R) l2.out).2
  injection hv with hv1 hv2 hv3
  subst hv1
  rw [← hv2] at HR
  have hm : ys.length = m := HR.1
  refine Kd.R_append_rows_step k (w0 := W) b hw s x t e z bytes ho ht hi hz hs0 hb0 (.slice A n c) xs ys B m d (Gap u b2) (fun j => b2 ≤ j) hs hx (Kd.R_mono h.R (fun j hj => .inl hj)) HR (fun x cs hx => k.M_mono (fun j hj => hj.1.2.1) hx) (fun j hj => ⟨.inr hj, fun e => ?_⟩) (fun j hj => .inr (Nat.le_trans hb2.out hj)) (Below.mono (Below.refl _ _) hb.out) hb.out ?_ ?_
  · have h5 := h.R.1 j e.symm
    unfold Under at h5
    have := l1.out
    have hj' : b2 ≤ j := hj
    omega
  · have : (xs.length + m) * bytes ≤ 1000000 * 112 := Nat.mul_le_mul (by omega) hb1
    omega
  · intro v1 w1 hR hB hg _
    obtain ⟨A', c', rfl, hc', _⟩ := Kd.R_reads hR
    have e1 : (xs ++ ys).length = n + m := by rw [List.length_append]; omega
    rw [e1] at hR hc' ⊢
    exact hk A' c' w1 ⟨e1, hc', hR⟩ (bb_of_grown h.any hb.out hg) ⟨_, hg, fun j hj => Kd.R_typed h.any j hj⟩
end
theorem run_min (a b : Nat) (ty : TypeId) (W : World) : (Builtin.min_ #[3, 3] ty #[.int .i64 (a : Int), .int .i64 (b : Int)]).run Tryz.prog W = .ok (.int .i64 (min a b : Nat)) W := by
  simp [Builtin.min_, Builtin.min2, go_sem]
  by_cases h : b < a
  · rw [if_pos h, Nat.min_eq_right (by omega)]
  · rw [if_neg h, Nat.min_eq_left (by omega)]
def sendQ (ps ms : List S126) : List S126 := ps ++ ms.take (min ms.length (512 - ps.length))
theorem sendQ_len (ps ms : List S126) : (sendQ ps ms).length = ps.length + (min ms.length (512 - ps.length)) := by unfold sendQ; rw [List.length_append, List.length_take, Nat.min_eq_left (by omega)]
theorem sr_take {α : Type} {k : Kd α} {w : World} {A : Option Addr} {n c : Nat} {xs : List α} (h : Sr k w A n c xs) (i : Nat) (hi : i ≤ n) : SrL k w A i c (xs.take i) := by
  have hl := h.len
  refine ⟨by rw [List.length_take]; omega, Nat.le_trans hi h.le, ⟨by rw [List.length_take]; omega, by have := h.C.2.1; omega, fun hp => ?_⟩⟩
  obtain ⟨ad, e, hc⟩ := h.C.2.2 (by omega)
  refine ⟨ad, e, fun j p hj => hc j p ?_⟩
  rw [List.getElem?_take] at hj
  split at hj
  · exact hj
  · cases hj
theorem mayB_parts {ns : List S40} {ms : List S126} (h : mayB ns ms = true) : nodesB ns = true ∧ queueB ms = true := by
  unfold mayB at h; simp only [Bool.and_eq_true] at h; exact h.1
set_option maxRecDepth 100000 in
set_option maxHeartbeats 8000000 in
theorem worldSend_ {A B C D : Option Addr} {n c d k f m g : Nat} {ns : List S40} {ps ms : List S126} {w : World} [h : Sr k40 w A n c ns] [q : Sr k126 w C k f ps] [r : Sr k126 w D m g ms] (h0 : nodesSz ns) (h1 : mayB ns ps = true) (h2 : mayB ns ms = true) :
    Calls Tryz.prog 162 #[.agg #[.slice A n c, .slice B 0 d, .slice C k f], .slice D m g] w fun e w' => ∃ v, e = .returned (.tuple #[v, .int .i64 0]) ∧ WorldR w' w.heap.size v ns (sendQ ps ms) ∧ BelL w w' := by
  obtain rfl := h.len
  obtain rfl := q.len
  obtain rfl := r.len
  have s1 := sr_l h
  have s2 := sr_l q
  have s3 := sr_l r
  have L2 := queueB_len (mayB_parts h1).2
  have L3 := queueB_len (mayB_parts h2).2
  have CO := Aside0.mk (show copyOk (ms.take (min ms.length (512 - ps.length))) from fun x hx => Nat.le_trans (queueB_small (mayB_parts h2).2 x (List.mem_of_mem_take hx)) (by decide))
  have N1 := Aside0.mk (mayB_parts h1).1
  have Q1 := Aside0.mk (mayB_parts h1).2
  have him : (min ms.length (512 - ps.length)) ≤ ms.length := by omega
  have s4 := sr_take r (min ms.length (512 - ps.length)) him
  have t1 : IntKind.i64.wrap (512 - (ps.length : Int)) = ((512 - ps.length : Nat) : Int) := by rw [IntKind.wrap_i64]; omega
  have hmin := fun ty W => run_min ms.length (512 - ps.length) ty W
  have hig : (min ms.length (512 - ps.length)) ≤ g := Nat.le_trans him r.le
  have mixed : Tryz.prog.follows Departure.mixedOrders = true := by kernel_rfl
  clear h q r
  go_enter Tryz.func162, Tryz.ntmps162
  go_wp2_with (first | (with_reducible refine gate_dst (N := 2) rfl ?_; refine box_tc rfl (N := 2) rfl (cs := #[.slice A ns.length c, .slice B 0 d, .slice C ps.length f]) (t := 61) ?hr ?_; (case hr => first | (go_simp; done) | (go_simp; rfl)); intro g2 wg2 _ _ _) | (with_reducible refine gate_dst (N := 4) rfl ?_; refine box_tc rfl (N := 4) rfl (cs := #[.slice none 0 0, .slice none 0 0, .slice none 0 0]) (t := 61) ?hr ?_; (case hr => first | (go_simp; done) | (go_simp; rfl)); intro g4 wg4 _ _ _) | (with_reducible refine gate_dst (N := 6) rfl ?_; refine box_tc rfl (N := 6) rfl (cs := #[.slice none 0 0, .slice none 0 0, .slice none 0 0]) (t := 61) ?hr ?_; (case hr => first | (go_simp; done) | (go_simp; rfl)); intro g6 wg6 _ _ _) | (with_reducible refine gate_dst (N := 7) rfl ?_; refine box_tc rfl (N := 7) rfl (cs := #[.slice none 0 0, .slice none 0 0, .slice none 0 0]) (t := 61) ?hr ?_; (case hr => first | (go_simp; done) | (go_simp; rfl)); intro g7 wg7 _ _ _) | (go_at_call 33; (with_reducible refine Calls.mono (worldMay_ h0) ?_); rintro e wb ⟨rfl, hb⟩) | (go_at_call 65; (with_reducible refine Calls.mono (worldCopy_ N1.out Q1.out) ?_); rintro e w1 ⟨v1, rfl, ⟨A1, c1, B1, d1, C1, f1, rfl, hF1, hF2⟩, hb1⟩))
  go_region_law_o (first | (refine app_own_step (k := k126) (t := 59) (u := w1.heap.size) (A := C1) (n := ps.length) (c := f1) (B := A2) (m := (min ms.length (512 - ps.length))) (d := c2) (by rfl) (by rfl) Tryz.underlying59 (by rfl) (by rfl) (by omega) ?_; intro A8 c8 w8 hFa8 hba8 hgr8) | (go_simp; (go_at_call 119; (with_reducible refine Calls.mono (queueCopy_ (ms := ms.take (min ms.length (512 - ps.length))) (by omega) CO.out) ?_); rintro e w2 ⟨A2, c2, rfl, hF3, hb2⟩)))
  all_goals
    go_wp2
    exact bodyPost_ret (v := .tuple #[.agg #[.slice A1 ns.length c1, .slice B1 0 d1, .slice A8 (ps.length + (min ms.length (512 - ps.length))) c8], .int .i64 0]) (by simp [results, Tryz.results162, go_sem]) rfl ⟨_, rfl, ⟨A1, c1, B1, d1, A8, c8, by rw [sendQ_len], frl, by rw [sendQ_len]; exact frl⟩, belL⟩
end Go.Proofs.YtljipbmmgcccnaaGreat.T
end
section
namespace Go.Proofs.YtljipbmmgcccnaaGreat.T
open Go.RowKit Go.Proofs.YtljipbmmgcccnaaGreatW.PrintWords Go.Proofs.YtljipbmmgcccnaaGreatW.PrintLast Go.Proofs.YtljipbmmgcccnaaGreatW.PrintMore
attribute [local go_sem] cell_tc frozen_tc max2_int min2_int
attribute [local go_sem ↓] Go.wp_at_zero Go.wp_at_succ
set_option linter.unusedVariables false
set_option linter.unusedSimpArgs false
set_option synthInstance.maxHeartbeats 400000
set_option synthInstance.maxSize 512
attribute [local go_sem] cell_tc2 frozen_row
section
variable {ops : Array Oper} {rest : List Oper} {o : Oper} {a : Act} {Q : Exit → Act → World → Prop}
theorem fr_none {W : World} : Fr kI 3 W W.heap.size Any none 0 0 [] := fr_here (h := frl_nil)
theorem app_msg {b u b3 : Nat} {S3 : Nat → Prop} {W : World} {A A3 : Option Addr} {n c n3 c3 g : Nat} {xs : List S126} {s x : Operand} {t : Nat} {f0 f1 f2 f4 k cc wr v : Int} {gn hs_ : Bool} {ids : List Int}
    (q : Fr kI 3 W b3 S3 A3 n3 c3 ids) (l1 : u ≤ b3) (l2 : b ≤ b3)
    (hgd : o.guard = none) (ho : o.op = .call { callee := .builtin .append, args := #[s, x], argTypes := #[t, t] }) (ht : Tryz.prog.underlying t = some (.slice 126)) (hs : a.eval s = .slice A n c) (hx : a.eval x = .slice (some ⟨g, 0, none⟩) 1 1)
    [h : Fr k126 126 W b (Under u) A n c xs] [hB : Blk W g #[.int .i64 f0, .int .i64 f1, .int .i64 f2, .slice A3 n3 c3, .int .i64 f4, .int .i64 k, .int .i64 cc, .int .i64 wr, .int .i64 v, .bool gn, .bool hs_] 126] [hb : LeB b W.heap.size] (hl : n + 1 ≤ 1000000)
    (hk : ∀ A' c' w1, FrL k126 126 w1 b Any A' (n + 1) c' (xs ++ [(⟨f0, f1, f2, ids, f4, ⟨k, ⟨cc, wr⟩, v, gn⟩, hs_⟩ : S126)]) → BbL b W w1 → GrL 126 W w1 → wpList Tryz.prog ops Q rest (a.put o.dst (.slice A' (n + 1) c')) w1) : wpList Tryz.prog ops Q (o :: rest) a W := by
  have hR3 : kI.R 3 W b (fun j => b3 ≤ j) (.slice A3 n3 c3) ids := Kd.R_mono (Kd.R_lower (Kd.R_bound q.R) l2) (fun j hj => hj.2.1)
  refine app_gen (okp := fun j => b3 ≤ j) (Rr := k126.M W b fun j => b3 ≤ j) (ys := [(⟨f0, f1, f2, ids, f4, ⟨k, ⟨cc, wr⟩, v, gn⟩, hs_⟩ : S126)]) hgd ho ht hs hx inferInstance h ⟨rfl, by decide, fun _ => ⟨_, rfl, fun j p hj => ?_⟩⟩ (fun _ _ hx => hx) (fun j hj e => ?_) hb.out hl hk
  · cases j with
    | succ j => simp at hj
    | zero =>
      simp at hj
      subst hj
      refine ⟨_, rfl, k126_mkM W b _ ⟨f0, f1, f2, ids, f4, ⟨k, ⟨cc, wr⟩, v, gn⟩, hs_⟩ hR3, fun i u hu => ?_⟩
      rw [Addr.add_lit, blk_cell hB.out]
      simpa using hu
  · have h5 := h.R.1 j e.symm
    unfold Under at h5
    have hj' : b3 ≤ j := hj
    omega
end
def shareTo (v : S25) (key : Int) : Int := if (vownI v key == v.f0) then succI v else vownI v key
def shareM (v : S25) (i : S48) : Option S126 := if shareTo v i.f0 == v.f0 then none else some ⟨1, v.f0, shareTo v i.f0, [], 0, i, false⟩
def shareL (v : S25) (is : List S48) : List S126 := is.filterMap (shareM v)
theorem shareL_len (v : S25) (is : List S48) : (shareL v is).length ≤ is.length := List.length_filterMap_le _ _
theorem shareL_next (v : S25) (is : List S48) {i : Nat} (h : i < is.length) : shareL v (is.take (i + 1)) = shareL v (is.take i) ++ (shareM v is[i]).toList := by
  unfold shareL
  rw [List.take_succ_eq_append_getElem h, List.filterMap_append]
  congr 1
set_option maxRecDepth 100000 in
set_option maxHeartbeats 8000000 in
theorem shareOf_ {id : Int} {A B I L : Option Addr} {n c m d ni ci nl cl : Nat} {ps : List S98} {xs : List Int} {is : List S48} {ls : List S77} {w : World} [h1 : Sr k98 w A n c ps] [h2 : Sr kI w B m d xs] [h3 : Sr k48 w I ni ci is] [h4 : Sr k77 w L nl cl ls] (hn : nodeB ⟨true, ⟨id, ps, xs⟩, is, ls⟩ = true) :
    Calls Tryz.prog 161 #[.agg #[.bool true, .int .i64 id, .slice A n c, .slice B m d, .slice I ni ci, .slice L nl cl]] w fun e w' => ∃ A' c', e = .returned (.tuple #[.slice A' (shareL ⟨id, ps, xs⟩ is).length c', .int .i64 0]) ∧ FrL k126 126 w' w.heap.size (Under w'.heap.size) A' (shareL ⟨id, ps, xs⟩ is).length c' (shareL ⟨id, ps, xs⟩ is) ∧ BelL w w' := by
  obtain rfl := h1.len
  obtain rfl := h2.len
  obtain rfl := h3.len
  obtain rfl := h4.len
  have s1 := sr_l h1
  have s2 := sr_l h2
  have s3 := sr_l h3
  have s4 := sr_l h4
  clear h1 h2 h3 h4
  obtain ⟨b1, b2, b3, b4⟩ := nodeB_small hn
  have hup : (true && nodeB ⟨true, ⟨id, ps, xs⟩, is, ls⟩) = true := by rw [hn]; rfl
  go_enter Tryz.func161, Tryz.ntmps161
  go_wp2_with (first | (with_reducible refine gate_dst (N := 1) rfl ?_; refine box_tc rfl (N := 1) rfl (cs := #[.bool true, .int .i64 id, .slice A ps.length c, .slice B xs.length d, .slice I is.length ci, .slice L ls.length cl]) (t := 40) ?hr ?_; (case hr => first | (go_simp; done) | (go_simp; rfl)); intro g1 wg1 _ _ _) | (go_at_call 56; (with_reducible refine Calls.mono (nodeUp_ (by omega)) ?_); rintro e wb ⟨rfl, hb⟩; rw [hup]) | (go_at_call 32; (with_reducible refine Calls.mono (succ_) ?_); rintro e wc ⟨rfl, hb⟩))
  go_loopg [4, 23] is.length (fun kq v4 v23 w' => ∃ (i : Nat) (A' : Option Addr) (c' : Nat), v23 = .int .i64 i ∧ i ≤ is.length ∧ kq = is.length - i ∧ v4 = .slice A' (shareL ⟨id, ps, xs⟩ (is.take i)).length c' ∧ FrL k126 126 w' wc.heap.size (Under w'.heap.size) A' (shareL ⟨id, ps, xs⟩ (is.take i)).length c' (shareL ⟨id, ps, xs⟩ (is.take i)) ∧ BelL wc w')
  case atStart => exact ⟨0, none, 0, rfl, Nat.zero_le _, rfl, rfl, frl_nil, belL⟩
  case round =>
    obtain ⟨i, A', c', rfl, hi, rfl, rfl, hF, hbr⟩ := hrel
    by_cases hlt : i < is.length
    · obtain ⟨ad, rfl, x0, x1, x2, x3, x4⟩ := el_T48 (W := wc) (A := I) (n := is.length) (c := ci) (l := is) i hlt
      have HN := Aside0.mk (shareL_next ⟨id, ps, xs⟩ is hlt)
      have hML : (shareL ⟨id, ps, xs⟩ (is.take i)).length ≤ i := Nat.le_trans (shareL_len ⟨id, ps, xs⟩ (is.take i)) (by rw [List.length_take]; omega)
      generalize hM : shareL ⟨id, ps, xs⟩ (is.take i) = M at hF HN hML
      cases hA : (vownI ⟨id, ps, xs⟩ is[i].f0 == id)
      · have hB := hA
        have hA' : (vownI ⟨id, ps, xs⟩ is[i].f0 != id) = true := by simp [bne, hA]
        have HV := Aside0.mk (show (shareM ⟨id, ps, xs⟩ is[i]).toList = [(⟨1, id, vownI ⟨id, ps, xs⟩ is[i].f0, [], 0, ⟨is[i].f0, ⟨is[i].f1.f0, is[i].f1.f1⟩, is[i].f2, is[i].f3⟩, false⟩ : S126)] by simp [shareM, shareTo, hA, hB])
        go_wp2_with (first | (with_reducible refine gate_dst (N := 8) rfl ?_; refine box_tc rfl (N := 8) rfl (cs := #[.int .i64 0, .int .i64 0, .int .i64 0, .int .i64 0, .bool false]) (t := 48) ?hr ?_; (case hr => first | (go_simp; done) | (go_simp; rfl)); intro g8 wg8 _ _ _) | (go_at_call 172; (with_reducible refine Calls.mono (viewOwner_) ?_); rintro e wd ⟨rfl, hb⟩) | ((with_reducible refine gate_dst (N := 53) rfl ?_); refine lit_tc ?hg (N := 53) ?hd (cs := #[.int .i64 1, .int .i64 id, .int .i64 (vownI ⟨id, ps, xs⟩ is[i].f0), .slice none 0 0, .int .i64 0, .int .i64 is[i].f0, .int .i64 is[i].f1.f0, .int .i64 is[i].f1.f1, .int .i64 is[i].f2, .bool is[i].f3, .bool false]) (t := 126) (m := 1) ?hr ?_; (case hd => rfl); (case hg => rfl); (case hr => first | (go_simp; done) | (go_simp; rfl)); intro g9 wg9 _ _ _) | ((with_reducible refine gate_dst (N := 54) rfl ?_); refine app_msg (t := 59) (u := wr.heap.size) (b := wc.heap.size) (A := A') (n := M.length) (c := c') (g := g9) fr_none LeB.out LeB.out (by rfl) (by rfl) Tryz.underlying59 (by rfl) (by rfl) (by omega) ?_; intro A9 c9 w9 _ _ _))
        have HX := Aside0.mk (show shareL ⟨id, ps, xs⟩ (is.take (i + 1)) = M ++ [_] from HN.out.trans (by rw [HV.out]))
        go_roundg (is.length - (i + 1))
        case measure => omega
        case rel => exact ⟨i + 1, A9, c9, by go_num, by omega, rfl, by rw [HX.out, List.length_append]; rfl, by rw [HX.out, List.length_append]; exact frl, belL⟩
      · cases hB : (succI ⟨id, ps, xs⟩ == id)
        · have hB' : (succI ⟨id, ps, xs⟩ != id) = true := by simp [bne, hB]
          have HV := Aside0.mk (show (shareM ⟨id, ps, xs⟩ is[i]).toList = [(⟨1, id, succI ⟨id, ps, xs⟩, [], 0, ⟨is[i].f0, ⟨is[i].f1.f0, is[i].f1.f1⟩, is[i].f2, is[i].f3⟩, false⟩ : S126)] by simp [shareM, shareTo, hA, hB])
          go_wp2_with (first | (with_reducible refine gate_dst (N := 8) rfl ?_; refine box_tc rfl (N := 8) rfl (cs := #[.int .i64 0, .int .i64 0, .int .i64 0, .int .i64 0, .bool false]) (t := 48) ?hr ?_; (case hr => first | (go_simp; done) | (go_simp; rfl)); intro g8 wg8 _ _ _) | (go_at_call 172; (with_reducible refine Calls.mono (viewOwner_) ?_); rintro e wd ⟨rfl, hb⟩) | ((with_reducible refine gate_dst (N := 53) rfl ?_); refine lit_tc ?hg (N := 53) ?hd (cs := #[.int .i64 1, .int .i64 id, .int .i64 (succI ⟨id, ps, xs⟩), .slice none 0 0, .int .i64 0, .int .i64 is[i].f0, .int .i64 is[i].f1.f0, .int .i64 is[i].f1.f1, .int .i64 is[i].f2, .bool is[i].f3, .bool false]) (t := 126) (m := 1) ?hr ?_; (case hd => rfl); (case hg => rfl); (case hr => first | (go_simp; done) | (go_simp; rfl)); intro g9 wg9 _ _ _) | ((with_reducible refine gate_dst (N := 54) rfl ?_); refine app_msg (t := 59) (u := wr.heap.size) (b := wc.heap.size) (A := A') (n := M.length) (c := c') (g := g9) fr_none LeB.out LeB.out (by rfl) (by rfl) Tryz.underlying59 (by rfl) (by rfl) (by omega) ?_; intro A9 c9 w9 _ _ _))
          have HX := Aside0.mk (show shareL ⟨id, ps, xs⟩ (is.take (i + 1)) = M ++ [_] from HN.out.trans (by rw [HV.out]))
          go_roundg (is.length - (i + 1))
          case measure => omega
          case rel => exact ⟨i + 1, A9, c9, by go_num, by omega, rfl, by rw [HX.out, List.length_append]; rfl, by rw [HX.out, List.length_append]; exact frl, belL⟩
        · have hB' : (succI ⟨id, ps, xs⟩ != id) = false := by simp [bne, hB]
          have HV := Aside0.mk (show (shareM ⟨id, ps, xs⟩ is[i]).toList = [] by simp [shareM, shareTo, hA, hB])
          go_wp2_with (first | (with_reducible refine gate_dst (N := 8) rfl ?_; refine box_tc rfl (N := 8) rfl (cs := #[.int .i64 0, .int .i64 0, .int .i64 0, .int .i64 0, .bool false]) (t := 48) ?hr ?_; (case hr => first | (go_simp; done) | (go_simp; rfl)); intro g8 wg8 _ _ _) | (go_at_call 172; (with_reducible refine Calls.mono (viewOwner_) ?_); rintro e wd ⟨rfl, hb⟩))
          have HX := Aside0.mk (show shareL ⟨id, ps, xs⟩ (is.take (i + 1)) = M from HN.out.trans (by rw [HV.out, List.append_nil]))
          go_roundg (is.length - (i + 1))
          case measure => omega
          case rel => exact ⟨i + 1, A', c', by go_num, by omega, rfl, by rw [HX.out], by rw [HX.out]; exact frl, belL⟩
    · obtain rfl : i = is.length := by omega
      rw [List.take_length] at hF ⊢
      go_wp2
      go_ret2
      exact ⟨_, _, rfl, frl, belL⟩
end Go.Proofs.YtljipbmmgcccnaaGreat.T
end
section
namespace Go.Proofs.YtljipbmmgcccnaaGreat.T
open Go.RowKit Go.Proofs.YtljipbmmgcccnaaGreatW.PrintWords Go.Proofs.YtljipbmmgcccnaaGreatW.PrintLast Go.Proofs.YtljipbmmgcccnaaGreatW.PrintMore
attribute [local go_sem] cell_tc frozen_tc max2_int min2_int
attribute [local go_sem ↓] Go.wp_at_zero Go.wp_at_succ
set_option linter.unusedVariables false
set_option linter.unusedSimpArgs false
set_option synthInstance.maxHeartbeats 400000
set_option synthInstance.maxSize 512
attribute [local go_sem] cell_tc2
def takeL (is : List S48) (i : S48) : List S48 := if putE is i == 0 then putL is i else is
set_option maxRecDepth 100000 in
set_option maxHeartbeats 8000000 in
theorem takeItem_ {id k cc x v : Int} {g : Bool} {A B I L : Option Addr} {n c m d ni ci nl cl : Nat} {ps : List S98} {xs : List Int} {is : List S48} {ls : List S77} {w : World} [h1 : Sr k98 w A n c ps] [h2 : Sr kI w B m d xs] [h3 : Sr k48 w I ni ci is] [h4 : Sr k77 w L nl cl ls] (hn : nodeB ⟨true, ⟨id, ps, xs⟩, is, ls⟩ = true) (hi : itemB k cc x v g = true) :
    Calls Tryz.prog 19 #[.agg #[.bool true, .int .i64 id, .slice A n c, .slice B m d, .slice I ni ci, .slice L nl cl], .agg #[.int .i64 k, .int .i64 cc, .int .i64 x, .int .i64 v, .bool g]] w fun e w' => ∃ v', e = .returned (.tuple #[v', .int .i64 0]) ∧ NodeR w' w.heap.size v' ⟨true, ⟨id, ps, xs⟩, takeL is ⟨k, ⟨cc, x⟩, v, g⟩, ls⟩ ∧ BelL w w' := by
  obtain rfl := h1.len
  obtain rfl := h2.len
  obtain rfl := h3.len
  obtain rfl := h4.len
  have s1 := sr_l h1
  have s2 := sr_l h2
  have s3 := sr_l h3
  have s4 := sr_l h4
  clear h1 h2 h3 h4
  have hb := nodeB_small hn
  have hup : (true && nodeB ⟨true, ⟨id, ps, xs⟩, is, ls⟩) = true := by rw [hn]; rfl
  cases hp : (putE is ⟨k, ⟨cc, x⟩, v, g⟩ == 0)
  · rw [show takeL is ⟨k, ⟨cc, x⟩, v, g⟩ = is by simp [takeL, hp]]
    go_enter Tryz.func19, Tryz.ntmps19
    go_wp2_with (first | (with_reducible refine gate_dst (N := 2) rfl ?_; refine box_tc rfl (N := 2) rfl (cs := #[.bool true, .int .i64 id, .slice A ps.length c, .slice B xs.length d, .slice I is.length ci, .slice L ls.length cl]) (t := 40) ?hr ?_; (case hr => first | (go_simp; done) | (go_simp; rfl)); intro g2 wg2 _ _ _) | (with_reducible refine gate_dst (N := 3) rfl ?_; refine box_tc rfl (N := 3) rfl (cs := #[.int .i64 k, .int .i64 cc, .int .i64 x, .int .i64 v, .bool g]) (t := 48) ?hr ?_; (case hr => first | (go_simp; done) | (go_simp; rfl)); intro g3 wg3 _ _ _) | (with_reducible refine gate_dst (N := 4) rfl ?_; refine box_tc rfl (N := 4) rfl (cs := #[.bool false, .int .i64 0, .slice none 0 0, .slice none 0 0, .slice none 0 0, .slice none 0 0]) (t := 40) ?hr ?_; (case hr => first | (go_simp; done) | (go_simp; rfl)); intro g4 wg4 _ _ _) | (with_reducible refine gate_dst (N := 6) rfl ?_; refine box_tc rfl (N := 6) rfl (cs := #[.bool false, .int .i64 0, .slice none 0 0, .slice none 0 0, .slice none 0 0, .slice none 0 0]) (t := 40) ?hr ?_; (case hr => first | (go_simp; done) | (go_simp; rfl)); intro g6 wg6 _ _ _) | (go_at_call 56; (with_reducible refine Calls.mono (nodeUp_ (by omega)) ?_); rintro e wb ⟨rfl, hb5⟩; rw [hup]) | (go_at_call 57; (with_reducible refine Calls.mono itemMay_ ?_); rintro e wc ⟨rfl, hb6⟩; rw [hi]) | (go_at_call 58; (with_reducible refine Calls.mono (nodeCopy_ hb) ?_); rintro e w9 ⟨v9, rfl, ⟨A6, c6, B6, d6, I6, ci6, L6, cl6, rfl, hF6, hG6, hH6, hK6⟩, hb9⟩) | (go_at_call 59; (with_reducible refine Calls.mono (put_) ?_); rintro e wp ⟨A7, c7, rfl, hF7, hbp⟩))
    exact bodyPost_ret (v := .tuple #[.agg #[.bool true, .int .i64 id, .slice A6 ps.length c6, .slice B6 xs.length d6, .slice I6 is.length ci6, .slice L6 ls.length cl6], .int .i64 0]) (by simp [results, Tryz.results19, go_sem]) rfl ⟨_, rfl, ⟨_, _, _, _, _, _, _, _, rfl, frl, frl, frl, frl⟩, belL⟩
  · rw [show takeL is ⟨k, ⟨cc, x⟩, v, g⟩ = putL is ⟨k, ⟨cc, x⟩, v, g⟩ by simp [takeL, hp]]
    go_enter Tryz.func19, Tryz.ntmps19
    go_wp2_with (first | (with_reducible refine gate_dst (N := 2) rfl ?_; refine box_tc rfl (N := 2) rfl (cs := #[.bool true, .int .i64 id, .slice A ps.length c, .slice B xs.length d, .slice I is.length ci, .slice L ls.length cl]) (t := 40) ?hr ?_; (case hr => first | (go_simp; done) | (go_simp; rfl)); intro g2 wg2 _ _ _) | (with_reducible refine gate_dst (N := 3) rfl ?_; refine box_tc rfl (N := 3) rfl (cs := #[.int .i64 k, .int .i64 cc, .int .i64 x, .int .i64 v, .bool g]) (t := 48) ?hr ?_; (case hr => first | (go_simp; done) | (go_simp; rfl)); intro g3 wg3 _ _ _) | (with_reducible refine gate_dst (N := 4) rfl ?_; refine box_tc rfl (N := 4) rfl (cs := #[.bool false, .int .i64 0, .slice none 0 0, .slice none 0 0, .slice none 0 0, .slice none 0 0]) (t := 40) ?hr ?_; (case hr => first | (go_simp; done) | (go_simp; rfl)); intro g4 wg4 _ _ _) | (with_reducible refine gate_dst (N := 6) rfl ?_; refine box_tc rfl (N := 6) rfl (cs := #[.bool false, .int .i64 0, .slice none 0 0, .slice none 0 0, .slice none 0 0, .slice none 0 0]) (t := 40) ?hr ?_; (case hr => first | (go_simp; done) | (go_simp; rfl)); intro g6 wg6 _ _ _) | (go_at_call 56; (with_reducible refine Calls.mono (nodeUp_ (by omega)) ?_); rintro e wb ⟨rfl, hb5⟩; rw [hup]) | (go_at_call 57; (with_reducible refine Calls.mono itemMay_ ?_); rintro e wc ⟨rfl, hb6⟩; rw [hi]) | (go_at_call 58; (with_reducible refine Calls.mono (nodeCopy_ hb) ?_); rintro e w9 ⟨v9, rfl, ⟨A6, c6, B6, d6, I6, ci6, L6, cl6, rfl, hF6, hG6, hH6, hK6⟩, hb9⟩) | (go_at_call 59; (with_reducible refine Calls.mono (put_) ?_); rintro e wp ⟨A7, c7, rfl, hF7, hbp⟩))
    exact bodyPost_ret (v := .tuple #[.agg #[.bool true, .int .i64 id, .slice A6 ps.length c6, .slice B6 xs.length d6, .slice A7 (putL is ⟨k, ⟨cc, x⟩, v, g⟩).length c7, .slice L6 ls.length cl6], .int .i64 0]) (by simp [results, Tryz.results19, go_sem]) rfl ⟨_, rfl, ⟨_, _, _, _, _, _, _, _, rfl, frl, frl, frl, frl⟩, belL⟩
end Go.Proofs.YtljipbmmgcccnaaGreat.T
end
section
namespace Go.Proofs.YtljipbmmgcccnaaGreat.T
open Go.RowKit Go.Proofs.YtljipbmmgcccnaaGreatW.PrintWords Go.Proofs.YtljipbmmgcccnaaGreatW.PrintLast Go.Proofs.YtljipbmmgcccnaaGreatW.PrintMore
attribute [local go_sem] cell_tc frozen_tc max2_int min2_int
attribute [local go_sem ↓] Go.wp_at_zero Go.wp_at_succ
set_option linter.unusedVariables false
set_option linter.unusedSimpArgs false
set_option synthInstance.maxHeartbeats 400000
set_option synthInstance.maxSize 512
attribute [local go_sem] cell_tc2
set_option maxRecDepth 100000 in
set_option maxHeartbeats 2000000 in
theorem askTo_ {gx gm : Nat} {f0 f1 f2 f4 k cc x v kind id : Int} {g q : Bool} {ids : List Int} {A3 A B I L : Option Addr} {n3 c3 n c m d ni ci nl cl : Nat} {ps : List S98} {xs : List Int} {is : List S48} {ls : List S77} {w : World} [bx : Blk w gx #[.bool true, .int .i64 id, .slice A n c, .slice B m d, .slice I ni ci, .slice L nl cl] 40] [bm : Blk w gm #[.int .i64 f0, .int .i64 f1, .int .i64 f2, .slice A3 n3 c3, .int .i64 f4, .int .i64 k, .int .i64 cc, .int .i64 x, .int .i64 v, .bool g, .bool q] 126] [h1 : Sr k98 w A n c ps] [h2 : Sr kI w B m d xs] [h3 : Sr k48 w I ni ci is] [h4 : Sr k77 w L nl cl ls] [h5 : Sr kI w A3 n3 c3 ids] (hn : nodeB ⟨true, ⟨id, ps, xs⟩, is, ls⟩ = true) (hm : msgB ⟨f0, f1, f2, ids, f4, ⟨k, ⟨cc, x⟩, v, g⟩, q⟩ = true) (hi : ids.length ≤ 1000000) :
    Calls Tryz.prog 207 #[.pointer (some ⟨gx, 0, none⟩), .pointer (some ⟨gm, 0, none⟩), .int .i64 kind] w fun e w' => e = .returned (.bool (f0 == kind && f2 == id)) ∧ BelL w w' := by
  obtain rfl := h1.len
  obtain rfl := h2.len
  obtain rfl := h3.len
  obtain rfl := h4.len
  have s1 := sr_l h1
  have s2 := sr_l h2
  have s3 := sr_l h3
  have s4 := sr_l h4
  clear h1 h2 h3 h4
  have hb := nodeB_small hn
  have hup : (true && nodeB ⟨true, ⟨id, ps, xs⟩, is, ls⟩) = true := by rw [hn]; rfl
  obtain rfl := h5.len
  have s5 := sr_l h5
  have s6 : BlkL w gx _ _ := ⟨bx.out⟩
  have s7 : BlkL w gm _ _ := ⟨bm.out⟩
  clear h5 bx bm
  cases e1 : (f0 == kind) <;> cases e2 : (f2 == id)
  all_goals
    go_enter Tryz.func207, Tryz.ntmps207
    go_wp2_with fail
    (refine wp_region_bel (by kernel_rfl) (by kernel_rfl) ?_; (repeat (first | go_big_quiet_skip | (go_big_quiet_want; first | (go_big_quiet_op; go_big_quiet_on) | (apply Exists.intro; refine ⟨fun wq hq => ?_, ?_⟩; (focus (unfold Oper.quietAt; go_simp; first | done | exact ⟨rfl, rfl⟩ | exact rfl | (first | (go_at_call 56; refine Calls.mono (nodeUp_ (by omega)) ?_; rintro e w1 ⟨rfl, hb⟩; exact ⟨by rw [hup], belL⟩) | (go_at_call 144; refine Calls.mono (msgMay_) ?_; rintro e w1 ⟨rfl, hb⟩; exact ⟨by rw [hm], belL⟩)))); (try simp only [Act.put, List.setIfInBounds_toArray, List.set_cons_zero, List.set_cons_succ]); go_big_quiet_on)))); refine wpQuiet_nil ?_; intro w7 hb7)
    go_wp2
    go_ret
    exact ⟨by simp [e1, e2], belL⟩
end Go.Proofs.YtljipbmmgcccnaaGreat.T
end
section
namespace Go.Proofs.YtljipbmmgcccnaaGreat.T
open Go.RowKit Go.Proofs.YtljipbmmgcccnaaGreatW.PrintWords Go.Proofs.YtljipbmmgcccnaaGreatW.PrintLast Go.Proofs.YtljipbmmgcccnaaGreatW.PrintMore
attribute [local go_sem] cell_tc frozen_tc max2_int min2_int
attribute [local go_sem ↓] Go.wp_at_zero Go.wp_at_succ
set_option linter.unusedVariables false
set_option linter.unusedSimpArgs false
set_option synthInstance.maxHeartbeats 400000
set_option synthInstance.maxSize 512
attribute [local go_sem] cell_tc2
theorem lit_msg {W : World} {b g : Nat} {f0 f1 f2 f4 k cc wr v : Int} {gn q : Bool} [h : Blk W g #[.int .i64 f0, .int .i64 f1, .int .i64 f2, .slice none 0 0, .int .i64 f4, .int .i64 k, .int .i64 cc, .int .i64 wr, .int .i64 v, .bool gn, .bool q] 126] (hb : b ≤ g) :
    FrL k126 126 W b Any (some ⟨g, 0, none⟩) 1 1 [(⟨f0, f1, f2, [], f4, ⟨k, ⟨cc, wr⟩, v, gn⟩, q⟩ : S126)] := by
  refine ⟨rfl, Nat.le_refl 1, fun _ _ => trivial, _, ⟨?_, .inr ⟨g, 1, _, rfl, hb, h.out, Nat.le_refl 1, by decide, rfl, rfl⟩⟩, ⟨rfl, fun j p hj => ?_⟩⟩
  · rfl
  · cases j with
    | succ j => simp at hj
    | zero =>
      simp at hj
      subst hj
      exact k126_mkM W b _ (⟨f0, f1, f2, [], f4, ⟨k, ⟨cc, wr⟩, v, gn⟩, q⟩ : S126) (v3 := .slice none 0 0) ⟨(fun _ e => nomatch e), [], ⟨rfl, .inl ⟨rfl, rfl⟩⟩, rfl, (fun j p hj => by simp at hj)⟩
set_option maxRecDepth 100000 in
set_option maxHeartbeats 2000000 in
theorem answer_ {f1 f4 k cc x v id : Int} {g q : Bool} {ids : List Int} {A3 A B I L : Option Addr} {n3 c3 n c m d ni ci nl cl : Nat} {ps : List S98} {xs : List Int} {is : List S48} {ls : List S77} {w : World} [h1 : Sr k98 w A n c ps] [h2 : Sr kI w B m d xs] [h3 : Sr k48 w I ni ci is] [h4 : Sr k77 w L nl cl ls] [h5 : Sr kI w A3 n3 c3 ids] (hn : nodeB ⟨true, ⟨id, ps, xs⟩, is, ls⟩ = true) (hm : msgB ⟨2, f1, id, ids, f4, ⟨k, ⟨cc, x⟩, v, g⟩, q⟩ = true) (hi : ids.length ≤ 1000000) :
    Calls Tryz.prog 193 #[.agg #[.bool true, .int .i64 id, .slice A n c, .slice B m d, .slice I ni ci, .slice L nl cl], .agg #[.int .i64 2, .int .i64 f1, .int .i64 id, .slice A3 n3 c3, .int .i64 f4, .int .i64 k, .int .i64 cc, .int .i64 x, .int .i64 v, .bool g, .bool q]] w fun e w' => ∃ A' c', e = .returned (.tuple #[.slice A' 1 c', .int .i64 0]) ∧ FrL k126 126 w' w.heap.size (Under w'.heap.size) A' 1 c' [(⟨3, id, f1, [], f4, (getI is f4).getD z48, (getI is f4).isSome⟩ : S126)] ∧ BelL w w' := by
  obtain rfl := h1.len
  obtain rfl := h2.len
  obtain rfl := h3.len
  obtain rfl := h4.len
  have s1 := sr_l h1
  have s2 := sr_l h2
  have s3 := sr_l h3
  have s4 := sr_l h4
  clear h1 h2 h3 h4
  have hb := nodeB_small hn
  have hup : (true && nodeB ⟨true, ⟨id, ps, xs⟩, is, ls⟩) = true := by rw [hn]; rfl
  obtain rfl := h5.len
  have s5 := sr_l h5
  clear h5
  generalize hold : (getI is f4).getD z48 = old
  go_enter Tryz.func193, Tryz.ntmps193
  go_wp2_with (first | (with_reducible refine gate_dst (N := 6) rfl ?_; refine box_tc rfl (N := 6) rfl (cs := #[.int .i64 0, .int .i64 0, .int .i64 0, .int .i64 0, .bool false]) (t := 48) ?hr ?_; (case hr => first | (go_simp; done) | (go_simp; rfl)); intro g6 wg6 _ _ _) | ((with_reducible refine gate_dst (N := 28) rfl ?_); refine lit_tc ?hg (N := 28) ?hd (cs := #[.int .i64 3, .int .i64 id, .int .i64 f1, .slice none 0 0, .int .i64 f4, .int .i64 old.f0, .int .i64 old.f1.f0, .int .i64 old.f1.f1, .int .i64 old.f2, .bool old.f3, .bool (getI is f4).isSome]) (t := 126) (m := 1) ?hr ?_; (case hd => rfl); (case hg => rfl); (case hr => first | (go_simp; done) | (go_simp; rfl)); intro g9 wg9 _ _ _) | (with_reducible refine gate_dst (N := 2) rfl ?_; refine box_tc rfl (N := 2) rfl (cs := #[.bool true, .int .i64 id, .slice A ps.length c, .slice B xs.length d, .slice I is.length ci, .slice L ls.length cl]) (t := 40) ?hr ?_; (case hr => first | (go_simp; done) | (go_simp; rfl)); intro g2 wg2 _ _ _) | (with_reducible refine gate_dst (N := 3) rfl ?_; refine box_tc rfl (N := 3) rfl (cs := #[.int .i64 2, .int .i64 f1, .int .i64 id, .slice A3 ids.length c3, .int .i64 f4, .int .i64 k, .int .i64 cc, .int .i64 x, .int .i64 v, .bool g, .bool q]) (t := 126) ?hr ?_; (case hr => first | (go_simp; done) | (go_simp; rfl)); intro g3 wg3 _ _ _) | (go_at_call 207; (with_reducible refine Calls.mono (askTo_ hn hm hi) ?_); rintro e wb ⟨rfl, hb5⟩; simp only [beq_self_eq_true, Bool.and_self]) | (go_at_call 18; (with_reducible refine Calls.mono get_ ?_); rintro e wg ⟨rfl, hb7⟩; rw [hold]; simp only [itemV]))
  have hF : FrL k126 126 _ w.heap.size Any (some ⟨g9, 0, none⟩) 1 1 [(⟨3, id, f1, [], f4, old, (getI is f4).isSome⟩ : S126)] := lit_msg (W := wg9) (GE.out (w := w))
  exact bodyPost_ret (v := .tuple #[.slice (some ⟨g9, 0, none⟩) 1 1, .int .i64 0]) (by simp [results, Tryz.results193, go_sem]) rfl ⟨_, _, rfl, frl, belL⟩
end Go.Proofs.YtljipbmmgcccnaaGreat.T
end
section
namespace Go.Proofs.YtljipbmmgcccnaaGreat.T
open Go.RowKit Go.Proofs.YtljipbmmgcccnaaGreatW.PrintWords Go.Proofs.YtljipbmmgcccnaaGreatW.PrintLast Go.Proofs.YtljipbmmgcccnaaGreatW.PrintMore
attribute [local go_sem] cell_tc frozen_tc max2_int min2_int
attribute [local go_sem ↓] Go.wp_at_zero Go.wp_at_succ
set_option linter.unusedVariables false
set_option linter.unusedSimpArgs false
set_option synthInstance.maxHeartbeats 400000
set_option synthInstance.maxSize 512
attribute [local go_sem] cell_tc2 frozen_row
section
variable {ops : Array Oper} {o : Oper} {a : Act} {Q : Exit → Act → World → Prop} {Kc : Act → World → Prop}
theorem app_msg_step {b u b3 : Nat} {S3 : Nat → Prop} {W : World} {A A3 : Option Addr} {n c n3 c3 g : Nat} {xs : List S126} {s x : Operand} {t : Nat} {f0 f1 f2 f4 k cc wr v : Int} {gn hs_ : Bool} {ids : List Int}
    (hw : Region.wanted o (yielded ops a.tmps) = true) (ho : o.op = .call { callee := .builtin .append, args := #[s, x], argTypes := #[t, t] }) (ht : Tryz.prog.underlying t = some (.slice 126)) (hs : a.eval s = .slice A n c) (hx : a.eval x = .slice (some ⟨g, 0, none⟩) 1 1)
    [q : Fr kI 3 W b3 S3 A3 n3 c3 ids] [l1 : LeB u b3] [l2 : LeB b b3] [h : Fr k126 126 W b (Under u) A n c xs] [hB : Blk W g #[.int .i64 f0, .int .i64 f1, .int .i64 f2, .slice A3 n3 c3, .int .i64 f4, .int .i64 k, .int .i64 cc, .int .i64 wr, .int .i64 v, .bool gn, .bool hs_] 126] [hb : LeB b W.heap.size] (hl : n + 1 ≤ 1000000)
    (hk : ∀ A' c' w1, FrL k126 126 w1 b Any A' (n + 1) c' (xs ++ [(⟨f0, f1, f2, ids, f4, ⟨k, ⟨cc, wr⟩, v, gn⟩, hs_⟩ : S126)]) → BbL b W w1 → GrL 126 W w1 → Kc (a.put o.dst (.slice A' (n + 1) c')) w1) : if Region.wanted o (yielded ops a.tmps) = true then Oper.wp Tryz.prog o a W Kc Q else Kc (a.put o.dst undef) W := by
  have he : ElT k126 126 := inferInstance
  obtain ⟨z, bytes, hi, hz, hs0, hb0, hb1⟩ := he.out
  have hlen := h.len
  have hR3 : kI.R 3 W b (fun j => b3 ≤ j) (.slice A3 n3 c3) ids := Kd.R_mono (Kd.R_lower (Kd.R_bound q.R) l2.out) (fun j hj => hj.2.1)
  refine Kd.R_append_rows_step k126 (w0 := W) b hw s x t 126 z bytes ho ht hi hz hs0 hb0 (.slice A n c) xs [(⟨f0, f1, f2, ids, f4, ⟨k, ⟨cc, wr⟩, v, gn⟩, hs_⟩ : S126)] (some ⟨g, 0, none⟩) 1 1 (fun _ => True) (fun j => b3 ≤ j) (Rr := k126.M W b fun j => b3 ≤ j) hs hx h.any ⟨rfl, by decide, fun _ => ⟨_, rfl, fun j p hj => ?_⟩⟩ (fun _ _ hx => hx) (fun j hj => ⟨trivial, fun e => ?_⟩) (fun _ _ => trivial) (Below.mono (Below.refl _ _) hb.out) hb.out ?_ ?_
  · cases j with
    | succ j => simp at hj
    | zero =>
      simp at hj
      subst hj
      refine ⟨_, rfl, k126_mkM W b _ ⟨f0, f1, f2, ids, f4, ⟨k, ⟨cc, wr⟩, v, gn⟩, hs_⟩ hR3, fun i u hu => ?_⟩
      rw [Addr.add_lit, blk_cell hB.out]
      simpa using hu
  · have h5 := h.R.1 j e.symm
    unfold Under at h5
    have := l1.out
    have hj' : b3 ≤ j := hj
    omega
  · have : (xs.length + 1) * bytes ≤ 1000000 * 112 := Nat.mul_le_mul (by omega) hb1
    omega
  · intro v1 w1 hR hB hg _
    obtain ⟨A', c', rfl, hc', _⟩ := Kd.R_reads hR
    have e1 : (xs ++ [(⟨f0, f1, f2, ids, f4, ⟨k, ⟨cc, wr⟩, v, gn⟩, hs_⟩ : S126)]).length = n + 1 := by rw [List.length_append, hlen]; rfl
    rw [e1] at hR hc' ⊢
    exact hk A' c' w1 ⟨e1, hc', hR⟩ (bb_of_grown h.any hb.out hg) ⟨_, hg, fun j hj => Kd.R_typed h.any j hj⟩
end
theorem ltb_of {W1 W : World} (_ : BelL W1 W) {g : Nat} {cs : Array Value} {t : Nat} [h : Blk W1 g cs t] : LtB g W1.heap.size := inferInstance
def helloM (id : Int) (ids : List Int) (dst : Int) : S126 := ⟨0, id, dst, ids, 0, z48, false⟩
def stepV (v : S25) : S25 := ⟨v.f0, aged v.f1, tickXs v⟩
def stepN (x : S40) : S40 := ⟨x.f0, stepV x.f1, x.f2, x.f3⟩
def stepH (v : S25) : List S126 := (idsOf (aged v.f1) ++ tickXs v).map (helloM v.f0 (idsOf (aged v.f1)))
def stepM (x : S40) : List S126 := stepH x.f1 ++ shareL (stepV x.f1) x.f2
theorem map_snoc {α β : Type} (f : α → β) {l : List α} {i : Nat} (h : i < l.length) : (l.take (i + 1)).map f = (l.take i).map f ++ [f l[i]] := by
  rw [List.take_succ_eq_append_getElem h, List.map_append]; rfl
set_option maxRecDepth 100000 in
set_option maxHeartbeats 8000000 in
theorem step_ {id : Int} {A B I L : Option Addr} {n c m d ni ci nl cl : Nat} {ps : List S98} {xs : List Int} {is : List S48} {ls : List S77} {w : World} [h1 : Sr k98 w A n c ps] [h2 : Sr kI w B m d xs] [h3 : Sr k48 w I ni ci is] [h4 : Sr k77 w L nl cl ls] (hn : nodeB ⟨true, ⟨id, ps, xs⟩, is, ls⟩ = true) (hn2 : nodeB (stepN ⟨true, ⟨id, ps, xs⟩, is, ls⟩) = true) :
    Calls Tryz.prog 123 #[.agg #[.bool true, .int .i64 id, .slice A n c, .slice B m d, .slice I ni ci, .slice L nl cl]] w fun e w' => ∃ v' A' c', e = .returned (.tuple #[v', .slice A' (stepM ⟨true, ⟨id, ps, xs⟩, is, ls⟩).length c', .int .i64 0]) ∧ NodeR w' w.heap.size v' (stepN ⟨true, ⟨id, ps, xs⟩, is, ls⟩) ∧ FrL k126 126 w' w.heap.size (Under w'.heap.size) A' (stepM ⟨true, ⟨id, ps, xs⟩, is, ls⟩).length c' (stepM ⟨true, ⟨id, ps, xs⟩, is, ls⟩) ∧ BelL w w' := by
  obtain rfl := h1.len
  obtain rfl := h2.len
  obtain rfl := h3.len
  obtain rfl := h4.len
  have s1 := sr_l h1
  have s2 := sr_l h2
  have s3 := sr_l h3
  have s4 := sr_l h4
  clear h1 h2 h3 h4
  have hb := nodeB_small hn
  have hup : (true && nodeB ⟨true, ⟨id, ps, xs⟩, is, ls⟩) = true := by rw [hn]; rfl
  have hv := nodeB_view hn
  have h16 : ps.length + xs.length ≤ 16 := viewB_len hv
  have e1 : tickV ⟨id, ps, xs⟩ = ⟨id, aged ps, tickXs ⟨id, ps, xs⟩⟩ := by simp [tickV]; exact fun h => absurd (h.symm.trans hv) (by simp)
  have e2 : tickG ⟨id, ps, xs⟩ = idsOf (aged ps) ++ tickXs ⟨id, ps, xs⟩ := by simp [tickG]; exact fun h => absurd (h.symm.trans hv) (by simp)
  have e3 : tickE ⟨id, ps, xs⟩ = 0 := by simp [tickE]; exact hv
  have L1 : (idsOf (aged ps) ++ tickXs ⟨id, ps, xs⟩).length ≤ 32 := by
    have := aged_le ps
    have := lostMany_len xs (lostOf ps) (by omega)
    rw [List.length_append, idsOf_len]
    unfold tickXs
    simp only
    omega
  have L2 : (shareL (stepV ⟨id, ps, xs⟩) is).length ≤ is.length := shareL_len _ _
  have E1 := Aside0.mk e1
  have E2 := Aside0.mk e2
  have E3 := Aside0.mk e3
  have AL := aged_le ps
  have L3 : is.length ≤ 16 := by
    have h := hn
    unfold nodeB at h; simp only [Bool.and_eq_true, decide_eq_true_eq] at h
    exact storeB_len h.1.1.2
  have SM : Aside0 (stepM ⟨true, ⟨id, ps, xs⟩, is, ls⟩ = (idsOf (aged ps) ++ tickXs ⟨id, ps, xs⟩).map (helloM id (idsOf (aged ps))) ++ shareL (stepV ⟨id, ps, xs⟩) is) := ⟨rfl⟩
  have HN2 := Aside0.mk (show nodeB ⟨true, ⟨id, aged ps, tickXs ⟨id, ps, xs⟩⟩, is, ls⟩ = true from hn2)
  clear e1 e2 e3 hn2 hv
  unfold stepN stepV at *
  simp only at *
  generalize stepM ⟨true, ⟨id, ps, xs⟩, is, ls⟩ = SMv at SM ⊢
  generalize tickXs ⟨id, ps, xs⟩ = ys at E1 E2 HN2 SM L1 L2 ⊢
  generalize hG : idsOf (aged ps) ++ ys = G at E2 SM L1
  generalize hps : aged ps = qs at *
  clear hG hps
  go_enter Tryz.func123, Tryz.ntmps123
  go_wp2_with (first | (with_reducible refine gate_dst (N := 1) rfl ?_; refine box_tc rfl (N := 1) rfl (cs := #[.bool true, .int .i64 id, .slice A ps.length c, .slice B xs.length d, .slice I is.length ci, .slice L ls.length cl]) (t := 40) ?hr ?_; (case hr => first | (go_simp; done) | (go_simp; rfl)); intro g1 wg1 _ _ _) | (with_reducible refine gate_dst (N := 2) rfl ?_; refine box_tc rfl (N := 2) rfl (cs := #[.bool false, .int .i64 0, .slice none 0 0, .slice none 0 0, .slice none 0 0, .slice none 0 0]) (t := 40) ?hr ?_; (case hr => first | (go_simp; done) | (go_simp; rfl)); intro g2 wg2 _ _ _) | (with_reducible refine gate_dst (N := 5) rfl ?_; refine box_tc rfl (N := 5) rfl (cs := #[.bool false, .int .i64 0, .slice none 0 0, .slice none 0 0, .slice none 0 0, .slice none 0 0]) (t := 40) ?hr ?_; (case hr => first | (go_simp; done) | (go_simp; rfl)); intro g5 wg5 _ _ _) | (with_reducible refine gate_dst (N := 6) rfl ?_; refine box_tc rfl (N := 6) rfl (cs := #[.int .i64 0, .slice none 0 0, .slice none 0 0]) (t := 25) ?hr ?_; (case hr => first | (go_simp; done) | (go_simp; rfl)); intro g6 wg6 _ _ _) | (go_at_call 56; (with_reducible refine Calls.mono (nodeUp_ (by omega)) ?_); rintro e wb ⟨rfl, hb5⟩; rw [hup]) | (go_at_call 58; (with_reducible refine Calls.mono (nodeCopy_ hb) ?_); rintro e w9 ⟨v9, rfl, ⟨A6, c6, B6, d6, I6, ci6, L6, cl6, rfl, hF6, hG6, hH6, hK6⟩, hb9⟩) | (go_at_call 160; (with_reducible refine Calls.mono tickView_ ?_); rintro e w10 ⟨v10, A1, c1, rfl, ⟨A7, c7, B7, d7, rfl, hF7, hG7⟩, hF1, hb10⟩; rw [E1.out] at hF7 hG7 ⊢; rw [E2.out] at hF1 ⊢; rw [E3.out]; simp only at hF7 hG7))
  have HI : Aside0 (∃ ids, idsOf qs = ids) := ⟨_, rfl⟩
  obtain ⟨ids, hI⟩ := HI.out
  clear HI
  rw [hI] at SM
  have HI := Aside0.mk hI
  clear hI
  have q2 := ltb_of (g := g2) hb10
  refine wp_letter ?_
  intro w11 hb11
  have mixed : Tryz.prog.follows Departure.mixedOrders = true := by kernel_rfl
  have q3 := ltb_of (g := g2) hb11
  have q4 : LtB g2 w11.heap.size := inferInstance
  go_loopg [9, 31] G.length (fun kq v9 v31 w' => ∃ (i : Nat) (A' : Option Addr) (c' : Nat), v31 = .int .i64 i ∧ i ≤ G.length ∧ kq = G.length - i ∧ v9 = .slice A' i c' ∧ FrL k126 126 w' w11.heap.size (Under w'.heap.size) A' i c' ((G.take i).map (helloM id ids)) ∧ BelL w11 w')
  case atStart => exact ⟨0, none, 0, rfl, Nat.zero_le _, rfl, rfl, frl_nil, belL⟩
  case round =>
    obtain ⟨i, A', c', rfl, hi, rfl, rfl, hF, hbr⟩ := hrel
    by_cases hlt : i < G.length
    · obtain ⟨ad, rfl, x0⟩ := el_I (W := wr) (A := A1) (n := G.length) (c := c1) (l := G) i hlt
      have HN := Aside0.mk (map_snoc (helloM id ids) hlt)
      generalize hM : (G.take i).map (helloM id ids) = M at hF HN
      clear hM
      generalize hy : G[i] = y at x0 HN
      clear hy
      go_upto_region 10 with fail
      go_region_law_o (first | (refine app_msg_step (t := 59) (u := wr.heap.size) (b := w11.heap.size) (A := A') (n := i) (c := c') (A3 := A9) (n3 := qs.length) (c3 := c9) (g := w9_.heap.size) (f0 := 0) (f1 := id) (f2 := y) (f4 := 0) (k := 0) (cc := 0) (wr := 0) (v := 0) (gn := false) (hs_ := false) (ids := ids) (by rfl) (by rfl) Tryz.underlying59 (by rfl) (by rfl) (by omega) ?_; intro A8 c8 w8 hFa8 hba8 hgr8) | (go_simp; (go_at_call 141; (with_reducible refine Calls.mono (ids_ (by omega)) ?_); rintro e w9_ ⟨A9, c9, rfl, hF9, hb9_⟩; rw [HI.out] at hF9)))
      all_goals
        have HX := Aside0.mk (show (G.take (i + 1)).map (helloM id ids) = M ++ [_] from HN.out)
        go_wp2
        go_roundg (G.length - (i + 1))
        case measure => omega
        case rel => exact ⟨i + 1, A8, c8, by go_num, by omega, rfl, rfl, by rw [HX.out]; exact frl, belL⟩
    · obtain rfl : i = G.length := by omega
      rw [List.take_length] at hF
      have HM := Aside0.mk (show (G.map (helloM id ids)).length = G.length from List.length_map _)
      generalize G.map (helloM id ids) = M at hF SM HM
      generalize hsh : shareL ⟨id, qs, ys⟩ is = sh at SM L2
      have HSH := Aside0.mk hsh
      have HL := Aside0.mk (show (M ++ sh).length = G.length + sh.length by rw [List.length_append, HM.out])
      clear hsh
      go_upto_region 13 with (go_at_call 161; (with_reducible refine Calls.mono (shareOf_ HN2.out) ?_); rintro e w12 ⟨A12, c12, rfl, hF12, hb12⟩; rw [HSH.out] at hF12 ⊢)
      go_region_law_o (first | (refine app_own_step (k := k126) (t := 59) (u := wr.heap.size) (A := A') (n := G.length) (c := c') (B := A12) (m := sh.length) (d := c12) (by rfl) (by rfl) Tryz.underlying59 (by rfl) (by rfl) (by omega) ?_; intro A8 c8 w8 hFa8 hba8 hgr8))
      all_goals
        go_wp2
        exact bodyPost_ret (v := .tuple #[.agg #[.bool true, .int .i64 id, .slice A7 qs.length c7, .slice B7 ys.length d7, .slice I6 is.length ci6, .slice L6 ls.length cl6], .slice A8 (G.length + sh.length) c8, .int .i64 0]) (by simp [results, Tryz.results123, go_sem]) rfl ⟨_, A8, c8, by rw [SM.out, HL.out], ⟨_, _, _, _, _, _, _, _, rfl, frl, frl, frl, frl⟩, by rw [SM.out, HL.out]; exact frl, belL⟩
end Go.Proofs.YtljipbmmgcccnaaGreat.T
end
