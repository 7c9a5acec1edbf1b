/- Words and lemmas that the claim's proof names, part 16: what the program's functions answer, at the inputs that each theorem's premises name. Conditions: each theorem's own premises. -/
import Derived.Test.YtljipbmmgcccnaaGreatKS15
section
namespace Go.Proofs.YtljipbmmgcccnaaGreat.T
open Go.RowKit Go.Proofs.YtljipbmmgcccnaaGreatW.PrintWords Go.Proofs.YtljipbmmgcccnaaGreatW.PrintLast Go.Proofs.YtljipbmmgcccnaaGreatW.PrintMore
attribute [local go_sem] cell_tc frozen_tc max2_int min2_int
attribute [local go_sem ↓] Go.wp_at_zero Go.wp_at_succ
set_option linter.unusedVariables false
set_option linter.unusedSimpArgs false
set_option synthInstance.maxHeartbeats 400000
set_option synthInstance.maxSize 512
attribute [local go_sem] cell_tc2
attribute [local go_sem high] eqA46 eqA98 eqA77 eqA48
theorem in_ {x : Int} {A : Option Addr} {n c : Nat} {l : List Int} {w : World} [h : Sr kI w A n c l] :
    Calls Tryz.prog 80 #[.slice A n c, .int .i64 x] w fun e w' => e = .returned (.bool (memB l x)) ∧ BelL w w' := by
  obtain rfl := h.len
  have HS := sr_l h
  have hlen : l.length ≤ 9223372036854775807 := h.C.2.1
  clear h
  go_enter Tryz.func80, Tryz.ntmps80
  go_wp2
  go_loopg [5] l.length (fun kq v5 w' => ∃ i : Nat, v5 = .int .i64 i ∧ i ≤ l.length ∧ kq = l.length - i ∧ Aside0 ((l.take i).any (fun y => y == x) = false) ∧ BelL w w')
  case atStart => exact ⟨0, rfl, Nat.zero_le _, rfl, ⟨rfl⟩, belL⟩
  case round =>
    obtain ⟨i, rfl, hi, rfl, HA, hbr⟩ := hrel
    by_cases hlt : i < l.length
    · obtain ⟨ad, rfl, hx⟩ := el_I (W := wr) (A := A) (n := l.length) (c := c) (l := l) i hlt
      cases h1 : (l[i] == x)
      · have HT := Aside0.mk (any_step (p := fun y => y == x) hlt HA.out h1)
        go_wp2
        go_roundg (l.length - (i + 1))
        case measure => omega
        case rel => exact ⟨i + 1, by go_num, by omega, rfl, HT, belL⟩
      · have HF := Aside0.mk (show memB l x = true from any_stop (p := fun y => y == x) hlt h1)
        go_wp2
        go_ret
        exact ⟨by rw [HF.out]; rfl, belL⟩
    · have HT := Aside0.mk (show memB l x = false by
        have := HA.out
        rwa [List.take_of_length_le (by omega)] at this)
      go_wp2
      go_ret
      exact ⟨by rw [HT.out]; rfl, belL⟩
set_option maxHeartbeats 1000000 in
theorem refNewer_ {ac ax bc bx : Int} {w : World} :
    Calls Tryz.prog 86 #[.agg #[.int .i64 ac, .int .i64 ax], .agg #[.int .i64 bc, .int .i64 bx]] w fun e w' => e = .returned (.tuple #[.bool (newerR ac ax bc bx), .int .i64 (newerE ac ax bc bx)]) ∧ BelL w w' := by
  cases h1 : verB ac ax
  · rw [show newerR ac ax bc bx = false by simp [newerR, h1], show newerE ac ax bc bx = 300 by simp [newerE, h1]]
    go_enter Tryz.func86, Tryz.ntmps86
    go_wp2_with (first | (with_reducible refine gate_dst (N := 2) rfl ?_; refine box_tc rfl (N := 2) rfl (cs := #[.int .i64 ac, .int .i64 ax]) (t := 46) ?hr ?_; (case hr => first | (go_simp; done) | (go_simp; rfl)); intro g1 wg1 _ _ _) | (with_reducible refine gate_dst (N := 3) rfl ?_; refine box_tc rfl (N := 3) rfl (cs := #[.int .i64 bc, .int .i64 bx]) (t := 46) ?hr ?_; (case hr => first | (go_simp; done) | (go_simp; rfl)); intro g2 wg2 _ _ _) | (go_at_call 139; (with_reducible refine Calls.mono (refVer_) ?_); rintro e wb ⟨rfl, hb⟩))
    go_ret2
    exact ⟨rfl, belL⟩
  · cases h2 : verB bc bx
    · rw [show newerR ac ax bc bx = false by simp [newerR, h1, h2], show newerE ac ax bc bx = 300 by simp [newerE, h1, h2]]
      go_enter Tryz.func86, Tryz.ntmps86
      go_wp2_with (first | (with_reducible refine gate_dst (N := 2) rfl ?_; refine box_tc rfl (N := 2) rfl (cs := #[.int .i64 ac, .int .i64 ax]) (t := 46) ?hr ?_; (case hr => first | (go_simp; done) | (go_simp; rfl)); intro g1 wg1 _ _ _) | (with_reducible refine gate_dst (N := 3) rfl ?_; refine box_tc rfl (N := 3) rfl (cs := #[.int .i64 bc, .int .i64 bx]) (t := 46) ?hr ?_; (case hr => first | (go_simp; done) | (go_simp; rfl)); intro g2 wg2 _ _ _) | (go_at_call 139; (with_reducible refine Calls.mono (refVer_) ?_); rintro e wb ⟨rfl, hb⟩))
      go_ret2
      exact ⟨rfl, belL⟩
    · rw [show newerE ac ax bc bx = 0 by simp [newerE, h1, h2]]
      by_cases e1 : bc < ac
      · rw [show newerR ac ax bc bx = true by simp [newerR, h1, h2, newerB, e1]]
        go_enter Tryz.func86, Tryz.ntmps86
        go_wp2_with (first | (with_reducible refine gate_dst (N := 2) rfl ?_; refine box_tc rfl (N := 2) rfl (cs := #[.int .i64 ac, .int .i64 ax]) (t := 46) ?hr ?_; (case hr => first | (go_simp; done) | (go_simp; rfl)); intro g1 wg1 _ _ _) | (with_reducible refine gate_dst (N := 3) rfl ?_; refine box_tc rfl (N := 3) rfl (cs := #[.int .i64 bc, .int .i64 bx]) (t := 46) ?hr ?_; (case hr => first | (go_simp; done) | (go_simp; rfl)); intro g2 wg2 _ _ _) | (go_at_call 139; (with_reducible refine Calls.mono (refVer_) ?_); rintro e wb ⟨rfl, hb⟩))
        go_ret2
        exact ⟨rfl, belL⟩
      · by_cases e2 : ac = bc
        · subst e2
          rw [show newerR ac ax ac bx = decide (bx < ax) by simp [newerR, h1, h2, newerB]]
          go_enter Tryz.func86, Tryz.ntmps86
          go_wp2_with (first | (with_reducible refine gate_dst (N := 2) rfl ?_; refine box_tc rfl (N := 2) rfl (cs := #[.int .i64 ac, .int .i64 ax]) (t := 46) ?hr ?_; (case hr => first | (go_simp; done) | (go_simp; rfl)); intro g1 wg1 _ _ _) | (with_reducible refine gate_dst (N := 3) rfl ?_; refine box_tc rfl (N := 3) rfl (cs := #[.int .i64 ac, .int .i64 bx]) (t := 46) ?hr ?_; (case hr => first | (go_simp; done) | (go_simp; rfl)); intro g2 wg2 _ _ _) | (go_at_call 139; (with_reducible refine Calls.mono (refVer_) ?_); rintro e wb ⟨rfl, hb⟩))
          go_ret2
          exact ⟨rfl, belL⟩
        · rw [show newerR ac ax bc bx = false by simp [newerR, h1, h2, newerB, e1, e2]]
          have e3 : (ac == bc) = false := by simpa using e2
          have e4 : decide (bc < ac) = false := decide_eq_false e1
          clear e1 e2
          go_enter Tryz.func86, Tryz.ntmps86
          go_wp2_with (first | (with_reducible refine gate_dst (N := 2) rfl ?_; refine box_tc rfl (N := 2) rfl (cs := #[.int .i64 ac, .int .i64 ax]) (t := 46) ?hr ?_; (case hr => first | (go_simp; done) | (go_simp; rfl)); intro g1 wg1 _ _ _) | (with_reducible refine gate_dst (N := 3) rfl ?_; refine box_tc rfl (N := 3) rfl (cs := #[.int .i64 bc, .int .i64 bx]) (t := 46) ?hr ?_; (case hr => first | (go_simp; done) | (go_simp; rfl)); intro g2 wg2 _ _ _) | (go_at_call 139; (with_reducible refine Calls.mono (refVer_) ?_); rintro e wb ⟨rfl, hb⟩))
          go_ret2
          exact ⟨rfl, belL⟩
theorem item_gone {k c x v : Int} (h : itemB k c x v true = true) : v = 0 := by
  unfold itemB at h
  simp at h
  omega
set_option maxHeartbeats 4000000 in
theorem refBest_ {ak ac ax av bk bc bx bv : Int} {ag bg : Bool} {w : World} :
    Calls Tryz.prog 30 #[.agg #[.int .i64 ak, .int .i64 ac, .int .i64 ax, .int .i64 av, .bool ag], .agg #[.int .i64 bk, .int .i64 bc, .int .i64 bx, .int .i64 bv, .bool bg]] w fun e w' => e = .returned (.tuple #[itemV (bestI ⟨ak, ⟨ac, ax⟩, av, ag⟩ ⟨bk, ⟨bc, bx⟩, bv, bg⟩), .int .i64 (bestE ⟨ak, ⟨ac, ax⟩, av, ag⟩ ⟨bk, ⟨bc, bx⟩, bv, bg⟩)]) ∧ BelL w w' := by
  cases h1 : itemB ak ac ax av ag
  · rw [show bestI ⟨ak, ⟨ac, ax⟩, av, ag⟩ ⟨bk, ⟨bc, bx⟩, bv, bg⟩ = z48 by simp [bestI, bestB, itemOk, h1], show bestE ⟨ak, ⟨ac, ax⟩, av, ag⟩ ⟨bk, ⟨bc, bx⟩, bv, bg⟩ = 400 by simp [bestE, bestB, itemOk, h1]]
    go_enter Tryz.func30, Tryz.ntmps30
    go_wp2_with (first | (with_reducible refine gate_dst (N := 2) rfl ?_; refine box_tc rfl (N := 2) rfl (cs := #[.int .i64 ak, .int .i64 ac, .int .i64 ax, .int .i64 av, .bool ag]) (t := 48) ?hr ?_; (case hr => first | (go_simp; done) | (go_simp; rfl)); intro g1 wg1 _ _ _) | (with_reducible refine gate_dst (N := 3) rfl ?_; refine box_tc rfl (N := 3) rfl (cs := #[.int .i64 bk, .int .i64 bc, .int .i64 bx, .int .i64 bv, .bool bg]) (t := 48) ?hr ?_; (case hr => first | (go_simp; done) | (go_simp; rfl)); intro g2 wg2 _ _ _) | (with_reducible refine gate_dst (N := 4) rfl ?_; refine box_tc rfl (N := 4) rfl (cs := #[.int .i64 0, .int .i64 0, .int .i64 0, .int .i64 0, .bool false]) (t := 48) ?hr ?_; (case hr => first | (go_simp; done) | (go_simp; rfl)); intro g3 wg3 _ _ _) | (go_at_call 85; (with_reducible refine Calls.mono (refItem_) ?_); rintro e wb ⟨rfl, hb⟩))
    exact bodyPost_ret (v := .tuple #[.agg #[.int .i64 0, .int .i64 0, .int .i64 0, .int .i64 0, .bool false], .int .i64 400]) (by simp [results, Tryz.results30, go_sem]) rfl ⟨rfl, belL⟩
  · cases h2 : itemB bk bc bx bv bg
    · rw [show bestI ⟨ak, ⟨ac, ax⟩, av, ag⟩ ⟨bk, ⟨bc, bx⟩, bv, bg⟩ = z48 by simp [bestI, bestB, itemOk, h2], show bestE ⟨ak, ⟨ac, ax⟩, av, ag⟩ ⟨bk, ⟨bc, bx⟩, bv, bg⟩ = 400 by simp [bestE, bestB, itemOk, h2]]
      go_enter Tryz.func30, Tryz.ntmps30
      go_wp2_with (first | (with_reducible refine gate_dst (N := 2) rfl ?_; refine box_tc rfl (N := 2) rfl (cs := #[.int .i64 ak, .int .i64 ac, .int .i64 ax, .int .i64 av, .bool ag]) (t := 48) ?hr ?_; (case hr => first | (go_simp; done) | (go_simp; rfl)); intro g1 wg1 _ _ _) | (with_reducible refine gate_dst (N := 3) rfl ?_; refine box_tc rfl (N := 3) rfl (cs := #[.int .i64 bk, .int .i64 bc, .int .i64 bx, .int .i64 bv, .bool bg]) (t := 48) ?hr ?_; (case hr => first | (go_simp; done) | (go_simp; rfl)); intro g2 wg2 _ _ _) | (with_reducible refine gate_dst (N := 4) rfl ?_; refine box_tc rfl (N := 4) rfl (cs := #[.int .i64 0, .int .i64 0, .int .i64 0, .int .i64 0, .bool false]) (t := 48) ?hr ?_; (case hr => first | (go_simp; done) | (go_simp; rfl)); intro g3 wg3 _ _ _) | (go_at_call 85; (with_reducible refine Calls.mono (refItem_) ?_); rintro e wb ⟨rfl, hb⟩))
      exact bodyPost_ret (v := .tuple #[.agg #[.int .i64 0, .int .i64 0, .int .i64 0, .int .i64 0, .bool false], .int .i64 400]) (by simp [results, Tryz.results30, go_sem]) rfl ⟨rfl, belL⟩
    · cases h3 : (ak == bk)
      · rw [show bestI ⟨ak, ⟨ac, ax⟩, av, ag⟩ ⟨bk, ⟨bc, bx⟩, bv, bg⟩ = z48 by simp [bestI, bestB, itemOk, h3], show bestE ⟨ak, ⟨ac, ax⟩, av, ag⟩ ⟨bk, ⟨bc, bx⟩, bv, bg⟩ = 400 by simp [bestE, bestB, itemOk, h3]]
        have h4 : (ak != bk) = true := by simpa using h3
        go_enter Tryz.func30, Tryz.ntmps30
        go_wp2_with (first | (with_reducible refine gate_dst (N := 2) rfl ?_; refine box_tc rfl (N := 2) rfl (cs := #[.int .i64 ak, .int .i64 ac, .int .i64 ax, .int .i64 av, .bool ag]) (t := 48) ?hr ?_; (case hr => first | (go_simp; done) | (go_simp; rfl)); intro g1 wg1 _ _ _) | (with_reducible refine gate_dst (N := 3) rfl ?_; refine box_tc rfl (N := 3) rfl (cs := #[.int .i64 bk, .int .i64 bc, .int .i64 bx, .int .i64 bv, .bool bg]) (t := 48) ?hr ?_; (case hr => first | (go_simp; done) | (go_simp; rfl)); intro g2 wg2 _ _ _) | (with_reducible refine gate_dst (N := 4) rfl ?_; refine box_tc rfl (N := 4) rfl (cs := #[.int .i64 0, .int .i64 0, .int .i64 0, .int .i64 0, .bool false]) (t := 48) ?hr ?_; (case hr => first | (go_simp; done) | (go_simp; rfl)); intro g3 wg3 _ _ _) | (go_at_call 85; (with_reducible refine Calls.mono (refItem_) ?_); rintro e wb ⟨rfl, hb⟩))
        exact bodyPost_ret (v := .tuple #[.agg #[.int .i64 0, .int .i64 0, .int .i64 0, .int .i64 0, .bool false], .int .i64 400]) (by simp [results, Tryz.results30, go_sem]) rfl ⟨rfl, belL⟩
      · have h4 : (ak != bk) = false := by simpa using h3
        have v1 := itemOk_ver h1
        have v2 := itemOk_ver h2
        have QE := Aside0.mk (show newerE ac ax bc bx = 0 by simp [newerE, v1, v2])
        have HN : newerR ac ax bc bx = newerB ac ax bc bx := by simp [newerR, v1, v2]
        cases h6 : newerB ac ax bc bx
        · have QN := Aside0.mk (HN.trans h6)
          cases h7 : (ac == bc && ax == bx)
          · have h5 : betterB ⟨ak, ⟨ac, ax⟩, av, ag⟩ ⟨bk, ⟨bc, bx⟩, bv, bg⟩ = false := by unfold betterB; simp only [h7]; exact h6
            rw [show bestI ⟨ak, ⟨ac, ax⟩, av, ag⟩ ⟨bk, ⟨bc, bx⟩, bv, bg⟩ = ⟨bk, ⟨bc, bx⟩, bv, bg⟩ by simp only [bestI, bestB, itemOk, h1, h2, h3, h5]; rfl, show bestE ⟨ak, ⟨ac, ax⟩, av, ag⟩ ⟨bk, ⟨bc, bx⟩, bv, bg⟩ = 0 by simp only [bestE, bestB, itemOk, h1, h2, h3]; rfl]
            clear HN h6 h5 v1 v2
            go_enter Tryz.func30, Tryz.ntmps30
            go_wp2_with (first | (with_reducible refine gate_dst (N := 2) rfl ?_; refine box_tc rfl (N := 2) rfl (cs := #[.int .i64 ak, .int .i64 ac, .int .i64 ax, .int .i64 av, .bool ag]) (t := 48) ?hr ?_; (case hr => first | (go_simp; done) | (go_simp; rfl)); intro g1 wg1 _ _ _) | (with_reducible refine gate_dst (N := 3) rfl ?_; refine box_tc rfl (N := 3) rfl (cs := #[.int .i64 bk, .int .i64 bc, .int .i64 bx, .int .i64 bv, .bool bg]) (t := 48) ?hr ?_; (case hr => first | (go_simp; done) | (go_simp; rfl)); intro g2 wg2 _ _ _) | (with_reducible refine gate_dst (N := 4) rfl ?_; refine box_tc rfl (N := 4) rfl (cs := #[.int .i64 0, .int .i64 0, .int .i64 0, .int .i64 0, .bool false]) (t := 48) ?hr ?_; (case hr => first | (go_simp; done) | (go_simp; rfl)); intro g3 wg3 _ _ _) | (go_at_call 85; (with_reducible refine Calls.mono (refItem_) ?_); rintro e wb ⟨rfl, hb⟩) | (go_at_call 86; (with_reducible refine Calls.mono (refNewer_) ?_); rw [QN.out, QE.out]; rintro e wn ⟨rfl, hn⟩))
            exact bodyPost_ret (v := .tuple #[.agg #[.int .i64 bk, .int .i64 bc, .int .i64 bx, .int .i64 bv, .bool bg], .int .i64 0]) (by simp [results, Tryz.results30, go_sem]) rfl ⟨rfl, belL⟩
          · simp only [Bool.and_eq_true, beq_iff_eq] at h7
            obtain ⟨rfl, rfl⟩ := h7
            cases bg
            · cases ag
              · by_cases h8 : bv < av
                · have h5 : betterB ⟨ak, ⟨ac, ax⟩, av, false⟩ ⟨bk, ⟨ac, ax⟩, bv, false⟩ = true := by simp [betterB, h8]
                  rw [show bestI ⟨ak, ⟨ac, ax⟩, av, false⟩ ⟨bk, ⟨ac, ax⟩, bv, false⟩ = ⟨ak, ⟨ac, ax⟩, av, false⟩ by simp only [bestI, bestB, itemOk, h1, h2, h3, h5]; rfl, show bestE ⟨ak, ⟨ac, ax⟩, av, false⟩ ⟨bk, ⟨ac, ax⟩, bv, false⟩ = 0 by simp only [bestE, bestB, itemOk, h1, h2, h3]; rfl]
                  have h9 : decide (av ≤ bv) = false := decide_eq_false (by omega)
                  clear HN h6 h5 v1 v2 h8
                  go_enter Tryz.func30, Tryz.ntmps30
                  go_wp2_with (first | (with_reducible refine gate_dst (N := 2) rfl ?_; refine box_tc rfl (N := 2) rfl (cs := #[.int .i64 ak, .int .i64 ac, .int .i64 ax, .int .i64 av, .bool false]) (t := 48) ?hr ?_; (case hr => first | (go_simp; done) | (go_simp; rfl)); intro g1 wg1 _ _ _) | (with_reducible refine gate_dst (N := 3) rfl ?_; refine box_tc rfl (N := 3) rfl (cs := #[.int .i64 bk, .int .i64 ac, .int .i64 ax, .int .i64 bv, .bool false]) (t := 48) ?hr ?_; (case hr => first | (go_simp; done) | (go_simp; rfl)); intro g2 wg2 _ _ _) | (with_reducible refine gate_dst (N := 4) rfl ?_; refine box_tc rfl (N := 4) rfl (cs := #[.int .i64 0, .int .i64 0, .int .i64 0, .int .i64 0, .bool false]) (t := 48) ?hr ?_; (case hr => first | (go_simp; done) | (go_simp; rfl)); intro g3 wg3 _ _ _) | (go_at_call 85; (with_reducible refine Calls.mono (refItem_) ?_); rintro e wb ⟨rfl, hb⟩) | (go_at_call 86; (with_reducible refine Calls.mono (refNewer_) ?_); rw [QN.out, QE.out]; rintro e wn ⟨rfl, hn⟩))
                  exact bodyPost_ret (v := .tuple #[.agg #[.int .i64 ak, .int .i64 ac, .int .i64 ax, .int .i64 av, .bool false], .int .i64 0]) (by simp [results, Tryz.results30, go_sem]) rfl ⟨rfl, belL⟩
                · have h5 : betterB ⟨ak, ⟨ac, ax⟩, av, false⟩ ⟨bk, ⟨ac, ax⟩, bv, false⟩ = false := by simp [betterB, h8]
                  rw [show bestI ⟨ak, ⟨ac, ax⟩, av, false⟩ ⟨bk, ⟨ac, ax⟩, bv, false⟩ = ⟨bk, ⟨ac, ax⟩, bv, false⟩ by simp only [bestI, bestB, itemOk, h1, h2, h3, h5]; rfl, show bestE ⟨ak, ⟨ac, ax⟩, av, false⟩ ⟨bk, ⟨ac, ax⟩, bv, false⟩ = 0 by simp only [bestE, bestB, itemOk, h1, h2, h3]; rfl]
                  have h9 : decide (av ≤ bv) = true := decide_eq_true (by omega)
                  clear HN h6 h5 v1 v2 h8
                  go_enter Tryz.func30, Tryz.ntmps30
                  go_wp2_with (first | (with_reducible refine gate_dst (N := 2) rfl ?_; refine box_tc rfl (N := 2) rfl (cs := #[.int .i64 ak, .int .i64 ac, .int .i64 ax, .int .i64 av, .bool false]) (t := 48) ?hr ?_; (case hr => first | (go_simp; done) | (go_simp; rfl)); intro g1 wg1 _ _ _) | (with_reducible refine gate_dst (N := 3) rfl ?_; refine box_tc rfl (N := 3) rfl (cs := #[.int .i64 bk, .int .i64 ac, .int .i64 ax, .int .i64 bv, .bool false]) (t := 48) ?hr ?_; (case hr => first | (go_simp; done) | (go_simp; rfl)); intro g2 wg2 _ _ _) | (with_reducible refine gate_dst (N := 4) rfl ?_; refine box_tc rfl (N := 4) rfl (cs := #[.int .i64 0, .int .i64 0, .int .i64 0, .int .i64 0, .bool false]) (t := 48) ?hr ?_; (case hr => first | (go_simp; done) | (go_simp; rfl)); intro g3 wg3 _ _ _) | (go_at_call 85; (with_reducible refine Calls.mono (refItem_) ?_); rintro e wb ⟨rfl, hb⟩) | (go_at_call 86; (with_reducible refine Calls.mono (refNewer_) ?_); rw [QN.out, QE.out]; rintro e wn ⟨rfl, hn⟩))
                  exact bodyPost_ret (v := .tuple #[.agg #[.int .i64 bk, .int .i64 ac, .int .i64 ax, .int .i64 bv, .bool false], .int .i64 0]) (by simp [results, Tryz.results30, go_sem]) rfl ⟨rfl, belL⟩
              · have h5 : betterB ⟨ak, ⟨ac, ax⟩, av, true⟩ ⟨bk, ⟨ac, ax⟩, bv, false⟩ = true := by simp [betterB]
                rw [show bestI ⟨ak, ⟨ac, ax⟩, av, true⟩ ⟨bk, ⟨ac, ax⟩, bv, false⟩ = ⟨ak, ⟨ac, ax⟩, av, true⟩ by simp only [bestI, bestB, itemOk, h1, h2, h3, h5]; rfl, show bestE ⟨ak, ⟨ac, ax⟩, av, true⟩ ⟨bk, ⟨ac, ax⟩, bv, false⟩ = 0 by simp only [bestE, bestB, itemOk, h1, h2, h3]; rfl]
                clear HN h6 h5 v1 v2
                go_enter Tryz.func30, Tryz.ntmps30
                go_wp2_with (first | (with_reducible refine gate_dst (N := 2) rfl ?_; refine box_tc rfl (N := 2) rfl (cs := #[.int .i64 ak, .int .i64 ac, .int .i64 ax, .int .i64 av, .bool true]) (t := 48) ?hr ?_; (case hr => first | (go_simp; done) | (go_simp; rfl)); intro g1 wg1 _ _ _) | (with_reducible refine gate_dst (N := 3) rfl ?_; refine box_tc rfl (N := 3) rfl (cs := #[.int .i64 bk, .int .i64 ac, .int .i64 ax, .int .i64 bv, .bool false]) (t := 48) ?hr ?_; (case hr => first | (go_simp; done) | (go_simp; rfl)); intro g2 wg2 _ _ _) | (with_reducible refine gate_dst (N := 4) rfl ?_; refine box_tc rfl (N := 4) rfl (cs := #[.int .i64 0, .int .i64 0, .int .i64 0, .int .i64 0, .bool false]) (t := 48) ?hr ?_; (case hr => first | (go_simp; done) | (go_simp; rfl)); intro g3 wg3 _ _ _) | (go_at_call 85; (with_reducible refine Calls.mono (refItem_) ?_); rintro e wb ⟨rfl, hb⟩) | (go_at_call 86; (with_reducible refine Calls.mono (refNewer_) ?_); rw [QN.out, QE.out]; rintro e wn ⟨rfl, hn⟩))
                exact bodyPost_ret (v := .tuple #[.agg #[.int .i64 ak, .int .i64 ac, .int .i64 ax, .int .i64 av, .bool true], .int .i64 0]) (by simp [results, Tryz.results30, go_sem]) rfl ⟨rfl, belL⟩
            · have h5 : betterB ⟨ak, ⟨ac, ax⟩, av, ag⟩ ⟨bk, ⟨ac, ax⟩, bv, true⟩ = false := by
                cases ag
                · simp [betterB]
                · have := item_gone h1
                  have := item_gone h2
                  simp [betterB]
                  omega
              rw [show bestI ⟨ak, ⟨ac, ax⟩, av, ag⟩ ⟨bk, ⟨ac, ax⟩, bv, true⟩ = ⟨bk, ⟨ac, ax⟩, bv, true⟩ by simp only [bestI, bestB, itemOk, h1, h2, h3, h5]; rfl, show bestE ⟨ak, ⟨ac, ax⟩, av, ag⟩ ⟨bk, ⟨ac, ax⟩, bv, true⟩ = 0 by simp only [bestE, bestB, itemOk, h1, h2, h3]; rfl]
              clear HN h6 h5 v1 v2
              go_enter Tryz.func30, Tryz.ntmps30
              go_wp2_with (first | (with_reducible refine gate_dst (N := 2) rfl ?_; refine box_tc rfl (N := 2) rfl (cs := #[.int .i64 ak, .int .i64 ac, .int .i64 ax, .int .i64 av, .bool ag]) (t := 48) ?hr ?_; (case hr => first | (go_simp; done) | (go_simp; rfl)); intro g1 wg1 _ _ _) | (with_reducible refine gate_dst (N := 3) rfl ?_; refine box_tc rfl (N := 3) rfl (cs := #[.int .i64 bk, .int .i64 ac, .int .i64 ax, .int .i64 bv, .bool true]) (t := 48) ?hr ?_; (case hr => first | (go_simp; done) | (go_simp; rfl)); intro g2 wg2 _ _ _) | (with_reducible refine gate_dst (N := 4) rfl ?_; refine box_tc rfl (N := 4) rfl (cs := #[.int .i64 0, .int .i64 0, .int .i64 0, .int .i64 0, .bool false]) (t := 48) ?hr ?_; (case hr => first | (go_simp; done) | (go_simp; rfl)); intro g3 wg3 _ _ _) | (go_at_call 85; (with_reducible refine Calls.mono (refItem_) ?_); rintro e wb ⟨rfl, hb⟩) | (go_at_call 86; (with_reducible refine Calls.mono (refNewer_) ?_); rw [QN.out, QE.out]; rintro e wn ⟨rfl, hn⟩))
              exact bodyPost_ret (v := .tuple #[.agg #[.int .i64 bk, .int .i64 ac, .int .i64 ax, .int .i64 bv, .bool true], .int .i64 0]) (by simp [results, Tryz.results30, go_sem]) rfl ⟨rfl, belL⟩
        · have QN := Aside0.mk (HN.trans h6)
          have h5 : betterB ⟨ak, ⟨ac, ax⟩, av, ag⟩ ⟨bk, ⟨bc, bx⟩, bv, bg⟩ = true := by
            unfold betterB
            cases h7 : (ac == bc && ax == bx)
            · exact h6
            · simp only [Bool.and_eq_true, beq_iff_eq] at h7
              obtain ⟨rfl, rfl⟩ := h7
              simp [newerB] at h6
          rw [show bestI ⟨ak, ⟨ac, ax⟩, av, ag⟩ ⟨bk, ⟨bc, bx⟩, bv, bg⟩ = ⟨ak, ⟨ac, ax⟩, av, ag⟩ by simp only [bestI, bestB, itemOk, h1, h2, h3, h5]; rfl, show bestE ⟨ak, ⟨ac, ax⟩, av, ag⟩ ⟨bk, ⟨bc, bx⟩, bv, bg⟩ = 0 by simp only [bestE, bestB, itemOk, h1, h2, h3]; rfl]
          clear HN h6 h5 v1 v2
          go_enter Tryz.func30, Tryz.ntmps30
          go_wp2_with (first | (with_reducible refine gate_dst (N := 2) rfl ?_; refine box_tc rfl (N := 2) rfl (cs := #[.int .i64 ak, .int .i64 ac, .int .i64 ax, .int .i64 av, .bool ag]) (t := 48) ?hr ?_; (case hr => first | (go_simp; done) | (go_simp; rfl)); intro g1 wg1 _ _ _) | (with_reducible refine gate_dst (N := 3) rfl ?_; refine box_tc rfl (N := 3) rfl (cs := #[.int .i64 bk, .int .i64 bc, .int .i64 bx, .int .i64 bv, .bool bg]) (t := 48) ?hr ?_; (case hr => first | (go_simp; done) | (go_simp; rfl)); intro g2 wg2 _ _ _) | (with_reducible refine gate_dst (N := 4) rfl ?_; refine box_tc rfl (N := 4) rfl (cs := #[.int .i64 0, .int .i64 0, .int .i64 0, .int .i64 0, .bool false]) (t := 48) ?hr ?_; (case hr => first | (go_simp; done) | (go_simp; rfl)); intro g3 wg3 _ _ _) | (go_at_call 85; (with_reducible refine Calls.mono (refItem_) ?_); rintro e wb ⟨rfl, hb⟩) | (go_at_call 86; (with_reducible refine Calls.mono (refNewer_) ?_); rw [QN.out, QE.out]; rintro e wn ⟨rfl, hn⟩))
          exact bodyPost_ret (v := .tuple #[.agg #[.int .i64 ak, .int .i64 ac, .int .i64 ax, .int .i64 av, .bool ag], .int .i64 0]) (by simp [results, Tryz.results30, go_sem]) rfl ⟨rfl, belL⟩
end Go.Proofs.YtljipbmmgcccnaaGreat.T
end
section
namespace Go.Proofs.YtljipbmmgcccnaaGreat.T
open Go.RowKit Go.Proofs.YtljipbmmgcccnaaGreatW.PrintWords Go.Proofs.YtljipbmmgcccnaaGreatW.PrintLast Go.Proofs.YtljipbmmgcccnaaGreatW.PrintMore
attribute [local go_sem] cell_tc frozen_tc max2_int min2_int
attribute [local go_sem ↓] Go.wp_at_zero Go.wp_at_succ
set_option linter.unusedVariables false
set_option linter.unusedSimpArgs false
set_option synthInstance.maxHeartbeats 400000
set_option synthInstance.maxSize 512
def bestStep (k : Int) (acc : Option S48) (i : S48) : Option S48 := if i.f0 = k then (match acc with | none => some i | some x => some (bestI x i)) else acc
def bestOpt (k : Int) (l : List S48) : Option S48 := l.foldl (bestStep k) none
def keyStep (ks : List Int) (i : S48) : List Int := if memB ks i.f0 then ks else ks ++ [i.f0]
def keysL (l : List S48) : List Int := l.foldl keyStep []
def allI (s : WS) : List S48 := s.1.flatMap (fun x => x.f2) ++ (s.2.filter fun m => m.f0 == 1).map fun m => m.f5
end Go.Proofs.YtljipbmmgcccnaaGreat.T
end
section
namespace Go.Proofs.YtljipbmmgcccnaaGreat.T
open Go.RowKit Go.Proofs.YtljipbmmgcccnaaGreatW.PrintWords Go.Proofs.YtljipbmmgcccnaaGreatW.PrintLast Go.Proofs.YtljipbmmgcccnaaGreatW.PrintMore
attribute [local go_sem] cell_tc frozen_tc max2_int min2_int
attribute [local go_sem ↓] Go.wp_at_zero Go.wp_at_succ
set_option linter.unusedVariables false
set_option linter.unusedSimpArgs false
set_option synthInstance.maxHeartbeats 400000
set_option synthInstance.maxSize 512
attribute [local go_sem] cell_tc2
attribute [local go_sem high] eqA46 eqA98 eqA77 eqA48
def itemsN (ns : List S40) : List S48 := ns.flatMap (fun x => x.f2)
def itemsP (ps : List S126) : List S48 := (ps.filter fun m => m.f0 == 1).map fun m => m.f5
theorem itemsN_snoc {ns : List S40} {i : Nat} (h : i < ns.length) : itemsN (ns.take (i + 1)) = itemsN (ns.take i) ++ ns[i].f2 := by
  unfold itemsN
  rw [List.take_succ_eq_append_getElem h, List.flatMap_append]
  simp
theorem itemsN_len (ns : List S40) (i : Nat) : (itemsN (ns.take i)).length ≤ (itemsN ns).length := by
  conv => rhs; rw [← List.take_append_drop i ns]
  unfold itemsN
  rw [List.flatMap_append, List.length_append]
  omega
theorem itemsP_yes {ps : List S126} {i : Nat} (h : i < ps.length) (k : (ps[i].f0 == 1) = true) : itemsP (ps.take (i + 1)) = itemsP (ps.take i) ++ [ps[i].f5] := by
  unfold itemsP
  rw [List.take_succ_eq_append_getElem h, List.filter_append, List.map_append]
  simp [k]
theorem itemsP_no {ps : List S126} {i : Nat} (h : i < ps.length) (k : (ps[i].f0 == 1) = false) : itemsP (ps.take (i + 1)) = itemsP (ps.take i) := by
  unfold itemsP
  rw [List.take_succ_eq_append_getElem h, List.filter_append, List.map_append]
  simp [k]
theorem itemsP_len (ps : List S126) (i : Nat) : (itemsP (ps.take i)).length ≤ i := by
  unfold itemsP
  rw [List.length_map]
  exact Nat.le_trans (List.length_filter_le _ _) (by rw [List.length_take]; exact Nat.min_le_left _ _)
theorem bestOpt_snoc {k : Int} {l : List S48} {i : Nat} (h : i < l.length) : bestOpt k (l.take (i + 1)) = bestStep k (bestOpt k (l.take i)) l[i] := by
  unfold bestOpt
  rw [List.take_succ_eq_append_getElem h, List.foldl_append]
  rfl
theorem keysL_snoc {l : List S48} {i : Nat} (h : i < l.length) : keysL (l.take (i + 1)) = keyStep (keysL (l.take i)) l[i] := by
  unfold keysL
  rw [List.take_succ_eq_append_getElem h, List.foldl_append]
  rfl
theorem keysL_len (l : List S48) : (keysL l).length ≤ l.length := by
  have h : ∀ (l : List S48) (ks : List Int), (l.foldl keyStep ks).length ≤ ks.length + l.length := by
    intro l
    induction l with
    | nil => intro ks; simp
    | cons x r ih =>
      intro ks
      have := ih (keyStep ks x)
      have h2 : (keyStep ks x).length ≤ ks.length + 1 := by unfold keyStep; split <;> simp
      simp only [List.foldl_cons, List.length_cons]
      omega
  have := h l []
  simpa [keysL] using this
theorem refBestS_ {x y : S48} {w : World} :
    Calls Tryz.prog 30 #[.agg #[.int .i64 x.f0, .int .i64 x.f1.f0, .int .i64 x.f1.f1, .int .i64 x.f2, .bool x.f3], .agg #[.int .i64 y.f0, .int .i64 y.f1.f0, .int .i64 y.f1.f1, .int .i64 y.f2, .bool y.f3]] w fun e w' => e = .returned (.tuple #[itemV (bestI x y), .int .i64 (bestE x y)]) ∧ BelL w w' := refBest_
set_option maxRecDepth 100000 in
set_option maxHeartbeats 8000000 in
theorem best26_ {key : Int} {A B C : Option Addr} {n c m d k f : Nat} {ns : List S40} {ps : List S126} {w : World} [h : Sr k40 w A n c ns] [q : Sr k126 w C k f ps] (hN : (itemsN ns).length + k ≤ 500000) :
    Calls Tryz.prog 26 #[.agg #[.slice A n c, .slice B m d, .slice C k f], .int .i64 key] w fun e w' => e = .returned (.tuple #[itemV ((bestOpt key (allI (ns, ps))).getD z48), .bool (bestOpt key (allI (ns, ps))).isSome, .int .i64 (keysL (allI (ns, ps))).length]) ∧ BelL w w' := by
  obtain rfl := h.len
  obtain rfl := q.len
  have s1 := sr_l h
  have s2 := sr_l q
  have hlen : ns.length ≤ 9223372036854775807 := h.C.2.1
  clear h q
  have HL := Aside0.mk (show itemsN ns ++ itemsP ps = allI (ns, ps) from rfl)
  generalize hL : allI (ns, ps) = L at HL
  clear hL
  go_enter Tryz.func26, Tryz.ntmps26
  go_upto_region 2 with (first | (with_reducible refine gate_dst (N := 2) rfl ?_; refine box_tc rfl (N := 2) rfl (cs := #[.slice A ns.length c, .slice B m d, .slice C ps.length f]) (t := 61) ?hr ?_; (case hr => first | (go_simp; done) | (go_simp; rfl)); intro g2 wg2 _ _ _) | (with_reducible refine gate_dst (N := 4) rfl ?_; refine box_tc rfl (N := 4) rfl (cs := #[.int .i64 0, .int .i64 0, .int .i64 0, .int .i64 0, .bool false]) (t := 48) ?hr ?_; (case hr => first | (go_simp; done) | (go_simp; rfl)); intro g4 wg4 _ _ _))
  refine wp_letter fun wl hl => ?_
  have B2 : BlkL wl g2 #[.slice A ns.length c, .slice B m d, .slice C ps.length f] 61 := blkL
  have B4 : BlkL wl g4 #[.int .i64 0, .int .i64 0, .int .i64 0, .int .i64 0, .bool false] 48 := blkL
  have hwl : BelL w wl := belL
  clear hl
  go_wp2
  go_loopg [7, 8] ns.length (fun kq v7 v8 w' => ∃ (i : Nat) (A3 : Option Addr) (c3 : Nat), v8 = .int .i64 i ∧ v7 = .slice A3 (itemsN (ns.take i)).length c3 ∧ i ≤ ns.length ∧ kq = ns.length - i ∧ FrL k48 48 w' wl.heap.size (Under w'.heap.size) A3 (itemsN (ns.take i)).length c3 (itemsN (ns.take i)) ∧ BelL wl w')
  case atStart => exact ⟨0, none, 0, rfl, rfl, Nat.zero_le _, rfl, frl_nil, belL⟩
  case round =>
    obtain ⟨i, A3, c3, rfl, rfl, hi, rfl, hF, hbr⟩ := hrel
    by_cases hlt : i < ns.length
    · obtain ⟨ad, A2, c2, B3, d3, A4, c4, A5, c5, rfl, hx0, hx1, hx2, hx3, hx4, hx5, hg2, hg3, hg4, hg5⟩ := el_T40 (W := wl) (A := A) (n := ns.length) (c := c) (l := ns) i hlt
      have hb1 := itemsN_len ns (i + 1)
      have HS := Aside0.mk (itemsN_snoc hlt)
      have HSL : Aside0 ((itemsN (ns.take (i + 1))).length = (itemsN (ns.take i)).length + ns[i].f2.length) := ⟨by rw [HS.out, List.length_append]⟩
      have hb2 : (itemsN (ns.take i)).length + ns[i].f2.length ≤ 500000 := by have := HSL.out; omega
      clear hb1
      go_wp2_with (first | ((with_reducible refine gate_dst (N := 30) rfl ?_); refine app_tc (k := k48) (t := 37) (A := A3) (n := (itemsN (ns.take i)).length) (c := c3) (B := A4) (m := ns[i].f2.length) (d := c4) (by rfl) (by rfl) Tryz.underlying37 (by rfl) (by rfl) (by omega) ?_; intro A6 c6 w6 _ _ _))
      go_roundg (ns.length - (i + 1))
      case measure => omega
      case rel => exact ⟨i + 1, _, _, by go_num, by rw [HSL.out], by omega, rfl, by rw [HSL.out, HS.out]; exact frl, belL⟩
    · obtain rfl : i = ns.length := by omega
      rw [List.take_length] at hF
      rw [List.take_length]
      generalize hN0 : itemsN ns = N0 at hF hN HL
      clear hN0
      go_wp2
      go_loopg [7, 9] ps.length (fun kq v7 v9 w' => ∃ (i : Nat) (A3 : Option Addr) (c3 : Nat), v9 = .int .i64 i ∧ v7 = .slice A3 (N0 ++ itemsP (ps.take i)).length c3 ∧ i ≤ ps.length ∧ kq = ps.length - i ∧ FrL k48 48 w' wl.heap.size (Under w'.heap.size) A3 (N0 ++ itemsP (ps.take i)).length c3 (N0 ++ itemsP (ps.take i)) ∧ BelL wl w')
      case atStart => exact ⟨0, A3, c3, rfl, by rw [show N0 ++ itemsP (ps.take 0) = N0 by simp [itemsP]], Nat.zero_le _, rfl, by rw [show N0 ++ itemsP (ps.take 0) = N0 by simp [itemsP]]; exact frl, belL⟩
      case round =>
        clear hF
        obtain ⟨i, A3, c3, rfl, rfl, hi8, rfl, hF8, hbr8⟩ := hrel
        by_cases hlt8 : i < ps.length
        · obtain ⟨ad, A9, c9, rfl, hy0, hy1, hy2, hy3, hy4, hy5, hy6, hy7, hy8, hy9, hy10, hs9⟩ := el_T126 (W := wl) (A := C) (n := ps.length) (c := f) (l := ps) i hlt8
          have hm1 := itemsP_len ps i
          have hm3 : (N0 ++ itemsP (ps.take i)).length = N0.length + (itemsP (ps.take i)).length := List.length_append
          cases hk : (ps[i].f0 == 1)
          · have HS8 := Aside0.mk (itemsP_no hlt8 hk)
            generalize hN1 : N0 ++ itemsP (ps.take i) = N1 at hF8 hm3
            have HN1 := Aside0.mk hN1
            clear hm3 hm1 hN1
            go_wp2
            go_roundg (ps.length - (i + 1))
            case measure => omega
            case rel => exact ⟨i + 1, _, _, by go_num, by rw [HS8.out, HN1.out], by omega, rfl, by rw [HS8.out, HN1.out]; exact frl, belL⟩
          · have HS8 := Aside0.mk (show N0 ++ itemsP (ps.take (i + 1)) = N0 ++ itemsP (ps.take i) ++ [ps[i].f5] by rw [itemsP_yes hlt8 hk, List.append_assoc])
            have hm4 : (N0 ++ itemsP (ps.take i)).length ≤ 500000 := by omega
            generalize N0 ++ itemsP (ps.take i) = N1 at hF8 HS8 hm4
            have HSL8 : Aside0 ((N0 ++ itemsP (ps.take (i + 1))).length = N1.length + 1) := ⟨by rw [HS8.out, List.length_append]; rfl⟩
            clear hm3 hm1
            go_wp2_with (first | ((with_reducible refine gate_dst (N := 52) rfl ?_); refine lit_tc ?hg (N := 52) ?hd (cs := #[.int .i64 ps[i].f5.f0, .int .i64 ps[i].f5.f1.f0, .int .i64 ps[i].f5.f1.f1, .int .i64 ps[i].f5.f2, .bool ps[i].f5.f3]) (t := 48) (m := 1) ?hr ?_; (case hd => rfl); (case hg => rfl); (case hr => first | (go_simp; done) | (go_simp; rfl)); intro g5 wg5 _ _ _) | ((with_reducible refine gate_dst (N := 53) rfl ?_); refine app_tc (k := k48) (t := 37) (A := A3) (n := N1.length) (c := c3) (B := some ⟨g5, 0, none⟩) (m := 1) (d := 1) (by rfl) (by rfl) Tryz.underlying37 (by rfl) (by rfl) (by omega) ?_; intro A6 c6 w6 _ _ _))
            go_roundg (ps.length - (i + 1))
            case measure => omega
            case rel => exact ⟨i + 1, _, _, by go_num, by rw [HSL8.out], by omega, rfl, by rw [HSL8.out, HS8.out]; exact frl, belL⟩
        · obtain rfl : i = ps.length := by omega
          have hm1 := itemsP_len ps ps.length
          rw [List.take_length] at hF8 hm1
          rw [List.take_length]
          have hm4 : (N0 ++ itemsP ps).length ≤ 500000 := by rw [List.length_append]; omega
          rw [HL.out] at hF8 hm4 ⊢
          clear HL hm1 hN
          refine wp_letter fun w3 h3 => ?_
          have S7 : SrL k48 w3 A3 L.length c3 L := sr_l inferInstance
          have B2b : BlkL w3 g2 #[.slice A ns.length c, .slice B m d, .slice C ps.length f] 61 := blkL
          have B4b : BlkL w3 g4 #[.int .i64 0, .int .i64 0, .int .i64 0, .int .i64 0, .bool false] 48 := blkL
          have hw3 : BelL w w3 := belL
          clear hF8
          go_upto_region 13 with (first | (with_reducible refine gate_dst (N := 11) rfl ?_; refine box_tc rfl (N := 11) rfl (cs := #[.int .i64 0, .int .i64 0, .int .i64 0, .int .i64 0, .bool false]) (t := 48) ?hr ?_; (case hr => first | (go_simp; done) | (go_simp; rfl)); intro g11 wg11 _ _ _))
          refine wp_letter fun w4 h4 => ?_
          have B11 : BlkL w4 g11 #[.int .i64 0, .int .i64 0, .int .i64 0, .int .i64 0, .bool false] 48 := blkL
          have B2c : BlkL w4 g2 #[.slice A ns.length c, .slice B m d, .slice C ps.length f] 61 := blkL
          have B4c : BlkL w4 g4 #[.int .i64 0, .int .i64 0, .int .i64 0, .int .i64 0, .bool false] 48 := blkL
          have hw34 : BelL w3 w4 := belL
          go_wp2
          go_loopg [10, 12, 13, 14, 15] L.length (fun kq v10 v12 v13 v14 v15 w' => ∃ (i : Nat) (A8 : Option Addr) (c8 : Nat), v13 = .int .i64 i ∧ v10 = .slice A8 (keysL (L.take i)).length c8 ∧ v12 = .bool (bestOpt key (L.take i)).isSome ∧ i ≤ L.length ∧ kq = L.length - i ∧ BlkL w' g11 #[.int .i64 ((bestOpt key (L.take i)).getD z48).f0, .int .i64 ((bestOpt key (L.take i)).getD z48).f1.f0, .int .i64 ((bestOpt key (L.take i)).getD z48).f1.f1, .int .i64 ((bestOpt key (L.take i)).getD z48).f2, .bool ((bestOpt key (L.take i)).getD z48).f3] 48 ∧ FrL kI 3 w' w4.heap.size (Under w'.heap.size) A8 (keysL (L.take i)).length c8 (keysL (L.take i)) ∧ LeB w4.heap.size w'.heap.size ∧ BelL w3 w')
          case atStart => exact ⟨0, none, 0, rfl, rfl, rfl, Nat.zero_le _, rfl, blkL, frl_nil, ⟨LeB.out⟩, belL⟩
          case round =>
            obtain ⟨i, A8, c8, rfl, rfl, rfl, hi9, rfl, hB, hF9, hle, hbr9⟩ := hrel
            by_cases hlt9 : i < L.length
            · obtain ⟨ad, rfl, hz0, hz1, hz2, hz3, hz4⟩ := el_T48 (W := w3) (A := A3) (n := L.length) (c := c3) (l := L) i hlt9
              have HB := bestOpt_snoc (k := key) hlt9
              have HK := keysL_snoc hlt9
              have hk8 : (keysL (L.take i)).length ≤ 500000 := Nat.le_trans (keysL_len _) (by rw [List.length_take]; omega)
              generalize hacc : bestOpt key (L.take i) = acc at hB HB ⊢
              generalize hK0 : keysL (L.take i) = K0 at hF9 HK hk8 ⊢
              clear hacc hK0
              cases hm : memB K0 L[i].f0
              · have QK := Aside0.mk (show keysL (L.take (i + 1)) = K0 ++ [L[i].f0] by rw [HK]; unfold keyStep; rw [hm]; rfl)
                have QL : Aside0 ((keysL (L.take (i + 1))).length = K0.length + 1) := ⟨by rw [QK.out, List.length_append]; rfl⟩
                have HM := Aside0.mk hm
                clear hm HK
                cases hk : (L[i].f0 != key)
                · have hk2 : L[i].f0 = key := by simpa using hk
                  cases acc with
                  | none =>
                    have QB := Aside0.mk (show bestOpt key (L.take (i + 1)) = some L[i] by rw [HB]; unfold bestStep; rw [if_pos hk2])
                    have hB0 : BlkL wr g11 #[.int .i64 0, .int .i64 0, .int .i64 0, .int .i64 0, .bool false] 48 := hB
                    clear HB hB hk2
                    go_wp2_with (first | (go_at_call 80; (with_reducible refine Calls.mono (in_ (l := K0) (x := L[i].f0)) ?_); rw [HM.out]; rintro e wi ⟨rfl, hbi⟩) | ((with_reducible refine gate_dst (N := 75) rfl ?_); refine lit_tc ?hg (N := 75) ?hd (cs := #[.int .i64 L[i].f0]) (t := 3) (m := 1) ?hr ?_; (case hd => rfl); (case hg => rfl); (case hr => first | (go_simp; done) | (go_simp; rfl)); intro g6 wg6 _ _ _) | ((with_reducible refine gate_dst (N := 76) rfl ?_); refine app_tc (k := kI) (t := 23) (A := A8) (n := K0.length) (c := c8) (B := some ⟨g6, 0, none⟩) (m := 1) (d := 1) (by rfl) (by rfl) Tryz.underlying23 (by rfl) (by rfl) (by omega) ?_; intro A7 c7 w7 _ _ _))
                    go_roundg (L.length - (i + 1))
                    case measure => omega
                    case rel => exact ⟨i + 1, _, _, by go_num, by rw [QL.out], by first | (rw [QB.out]; done) | (rw [QB.out]; rfl), by omega, rfl, by rw [QB.out]; exact blkL, by rw [QL.out, QK.out]; exact frl, ⟨LeB.out⟩, belL⟩
                
                  | some x =>
                    have QB := Aside0.mk (show bestOpt key (L.take (i + 1)) = some (bestI x L[i]) by rw [HB]; unfold bestStep; rw [if_pos hk2])
                    have hB0 : BlkL wr g11 #[.int .i64 x.f0, .int .i64 x.f1.f0, .int .i64 x.f1.f1, .int .i64 x.f2, .bool x.f3] 48 := hB
                    clear HB hB hk2
                    go_upto_region 21 with (first | (go_at_call 80; (with_reducible refine Calls.mono (in_ (l := K0) (x := L[i].f0)) ?_); rw [HM.out]; rintro e wi ⟨rfl, hbi⟩) | ((with_reducible refine gate_dst (N := 75) rfl ?_); refine lit_tc ?hg (N := 75) ?hd (cs := #[.int .i64 L[i].f0]) (t := 3) (m := 1) ?hr ?_; (case hd => rfl); (case hg => rfl); (case hr => first | (go_simp; done) | (go_simp; rfl)); intro g6 wg6 _ _ _) | ((with_reducible refine gate_dst (N := 76) rfl ?_); refine app_tc (k := kI) (t := 23) (A := A8) (n := K0.length) (c := c8) (B := some ⟨g6, 0, none⟩) (m := 1) (d := 1) (by rfl) (by rfl) Tryz.underlying23 (by rfl) (by rfl) (by omega) ?_; intro A7 c7 w7 _ _ _))
                    refine wp_letter fun w6 hb6 => ?_
                    have B11d : BlkL w6 g11 #[.int .i64 x.f0, .int .i64 x.f1.f0, .int .i64 x.f1.f1, .int .i64 x.f2, .bool x.f3] 48 := blkL
                    have h36 : BelL w3 w6 := belL
                    have hF6 : FrL kI 3 w6 w4.heap.size (Under w6.heap.size) A7 (K0.length + 1) c7 (K0 ++ [L[i].f0]) := frl
                    have hle6 : LeB w4.heap.size w6.heap.size := ⟨LeB.out⟩
                    clear hb6
                    refine wp_region_any_lex (S := fun w_ => BelL w6 w_) 12 (by kernel_rfl) (by kernel_rfl) belL ?_
                    (refine lexR_take (i := 0) (v := ?_) rfl (by kernel_rfl) (by kernel_rfl) (by kernel_rfl) (by kernel_rfl) belL ?_ ?_; rotate_left; (focus (intro wq (hSw : BelL w6 wq); (first | (go_simp; done) | (go_simp; with_reducible rfl)); done)); (try simp only [Act.put, List.setIfInBounds_toArray, List.set_cons_zero, List.set_cons_succ]))
                    (refine lexR_take (i := 1) (v := ?_) rfl (by kernel_rfl) (by kernel_rfl) (by kernel_rfl) (by kernel_rfl) belL ?_ ?_; rotate_left; (focus (intro wq (hSw : BelL w6 wq); (first | (go_simp; done) | (go_simp; with_reducible rfl)); done)); (try simp only [Act.put, List.setIfInBounds_toArray, List.set_cons_zero, List.set_cons_succ]))
                    (refine lexR_take (i := 2) (v := ?_) rfl (by kernel_rfl) (by kernel_rfl) (by kernel_rfl) (by kernel_rfl) belL ?_ ?_; rotate_left; (focus (intro wq (hSw : BelL w6 wq); (first | (go_simp; done) | (go_simp; with_reducible rfl)); done)); (try simp only [Act.put, List.setIfInBounds_toArray, List.set_cons_zero, List.set_cons_succ]))
                    (refine lexR_take (i := 3) (v := ?_) rfl (by kernel_rfl) (by kernel_rfl) (by kernel_rfl) (by kernel_rfl) belL ?_ ?_; rotate_left; (focus (intro wq (hSw : BelL w6 wq); (first | (go_simp; done) | (go_simp; with_reducible rfl)); done)); (try simp only [Act.put, List.setIfInBounds_toArray, List.set_cons_zero, List.set_cons_succ]))
                    (refine lexR_take (i := 4) (v := ?_) rfl (by kernel_rfl) (by kernel_rfl) (by kernel_rfl) (by kernel_rfl) belL ?_ ?_; rotate_left; (focus (intro wq (hSw : BelL w6 wq); (first | (go_simp; done) | (go_simp; with_reducible rfl)); done)); (try simp only [Act.put, List.setIfInBounds_toArray, List.set_cons_zero, List.set_cons_succ]))
                    refine lexR_two (i := 5) (j := 9) (by kernel_rfl) rfl rfl (by kernel_rfl) (by kernel_rfl) (fun K hK => ?_) (fun K hK => ?_)
                    · (go_simp; (go_at_call 30; (with_reducible refine Calls.mono (refBestS_ (x := x) (y := L[i])) ?_); rintro e wbe ⟨rfl, hbe⟩; simp only [itemV]); refine hK.out _ _ belL ?_; clear hK K; (try simp only [Act.put, List.setIfInBounds_toArray, List.set_cons_zero, List.set_cons_succ]))
                      (refine lexR_take (i := 6) (v := ?_) rfl (by kernel_rfl) (by kernel_rfl) (by kernel_rfl) (by kernel_rfl) belL ?_ ?_; rotate_left; (focus (intro wq (hSw : BelL w6 wq); (first | (go_simp; done) | (go_simp; with_reducible rfl)); done)); (try simp only [Act.put, List.setIfInBounds_toArray, List.set_cons_zero, List.set_cons_succ]))
                      (refine lexR_take (i := 7) (v := ?_) rfl (by kernel_rfl) (by kernel_rfl) (by kernel_rfl) (by kernel_rfl) belL ?_ ?_; rotate_left; (focus (intro wq (hSw : BelL w6 wq); (first | (go_simp; done) | (go_simp; with_reducible rfl)); done)); (try simp only [Act.put, List.setIfInBounds_toArray, List.set_cons_zero, List.set_cons_succ]))
                      (refine lexR_take (i := 8) (v := ?_) rfl (by kernel_rfl) (by kernel_rfl) (by kernel_rfl) (by kernel_rfl) belL ?_ ?_; rotate_left; (focus (intro wq (hSw : BelL w6 wq); (first | (go_simp; done) | (go_simp; with_reducible rfl)); done)); (try simp only [Act.put, List.setIfInBounds_toArray, List.set_cons_zero, List.set_cons_succ]))
                      (refine lexR_one (i := 9) (by kernel_rfl) rfl (by kernel_rfl) (fun K hK => ?_); refine box_wp (N := _) rfl (cs := #[.int .i64 0, .int .i64 0, .int .i64 0, .int .i64 0, .bool false]) (t := 48) ?_ ?_; (focus (first | (go_simp; done) | (go_simp; rfl))); intro g14 wg14 _ _ _; refine hK.out _ _ belL ?_; clear hK K; (try simp only [Act.put, List.setIfInBounds_toArray, List.set_cons_zero, List.set_cons_succ]))
                      (refine lexR_one (i := 10) (by kernel_rfl) rfl (by kernel_rfl) (fun K hK => ?_); go_simp; refine hK.out _ _ belL ?_; clear hK K; (try simp only [Act.put, List.setIfInBounds_toArray, List.set_cons_zero, List.set_cons_succ]))
                      (refine lexR_take (i := 11) (v := ?_) rfl (by kernel_rfl) (by kernel_rfl) (by kernel_rfl) (by kernel_rfl) belL ?_ ?_; rotate_left; (focus (intro wq (hSw : BelL w6 wq); (first | (go_simp; done) | (go_simp; with_reducible rfl)); done)); (try simp only [Act.put, List.setIfInBounds_toArray, List.set_cons_zero, List.set_cons_succ]))
                      refine lexR_done (by kernel_rfl) ?_
                      go_upto_region 22 with (fail)
                      refine wp_letter fun w7 hb7 => ?_
                      have B14 : BlkL w7 g14 #[.int .i64 (bestI x L[i]).f0, .int .i64 (bestI x L[i]).f1.f0, .int .i64 (bestI x L[i]).f1.f1, .int .i64 (bestI x L[i]).f2, .bool (bestI x L[i]).f3] 48 := blkL
                      have B11e : BlkL w7 g11 #[.int .i64 x.f0, .int .i64 x.f1.f0, .int .i64 x.f1.f1, .int .i64 x.f2, .bool x.f3] 48 := blkL
                      have h37 : BelL w3 w7 := belL
                      have hF7 : FrL kI 3 w7 w4.heap.size (Under w7.heap.size) A7 (K0.length + 1) c7 (K0 ++ [L[i].f0]) := frl
                      have hle7 : LeB w4.heap.size w7.heap.size := ⟨LeB.out⟩
                      clear hb7
                      go_wp2
                      go_roundg (L.length - (i + 1))
                      case measure => omega
                      case rel => exact ⟨i + 1, _, _, by go_num, by rw [QL.out], by first | (rw [QB.out]; done) | (rw [QB.out]; rfl), by omega, rfl, by rw [QB.out]; exact blkL, by rw [QL.out, QK.out]; exact frl, ⟨LeB.out⟩, belL⟩
                    · (refine box_wp (N := _) rfl (cs := #[.int .i64 0, .int .i64 0, .int .i64 0, .int .i64 0, .bool false]) (t := 48) ?_ ?_; (focus (first | (go_simp; done) | (go_simp; rfl))); intro g14 wg14 _ _ _; refine hK.out _ _ belL ?_; clear hK K; (try simp only [Act.put, List.setIfInBounds_toArray, List.set_cons_zero, List.set_cons_succ]))
                      (refine lexR_one (i := 5) (by kernel_rfl) rfl (by kernel_rfl) (fun K hK => ?_); go_simp; (go_at_call 30; (with_reducible refine Calls.mono (refBestS_ (x := x) (y := L[i])) ?_); rintro e wbe ⟨rfl, hbe⟩; simp only [itemV]); refine hK.out _ _ belL ?_; clear hK K; (try simp only [Act.put, List.setIfInBounds_toArray, List.set_cons_zero, List.set_cons_succ]))
                      (refine lexR_take (i := 6) (v := ?_) rfl (by kernel_rfl) (by kernel_rfl) (by kernel_rfl) (by kernel_rfl) belL ?_ ?_; rotate_left; (focus (intro wq (hSw : BelL w6 wq); (first | (go_simp; done) | (go_simp; with_reducible rfl)); done)); (try simp only [Act.put, List.setIfInBounds_toArray, List.set_cons_zero, List.set_cons_succ]))
                      (refine lexR_take (i := 7) (v := ?_) rfl (by kernel_rfl) (by kernel_rfl) (by kernel_rfl) (by kernel_rfl) belL ?_ ?_; rotate_left; (focus (intro wq (hSw : BelL w6 wq); (first | (go_simp; done) | (go_simp; with_reducible rfl)); done)); (try simp only [Act.put, List.setIfInBounds_toArray, List.set_cons_zero, List.set_cons_succ]))
                      (refine lexR_take (i := 8) (v := ?_) rfl (by kernel_rfl) (by kernel_rfl) (by kernel_rfl) (by kernel_rfl) belL ?_ ?_; rotate_left; (focus (intro wq (hSw : BelL w6 wq); (first | (go_simp; done) | (go_simp; with_reducible rfl)); done)); (try simp only [Act.put, List.setIfInBounds_toArray, List.set_cons_zero, List.set_cons_succ]))
                      (refine lexR_one (i := 10) (by kernel_rfl) rfl (by kernel_rfl) (fun K hK => ?_); go_simp; refine hK.out _ _ belL ?_; clear hK K; (try simp only [Act.put, List.setIfInBounds_toArray, List.set_cons_zero, List.set_cons_succ]))
                      (refine lexR_take (i := 11) (v := ?_) rfl (by kernel_rfl) (by kernel_rfl) (by kernel_rfl) (by kernel_rfl) belL ?_ ?_; rotate_left; (focus (intro wq (hSw : BelL w6 wq); (first | (go_simp; done) | (go_simp; with_reducible rfl)); done)); (try simp only [Act.put, List.setIfInBounds_toArray, List.set_cons_zero, List.set_cons_succ]))
                      refine lexR_done (by kernel_rfl) ?_
                      go_upto_region 22 with (fail)
                      refine wp_letter fun w7 hb7 => ?_
                      have B14 : BlkL w7 g14 #[.int .i64 (bestI x L[i]).f0, .int .i64 (bestI x L[i]).f1.f0, .int .i64 (bestI x L[i]).f1.f1, .int .i64 (bestI x L[i]).f2, .bool (bestI x L[i]).f3] 48 := blkL
                      have B11e : BlkL w7 g11 #[.int .i64 x.f0, .int .i64 x.f1.f0, .int .i64 x.f1.f1, .int .i64 x.f2, .bool x.f3] 48 := blkL
                      have h37 : BelL w3 w7 := belL
                      have hF7 : FrL kI 3 w7 w4.heap.size (Under w7.heap.size) A7 (K0.length + 1) c7 (K0 ++ [L[i].f0]) := frl
                      have hle7 : LeB w4.heap.size w7.heap.size := ⟨LeB.out⟩
                      clear hb7
                      go_wp2
                      go_roundg (L.length - (i + 1))
                      case measure => omega
                      case rel => exact ⟨i + 1, _, _, by go_num, by rw [QL.out], by first | (rw [QB.out]; done) | (rw [QB.out]; rfl), by omega, rfl, by rw [QB.out]; exact blkL, by rw [QL.out, QK.out]; exact frl, ⟨LeB.out⟩, belL⟩
                · have hk2 : L[i].f0 ≠ key := by simpa using hk
                  have QB := Aside0.mk (show bestOpt key (L.take (i + 1)) = acc by rw [HB]; unfold bestStep; rw [if_neg hk2])
                  clear HB hk2
                  go_wp2_with (first | (go_at_call 80; (with_reducible refine Calls.mono (in_ (l := K0) (x := L[i].f0)) ?_); rw [HM.out]; rintro e wi ⟨rfl, hbi⟩) | ((with_reducible refine gate_dst (N := 75) rfl ?_); refine lit_tc ?hg (N := 75) ?hd (cs := #[.int .i64 L[i].f0]) (t := 3) (m := 1) ?hr ?_; (case hd => rfl); (case hg => rfl); (case hr => first | (go_simp; done) | (go_simp; rfl)); intro g6 wg6 _ _ _) | ((with_reducible refine gate_dst (N := 76) rfl ?_); refine app_tc (k := kI) (t := 23) (A := A8) (n := K0.length) (c := c8) (B := some ⟨g6, 0, none⟩) (m := 1) (d := 1) (by rfl) (by rfl) Tryz.underlying23 (by rfl) (by rfl) (by omega) ?_; intro A7 c7 w7 _ _ _))
                  go_roundg (L.length - (i + 1))
                  case measure => omega
                  case rel => exact ⟨i + 1, _, _, by go_num, by rw [QL.out], by first | (rw [QB.out]; done) | (rw [QB.out]; rfl), by omega, rfl, by rw [QB.out]; exact blkL, by rw [QL.out, QK.out]; exact frl, ⟨LeB.out⟩, belL⟩
              · have QK := Aside0.mk (show keysL (L.take (i + 1)) = K0 by rw [HK]; unfold keyStep; rw [hm]; rfl)
                have QL : Aside0 ((keysL (L.take (i + 1))).length = K0.length) := ⟨by rw [QK.out]⟩
                have HM := Aside0.mk hm
                clear hm HK
                cases hk : (L[i].f0 != key)
                · have hk2 : L[i].f0 = key := by simpa using hk
                  cases acc with
                  | none =>
                    have QB := Aside0.mk (show bestOpt key (L.take (i + 1)) = some L[i] by rw [HB]; unfold bestStep; rw [if_pos hk2])
                    have hB0 : BlkL wr g11 #[.int .i64 0, .int .i64 0, .int .i64 0, .int .i64 0, .bool false] 48 := hB
                    clear HB hB hk2
                    go_wp2_with (first | (go_at_call 80; (with_reducible refine Calls.mono (in_ (l := K0) (x := L[i].f0)) ?_); rw [HM.out]; rintro e wi ⟨rfl, hbi⟩))
                    go_roundg (L.length - (i + 1))
                    case measure => omega
                    case rel => exact ⟨i + 1, _, _, by go_num, by rw [QL.out], by first | (rw [QB.out]; done) | (rw [QB.out]; rfl), by omega, rfl, by rw [QB.out]; exact blkL, by rw [QL.out, QK.out]; exact frl, ⟨LeB.out⟩, belL⟩
                
                  | some x =>
                    have QB := Aside0.mk (show bestOpt key (L.take (i + 1)) = some (bestI x L[i]) by rw [HB]; unfold bestStep; rw [if_pos hk2])
                    have hB0 : BlkL wr g11 #[.int .i64 x.f0, .int .i64 x.f1.f0, .int .i64 x.f1.f1, .int .i64 x.f2, .bool x.f3] 48 := hB
                    clear HB hB hk2
                    go_upto_region 21 with (first | (go_at_call 80; (with_reducible refine Calls.mono (in_ (l := K0) (x := L[i].f0)) ?_); rw [HM.out]; rintro e wi ⟨rfl, hbi⟩))
                    refine wp_letter fun w6 hb6 => ?_
                    have B11d : BlkL w6 g11 #[.int .i64 x.f0, .int .i64 x.f1.f0, .int .i64 x.f1.f1, .int .i64 x.f2, .bool x.f3] 48 := blkL
                    have h36 : BelL w3 w6 := belL
                    have hF6 : FrL kI 3 w6 w4.heap.size (Under w6.heap.size) A8 K0.length c8 K0 := frl
                    have hle6 : LeB w4.heap.size w6.heap.size := ⟨LeB.out⟩
                    clear hb6
                    refine wp_region_any_lex (S := fun w_ => BelL w6 w_) 12 (by kernel_rfl) (by kernel_rfl) belL ?_
                    (refine lexR_take (i := 0) (v := ?_) rfl (by kernel_rfl) (by kernel_rfl) (by kernel_rfl) (by kernel_rfl) belL ?_ ?_; rotate_left; (focus (intro wq (hSw : BelL w6 wq); (first | (go_simp; done) | (go_simp; with_reducible rfl)); done)); (try simp only [Act.put, List.setIfInBounds_toArray, List.set_cons_zero, List.set_cons_succ]))
                    (refine lexR_take (i := 1) (v := ?_) rfl (by kernel_rfl) (by kernel_rfl) (by kernel_rfl) (by kernel_rfl) belL ?_ ?_; rotate_left; (focus (intro wq (hSw : BelL w6 wq); (first | (go_simp; done) | (go_simp; with_reducible rfl)); done)); (try simp only [Act.put, List.setIfInBounds_toArray, List.set_cons_zero, List.set_cons_succ]))
                    (refine lexR_take (i := 2) (v := ?_) rfl (by kernel_rfl) (by kernel_rfl) (by kernel_rfl) (by kernel_rfl) belL ?_ ?_; rotate_left; (focus (intro wq (hSw : BelL w6 wq); (first | (go_simp; done) | (go_simp; with_reducible rfl)); done)); (try simp only [Act.put, List.setIfInBounds_toArray, List.set_cons_zero, List.set_cons_succ]))
                    (refine lexR_take (i := 3) (v := ?_) rfl (by kernel_rfl) (by kernel_rfl) (by kernel_rfl) (by kernel_rfl) belL ?_ ?_; rotate_left; (focus (intro wq (hSw : BelL w6 wq); (first | (go_simp; done) | (go_simp; with_reducible rfl)); done)); (try simp only [Act.put, List.setIfInBounds_toArray, List.set_cons_zero, List.set_cons_succ]))
                    (refine lexR_take (i := 4) (v := ?_) rfl (by kernel_rfl) (by kernel_rfl) (by kernel_rfl) (by kernel_rfl) belL ?_ ?_; rotate_left; (focus (intro wq (hSw : BelL w6 wq); (first | (go_simp; done) | (go_simp; with_reducible rfl)); done)); (try simp only [Act.put, List.setIfInBounds_toArray, List.set_cons_zero, List.set_cons_succ]))
                    refine lexR_two (i := 5) (j := 9) (by kernel_rfl) rfl rfl (by kernel_rfl) (by kernel_rfl) (fun K hK => ?_) (fun K hK => ?_)
                    · (go_simp; (go_at_call 30; (with_reducible refine Calls.mono (refBestS_ (x := x) (y := L[i])) ?_); rintro e wbe ⟨rfl, hbe⟩; simp only [itemV]); refine hK.out _ _ belL ?_; clear hK K; (try simp only [Act.put, List.setIfInBounds_toArray, List.set_cons_zero, List.set_cons_succ]))
                      (refine lexR_take (i := 6) (v := ?_) rfl (by kernel_rfl) (by kernel_rfl) (by kernel_rfl) (by kernel_rfl) belL ?_ ?_; rotate_left; (focus (intro wq (hSw : BelL w6 wq); (first | (go_simp; done) | (go_simp; with_reducible rfl)); done)); (try simp only [Act.put, List.setIfInBounds_toArray, List.set_cons_zero, List.set_cons_succ]))
                      (refine lexR_take (i := 7) (v := ?_) rfl (by kernel_rfl) (by kernel_rfl) (by kernel_rfl) (by kernel_rfl) belL ?_ ?_; rotate_left; (focus (intro wq (hSw : BelL w6 wq); (first | (go_simp; done) | (go_simp; with_reducible rfl)); done)); (try simp only [Act.put, List.setIfInBounds_toArray, List.set_cons_zero, List.set_cons_succ]))
                      (refine lexR_take (i := 8) (v := ?_) rfl (by kernel_rfl) (by kernel_rfl) (by kernel_rfl) (by kernel_rfl) belL ?_ ?_; rotate_left; (focus (intro wq (hSw : BelL w6 wq); (first | (go_simp; done) | (go_simp; with_reducible rfl)); done)); (try simp only [Act.put, List.setIfInBounds_toArray, List.set_cons_zero, List.set_cons_succ]))
                      (refine lexR_one (i := 9) (by kernel_rfl) rfl (by kernel_rfl) (fun K hK => ?_); refine box_wp (N := _) rfl (cs := #[.int .i64 0, .int .i64 0, .int .i64 0, .int .i64 0, .bool false]) (t := 48) ?_ ?_; (focus (first | (go_simp; done) | (go_simp; rfl))); intro g14 wg14 _ _ _; refine hK.out _ _ belL ?_; clear hK K; (try simp only [Act.put, List.setIfInBounds_toArray, List.set_cons_zero, List.set_cons_succ]))
                      (refine lexR_one (i := 10) (by kernel_rfl) rfl (by kernel_rfl) (fun K hK => ?_); go_simp; refine hK.out _ _ belL ?_; clear hK K; (try simp only [Act.put, List.setIfInBounds_toArray, List.set_cons_zero, List.set_cons_succ]))
                      (refine lexR_take (i := 11) (v := ?_) rfl (by kernel_rfl) (by kernel_rfl) (by kernel_rfl) (by kernel_rfl) belL ?_ ?_; rotate_left; (focus (intro wq (hSw : BelL w6 wq); (first | (go_simp; done) | (go_simp; with_reducible rfl)); done)); (try simp only [Act.put, List.setIfInBounds_toArray, List.set_cons_zero, List.set_cons_succ]))
                      refine lexR_done (by kernel_rfl) ?_
                      go_upto_region 22 with (fail)
                      refine wp_letter fun w7 hb7 => ?_
                      have B14 : BlkL w7 g14 #[.int .i64 (bestI x L[i]).f0, .int .i64 (bestI x L[i]).f1.f0, .int .i64 (bestI x L[i]).f1.f1, .int .i64 (bestI x L[i]).f2, .bool (bestI x L[i]).f3] 48 := blkL
                      have B11e : BlkL w7 g11 #[.int .i64 x.f0, .int .i64 x.f1.f0, .int .i64 x.f1.f1, .int .i64 x.f2, .bool x.f3] 48 := blkL
                      have h37 : BelL w3 w7 := belL
                      have hF7 : FrL kI 3 w7 w4.heap.size (Under w7.heap.size) A8 K0.length c8 K0 := frl
                      have hle7 : LeB w4.heap.size w7.heap.size := ⟨LeB.out⟩
                      clear hb7
                      go_wp2
                      go_roundg (L.length - (i + 1))
                      case measure => omega
                      case rel => exact ⟨i + 1, _, _, by go_num, by rw [QL.out], by first | (rw [QB.out]; done) | (rw [QB.out]; rfl), by omega, rfl, by rw [QB.out]; exact blkL, by rw [QL.out, QK.out]; exact frl, ⟨LeB.out⟩, belL⟩
                    · (refine box_wp (N := _) rfl (cs := #[.int .i64 0, .int .i64 0, .int .i64 0, .int .i64 0, .bool false]) (t := 48) ?_ ?_; (focus (first | (go_simp; done) | (go_simp; rfl))); intro g14 wg14 _ _ _; refine hK.out _ _ belL ?_; clear hK K; (try simp only [Act.put, List.setIfInBounds_toArray, List.set_cons_zero, List.set_cons_succ]))
                      (refine lexR_one (i := 5) (by kernel_rfl) rfl (by kernel_rfl) (fun K hK => ?_); go_simp; (go_at_call 30; (with_reducible refine Calls.mono (refBestS_ (x := x) (y := L[i])) ?_); rintro e wbe ⟨rfl, hbe⟩; simp only [itemV]); refine hK.out _ _ belL ?_; clear hK K; (try simp only [Act.put, List.setIfInBounds_toArray, List.set_cons_zero, List.set_cons_succ]))
                      (refine lexR_take (i := 6) (v := ?_) rfl (by kernel_rfl) (by kernel_rfl) (by kernel_rfl) (by kernel_rfl) belL ?_ ?_; rotate_left; (focus (intro wq (hSw : BelL w6 wq); (first | (go_simp; done) | (go_simp; with_reducible rfl)); done)); (try simp only [Act.put, List.setIfInBounds_toArray, List.set_cons_zero, List.set_cons_succ]))
                      (refine lexR_take (i := 7) (v := ?_) rfl (by kernel_rfl) (by kernel_rfl) (by kernel_rfl) (by kernel_rfl) belL ?_ ?_; rotate_left; (focus (intro wq (hSw : BelL w6 wq); (first | (go_simp; done) | (go_simp; with_reducible rfl)); done)); (try simp only [Act.put, List.setIfInBounds_toArray, List.set_cons_zero, List.set_cons_succ]))
                      (refine lexR_take (i := 8) (v := ?_) rfl (by kernel_rfl) (by kernel_rfl) (by kernel_rfl) (by kernel_rfl) belL ?_ ?_; rotate_left; (focus (intro wq (hSw : BelL w6 wq); (first | (go_simp; done) | (go_simp; with_reducible rfl)); done)); (try simp only [Act.put, List.setIfInBounds_toArray, List.set_cons_zero, List.set_cons_succ]))
                      (refine lexR_one (i := 10) (by kernel_rfl) rfl (by kernel_rfl) (fun K hK => ?_); go_simp; refine hK.out _ _ belL ?_; clear hK K; (try simp only [Act.put, List.setIfInBounds_toArray, List.set_cons_zero, List.set_cons_succ]))
                      (refine lexR_take (i := 11) (v := ?_) rfl (by kernel_rfl) (by kernel_rfl) (by kernel_rfl) (by kernel_rfl) belL ?_ ?_; rotate_left; (focus (intro wq (hSw : BelL w6 wq); (first | (go_simp; done) | (go_simp; with_reducible rfl)); done)); (try simp only [Act.put, List.setIfInBounds_toArray, List.set_cons_zero, List.set_cons_succ]))
                      refine lexR_done (by kernel_rfl) ?_
                      go_upto_region 22 with (fail)
                      refine wp_letter fun w7 hb7 => ?_
                      have B14 : BlkL w7 g14 #[.int .i64 (bestI x L[i]).f0, .int .i64 (bestI x L[i]).f1.f0, .int .i64 (bestI x L[i]).f1.f1, .int .i64 (bestI x L[i]).f2, .bool (bestI x L[i]).f3] 48 := blkL
                      have B11e : BlkL w7 g11 #[.int .i64 x.f0, .int .i64 x.f1.f0, .int .i64 x.f1.f1, .int .i64 x.f2, .bool x.f3] 48 := blkL
                      have h37 : BelL w3 w7 := belL
                      have hF7 : FrL kI 3 w7 w4.heap.size (Under w7.heap.size) A8 K0.length c8 K0 := frl
                      have hle7 : LeB w4.heap.size w7.heap.size := ⟨LeB.out⟩
                      clear hb7
                      go_wp2
                      go_roundg (L.length - (i + 1))
                      case measure => omega
                      case rel => exact ⟨i + 1, _, _, by go_num, by rw [QL.out], by first | (rw [QB.out]; done) | (rw [QB.out]; rfl), by omega, rfl, by rw [QB.out]; exact blkL, by rw [QL.out, QK.out]; exact frl, ⟨LeB.out⟩, belL⟩
                · have hk2 : L[i].f0 ≠ key := by simpa using hk
                  have QB := Aside0.mk (show bestOpt key (L.take (i + 1)) = acc by rw [HB]; unfold bestStep; rw [if_neg hk2])
                  clear HB hk2
                  go_wp2_with (first | (go_at_call 80; (with_reducible refine Calls.mono (in_ (l := K0) (x := L[i].f0)) ?_); rw [HM.out]; rintro e wi ⟨rfl, hbi⟩))
                  go_roundg (L.length - (i + 1))
                  case measure => omega
                  case rel => exact ⟨i + 1, _, _, by go_num, by rw [QL.out], by first | (rw [QB.out]; done) | (rw [QB.out]; rfl), by omega, rfl, by rw [QB.out]; exact blkL, by rw [QL.out, QK.out]; exact frl, ⟨LeB.out⟩, belL⟩
            · obtain rfl : i = L.length := by omega
              rw [List.take_length] at hF9 hB
              rw [List.take_length]
              refine wp_letter fun w8 h8 => ?_
              have B11f : BlkL w8 g11 #[.int .i64 ((bestOpt key L).getD z48).f0, .int .i64 ((bestOpt key L).getD z48).f1.f0, .int .i64 ((bestOpt key L).getD z48).f1.f1, .int .i64 ((bestOpt key L).getD z48).f2, .bool ((bestOpt key L).getD z48).f3] 48 := blkL
              have B4f : BlkL w8 g4 #[.int .i64 0, .int .i64 0, .int .i64 0, .int .i64 0, .bool false] 48 := blkL
              have hw8 : BelL w w8 := belL
              generalize hX : (bestOpt key L).getD z48 = X at B11f ⊢
              clear hB hF9 h8
              go_wp2
              exact bodyPost_ret (v := .tuple #[.agg #[.int .i64 X.f0, .int .i64 X.f1.f0, .int .i64 X.f1.f1, .int .i64 X.f2, .bool X.f3], .bool (bestOpt key L).isSome, .int .i64 (keysL L).length]) (by simp [results, Tryz.results26, go_sem]) rfl ⟨by rw [hX]; rfl, belL⟩
end Go.Proofs.YtljipbmmgcccnaaGreat.T
end
section
namespace Go.Proofs.YtljipbmmgcccnaaGreat.T
open Go.RowKit Go.Proofs.YtljipbmmgcccnaaGreatW.PrintWords Go.Proofs.YtljipbmmgcccnaaGreatW.PrintLast Go.Proofs.YtljipbmmgcccnaaGreatW.PrintMore
attribute [local go_sem] cell_tc frozen_tc max2_int min2_int
attribute [local go_sem ↓] Go.wp_at_zero Go.wp_at_succ
set_option linter.unusedVariables false
set_option linter.unusedSimpArgs false
set_option synthInstance.maxHeartbeats 400000
set_option synthInstance.maxSize 512
attribute [local go_sem] cell_tc2
attribute [local go_sem high] eqA46 eqA98 eqA77 eqA48
set_option maxHeartbeats 4000000 in
theorem getStore_ {key : Int} {A : Option Addr} {n c : Nat} {l : List S48} {w : World} [h : Sr k48 w A n c l] (hs : storeB l = true) :
    Calls Tryz.prog 29 #[.slice A n c, .int .i64 key] w fun e w' => e = .returned (.tuple #[itemV ((getI l key).getD z48), .bool (getI l key).isSome]) ∧ BelL w w' := by
  obtain rfl := h.len
  have HS := sr_l h
  have hlen : l.length ≤ 9223372036854775807 := h.C.2.1
  have HS1 := Aside0.mk hs
  clear h hs
  go_enter Tryz.func29, Tryz.ntmps29
  go_upto_region 2 with (first | (with_reducible refine gate_dst (N := 4) rfl ?_; refine box_tc rfl (N := 4) rfl (cs := #[.int .i64 0, .int .i64 0, .int .i64 0, .int .i64 0, .bool false]) (t := 48) ?hr ?_; (case hr => first | (go_simp; done) | (go_simp; rfl)); intro g4 wg4 _ _ _))
  refine wp_letter fun wl hl => ?_
  have B4 : BlkL wl g4 #[.int .i64 0, .int .i64 0, .int .i64 0, .int .i64 0, .bool false] 48 := blkL
  have S1 : SrL k48 wl A l.length c l := sr_l inferInstance
  have hwl : BelL w wl := belL
  clear hl
  go_loopg [6] l.length (fun kq v6 w' => ∃ i : Nat, v6 = .int .i64 i ∧ i ≤ l.length ∧ kq = l.length - i ∧ Aside0 ((l.take i).any (fun y => y.f0 == key) = false) ∧ BelL wl w')
  case atStart => exact ⟨0, rfl, Nat.zero_le _, rfl, ⟨rfl⟩, belL⟩
  case round =>
    obtain ⟨i, rfl, hi, rfl, HA, hbr⟩ := hrel
    by_cases hlt : i < l.length
    · obtain ⟨ad, rfl, hz0, hz1, hz2, hz3, hz4⟩ := el_T48 (W := wl) (A := A) (n := l.length) (c := c) (l := l) i hlt
      cases h1 : (l[i].f0 == key)
      · have HT := Aside0.mk (any_step (p := fun y => y.f0 == key) hlt HA.out h1)
        go_wp2_with (first | (go_at_call 84; (with_reducible refine Calls.mono (refStore_ (l := l)) ?_); rw [HS1.out]; rintro e wb ⟨rfl, hb⟩))
        go_roundg (l.length - (i + 1))
        case measure => omega
        case rel => exact ⟨i + 1, by go_num, by omega, rfl, HT, belL⟩
      · have HF := Aside0.mk (show getI l key = some l[i] from (getI_some HS1.out).2 ⟨List.getElem_mem hlt, by simpa using h1⟩)
        go_wp2_with (first | (go_at_call 84; (with_reducible refine Calls.mono (refStore_ (l := l)) ?_); rw [HS1.out]; rintro e wb ⟨rfl, hb⟩))
        exact bodyPost_ret (v := .tuple #[.agg #[.int .i64 l[i].f0, .int .i64 l[i].f1.f0, .int .i64 l[i].f1.f1, .int .i64 l[i].f2, .bool l[i].f3], .bool true]) (by simp [results, Tryz.results29, go_sem]) rfl ⟨by rw [HF.out]; rfl, belL⟩
    · have HF := Aside0.mk (show getI l key = none from (getI_none HS1.out).2 (by
        have := HA.out
        rw [List.take_of_length_le (by omega), List.any_eq_false] at this
        exact fun x hx => by simpa using this x hx))
      go_wp2_with (first | (go_at_call 84; (with_reducible refine Calls.mono (refStore_ (l := l)) ?_); rw [HS1.out]; rintro e wb ⟨rfl, hb⟩))
      exact bodyPost_ret (v := .tuple #[.agg #[.int .i64 0, .int .i64 0, .int .i64 0, .int .i64 0, .bool false], .bool false]) (by simp [results, Tryz.results29, go_sem]) rfl ⟨by rw [HF.out]; rfl, belL⟩
end Go.Proofs.YtljipbmmgcccnaaGreat.T
end
section
namespace Go.Proofs.YtljipbmmgcccnaaGreat.T
open Go.RowKit Go.Proofs.YtljipbmmgcccnaaGreatW.PrintWords Go.Proofs.YtljipbmmgcccnaaGreatW.PrintLast Go.Proofs.YtljipbmmgcccnaaGreatW.PrintMore
attribute [local go_sem] cell_tc frozen_tc max2_int min2_int
attribute [local go_sem ↓] Go.wp_at_zero Go.wp_at_succ
set_option linter.unusedVariables false
set_option linter.unusedSimpArgs false
set_option synthInstance.maxHeartbeats 400000
set_option synthInstance.maxSize 512
attribute [local go_sem] cell_tc2
set_option maxHeartbeats 4000000 in
theorem sameView_ {i1 i2 : Int} {A B C D : Option Addr} {n c m d k f q h : Nat} {p1 p2 : List S98} {x1 x2 : List Int} {w : World} [h1 : Sr k98 w A n c p1] [h2 : Sr kI w B m d x1] [h3 : Sr k98 w C k f p2] [h4 : Sr kI w D q h x2] :
    Calls Tryz.prog 12 #[.agg #[.int .i64 i1, .slice A n c, .slice B m d], .agg #[.int .i64 i2, .slice C k f, .slice D q h]] w fun e w' => e = .returned (.bool (i1 == i2 && (decide (p1 = p2) && decide (x1 = x2)))) ∧ BelL w w' := by
  have s1 := sr_l h1
  have s2 := sr_l h2
  have s3 := sr_l h3
  have s4 := sr_l h4
  clear h1 h2 h3 h4
  cases hi : (i1 == i2)
  · have HI := Aside0.mk hi
    go_enter Tryz.func12, Tryz.ntmps12
    go_wp2_with (first | (with_reducible refine gate_dst (N := 2) rfl ?_; refine box_tc rfl (N := 2) rfl (cs := #[.int .i64 i1, .slice A n c, .slice B m d]) (t := 25) ?hr ?_; (case hr => first | (go_simp; done) | (go_simp; rfl)); intro g2 wg2 _ _ _) | (with_reducible refine gate_dst (N := 3) rfl ?_; refine box_tc rfl (N := 3) rfl (cs := #[.int .i64 i2, .slice C k f, .slice D q h]) (t := 25) ?hr ?_; (case hr => first | (go_simp; done) | (go_simp; rfl)); intro g3 wg3 _ _ _) | (go_at_call 41; (with_reducible refine Calls.mono (samePeers_ (l := p1) (r := p2)) ?_); rintro e w4 ⟨rfl, hb⟩) | (go_at_call 42; (with_reducible refine Calls.mono (sameInts_ (l := x1) (r := x2)) ?_); rintro e w5 ⟨rfl, hb⟩))
    go_ret
    exact ⟨rfl, belL⟩
  · cases hp : decide (p1 = p2)
    · have HP := Aside0.mk hp
      clear hp
      go_enter Tryz.func12, Tryz.ntmps12
      go_wp2_with (first | (with_reducible refine gate_dst (N := 2) rfl ?_; refine box_tc rfl (N := 2) rfl (cs := #[.int .i64 i1, .slice A n c, .slice B m d]) (t := 25) ?hr ?_; (case hr => first | (go_simp; done) | (go_simp; rfl)); intro g2 wg2 _ _ _) | (with_reducible refine gate_dst (N := 3) rfl ?_; refine box_tc rfl (N := 3) rfl (cs := #[.int .i64 i2, .slice C k f, .slice D q h]) (t := 25) ?hr ?_; (case hr => first | (go_simp; done) | (go_simp; rfl)); intro g3 wg3 _ _ _) | (go_at_call 41; (with_reducible refine Calls.mono (samePeers_ (l := p1) (r := p2)) ?_); rw [HP.out]; rintro e w4 ⟨rfl, hb⟩) | (go_at_call 42; (with_reducible refine Calls.mono (sameInts_ (l := x1) (r := x2)) ?_); rintro e w5 ⟨rfl, hb⟩))
      go_ret
      exact ⟨rfl, belL⟩
    · have HP := Aside0.mk hp
      clear hp
      go_enter Tryz.func12, Tryz.ntmps12
      go_wp2_with (first | (with_reducible refine gate_dst (N := 2) rfl ?_; refine box_tc rfl (N := 2) rfl (cs := #[.int .i64 i1, .slice A n c, .slice B m d]) (t := 25) ?hr ?_; (case hr => first | (go_simp; done) | (go_simp; rfl)); intro g2 wg2 _ _ _) | (with_reducible refine gate_dst (N := 3) rfl ?_; refine box_tc rfl (N := 3) rfl (cs := #[.int .i64 i2, .slice C k f, .slice D q h]) (t := 25) ?hr ?_; (case hr => first | (go_simp; done) | (go_simp; rfl)); intro g3 wg3 _ _ _) | (go_at_call 41; (with_reducible refine Calls.mono (samePeers_ (l := p1) (r := p2)) ?_); rw [HP.out]; rintro e w4 ⟨rfl, hb⟩) | (go_at_call 42; (with_reducible refine Calls.mono (sameInts_ (l := x1) (r := x2)) ?_); rintro e w5 ⟨rfl, hb⟩))
      go_ret
      exact ⟨rfl, belL⟩
end Go.Proofs.YtljipbmmgcccnaaGreat.T
end
section
namespace Go.Proofs.YtljipbmmgcccnaaGreat.T
open Go.RowKit Go.Proofs.YtljipbmmgcccnaaGreatW.PrintWords Go.Proofs.YtljipbmmgcccnaaGreatW.PrintLast Go.Proofs.YtljipbmmgcccnaaGreatW.PrintMore
attribute [local go_sem] cell_tc frozen_tc max2_int min2_int
attribute [local go_sem ↓] Go.wp_at_zero Go.wp_at_succ
set_option linter.unusedVariables false
set_option linter.unusedSimpArgs false
set_option synthInstance.maxHeartbeats 400000
set_option synthInstance.maxSize 512
attribute [local go_sem] cell_tc2
attribute [local go_sem high] eqA46 eqA98 eqA77 eqA48
set_option maxRecDepth 100000 in
set_option maxHeartbeats 16000000 in
theorem topStill_ {n c m d k f : Nat} {A B C : Option Addr} {ns : List S40} {ps : List S126} {w : World} [h : Sr k40 w A n c ns] [q : Sr k126 w C k f ps] (hz : nodesFit ns) (hN : (itemsN ns).length + k ≤ 500000) :
    Calls Tryz.prog 8 #[.agg #[.slice A n c, .slice B m d, .slice C k f]] w fun e w' => e = .returned (.bool true) ∧ BelL w w' := by
  obtain rfl := h.len
  obtain rfl := q.len
  have s1 := sr_l h
  have s2 := sr_l q
  clear h q
  go_enter Tryz.func8, Tryz.ntmps8
  go_upto_region 4 with (first | (with_reducible refine gate_dst (N := 1) rfl ?_; refine box_tc rfl (N := 1) rfl (cs := #[.slice A ns.length c, .slice B m d, .slice C ps.length f]) (t := 61) ?hr ?_; (case hr => first | (go_simp; done) | (go_simp; rfl)); intro g1 wg1 _ _ _) | (go_at_call 9; (with_reducible refine Calls.mono awake_ ?_); rintro e wa ⟨rfl, hba⟩) | (go_at_call 26; (with_reducible refine Calls.mono (best26_ (ns := ns) (ps := ps) hN) ?_); rintro e wq ⟨rfl, hbq⟩; simp only [itemV]) | (with_reducible refine gate_dst (N := 3) rfl ?_; refine box_tc rfl (N := 3) rfl (cs := #[.int .i64 0, .int .i64 0, .int .i64 0, .int .i64 0, .bool false]) (t := 48) ?hr ?_; (case hr => first | (go_simp; done) | (go_simp; rfl)); intro g3 wg3 _ _ _))
  generalize hKN : (keysL (allI (ns, ps))).length = kn
  clear hKN
  refine wp_letter fun wb hbb => ?_
  have B1 : BlkL wb g1 #[.slice A ns.length c, .slice B m d, .slice C ps.length f] 61 := blkL
  have S1 : SrL k40 wb A ns.length c ns := sr_l inferInstance
  have S2 : SrL k126 wb C ps.length f ps := sr_l inferInstance
  have hwb : BelL w wb := belL
  clear hbb
  cases hk : decide ((16 : Int) < (kn : Int))
  case true =>
    go_wp2_with (first | (go_at_call 22; (with_reducible refine Calls.mono (whole_ (ns := ns) (ps := ps) hz) ?_); rintro e wv ⟨b, rfl, hW, hbv⟩; cases b))
    all_goals
      go_ret
      exact ⟨rfl, belL⟩
  go_upto_region 6 with (first | (go_at_call 22; (with_reducible refine Calls.mono (whole_ (ns := ns) (ps := ps) hz) ?_); rintro e wv ⟨b, rfl, hW, hbv⟩; cases b))
  · go_ret
    exact ⟨rfl, belL⟩
  · obtain ⟨rfl, _, hWh⟩ := hW (by first | rfl | trivial)
    obtain ⟨n8, e8, c8, a8, f8, l8, m8⟩ := whole_at hWh 8 (by decide)
    have E8 := Aside0.mk e8
    have hO := hWh.ok
    obtain ⟨k1, k2⟩ := still_law c8 a8 f8
    have hn8 : n8.length ≤ 8 := (nodesB_iff.1 (mayB_iff.1 c8).1).2.1
    have E9 := Aside0.mk (show roundsW 1 (n8, []) = (nextN n8, []) from (roundsW_calm c8 1).trans rfl)
    have cM := next_calm c8
    generalize nextN n8 = M at k1 k2 E9 cM
    have K2 := Aside0.mk k2
    have C8 := Aside0.mk c8
    have CM := Aside0.mk cM
    have L9 := Aside0.mk k1
    clear k1 k2 e8 f8 a8 l8 m8 hW cM
    refine wp_letter fun wc hbc => ?_
    have B1a : BlkL wc g1 #[.slice A ns.length c, .slice B 0 d, .slice C ps.length f] 61 := blkL
    have S1a : SrL k40 wc A ns.length c ns := sr_l inferInstance
    have S2a : SrL k126 wc C ps.length f ps := sr_l inferInstance
    have hwc : BelL w wc := belL
    clear hbc
    go_upto_region 7 with (first | (go_at_call 23; (with_reducible refine Calls.mono (rounds8_ (ns := ns) (ps := ps) hO) ?_); rw [E8.out]; rintro e w3 ⟨v3, rfl, ⟨A3, c3, B3, d3, C3, f3, rfl, hF3, hG3⟩, hb3⟩; simp only [List.length_nil] at hF3 hG3 ⊢; have hbw3 : BelL w w3 := belL) | (with_reducible refine gate_dst (N := 6) rfl ?_; refine box_tc rfl (N := 6) rfl (cs := #[.slice none 0 0, .slice none 0 0, .slice none 0 0]) (t := 61) ?hr ?_; (case hr => first | (go_simp; done) | (go_simp; rfl)); intro g6 wg6 _ _ _))
    refine wp_letter fun wd hbd => ?_
    have B6 : BlkL wd g6 #[.slice A3 n8.length c3, .slice B3 0 d3, .slice C3 0 f3] 61 := blkL
    have S3 : SrL k40 wd A3 n8.length c3 n8 := sr_l inferInstance
    have S4 : SrL k126 wd C3 0 f3 [] := sr_l inferInstance
    have hwd : BelL w wd := belL
    clear hbd
    go_upto_region 8 with (first | (go_at_call 23; (with_reducible refine Calls.mono (rounds1_ (ns := n8) (ps := []) C8.out) ?_); rw [E9.out]; rintro e w5 ⟨v5, rfl, ⟨A5, c5, B5, d5, C5, f5, rfl, hF5, hG5⟩, hb5⟩; simp only [List.length_nil] at hF5 hG5 ⊢; have hbw5 : BelL w w5 := belL) | (with_reducible refine gate_dst (N := 8) rfl ?_; refine box_tc rfl (N := 8) rfl (cs := #[.slice none 0 0, .slice none 0 0, .slice none 0 0]) (t := 61) ?hr ?_; (case hr => first | (go_simp; done) | (go_simp; rfl)); intro g8 wg8 _ _ _))
    refine wp_letter fun we hbe => ?_
    have B6a : BlkL we g6 #[.slice A3 n8.length c3, .slice B3 0 d3, .slice C3 0 f3] 61 := blkL
    have B8 : BlkL we g8 #[.slice A5 M.length c5, .slice B5 0 d5, .slice C5 0 f5] 61 := blkL
    have S3a : SrL k40 we A3 n8.length c3 n8 := sr_l inferInstance
    have S5 : SrL k40 we A5 M.length c5 M := sr_l inferInstance
    have hwe : BelL w we := belL
    have HNE : ((n8.length : Int) != (M.length : Int)) = false := by rw [L9.out]; simp
    go_wp2
    clear HNE
    go_loopg [10, 11, 12, 13, 14, 15, 16] n8.length (fun kq v10 v11 v12 v13 v14 v15 v16 w' => ∃ i : Nat, v10 = .int .i64 i ∧ i ≤ n8.length ∧ kq = n8.length - i ∧ BelL we w')
    case atStart => exact ⟨0, rfl, Nat.zero_le _, rfl, belL⟩
    case round =>
      obtain ⟨i, rfl, hi, rfl, hbr⟩ := hrel
      by_cases hlt : i < n8.length
      · have hlm : i < M.length := by have := L9.out; omega
        obtain ⟨g1v, g2v⟩ := K2.out i n8[i] M[i] (List.getElem?_eq_getElem hlt) (List.getElem?_eq_getElem hlm)
        have HV := Aside0.mk (show (n8[i].f1.f0 == M[i].f1.f0 && (decide (n8[i].f1.f1 = M[i].f1.f1) && decide (n8[i].f1.f2 = M[i].f1.f2))) = true by rw [g1v]; simp)
        have HSL := storeB_len (nodeB_iff.1 ((nodesB_iff.1 (mayB_iff.1 C8.out).1).2.2.1 _ (List.getElem_mem hlt))).2.2.1
        have HG2 := Aside0.mk g2v
        have HST := Aside0.mk (nodeB_iff.1 ((nodesB_iff.1 (mayB_iff.1 CM.out).1).2.2.1 _ (List.getElem_mem hlm))).2.2.1
        clear g1v g2v
        go_upto_region 13 with (fail)
        refine wp_letter fun wr1 hr1 => ?_
        obtain ⟨ad, X2, y2, X3, y3, X4, y4, X5, y5, rfl, x0, x1, x2, x3, x4, x5, r2, r3, r4, r5⟩ := el_T40 (W := we) (A := A3) (n := n8.length) (c := c3) (l := n8) i hlt
        obtain ⟨ae, Y2, z2, Y3, z3, Y4, z4, Y5, z5, rfl, q0, q1, q2, q3, q4, q5, t2, t3, t4, t5⟩ := el_T40 (W := we) (A := A5) (n := M.length) (c := c5) (l := M) i hlm
        refine wp_region_any_lex (S := fun w_ => BelL wr1 w_) 14 (by kernel_rfl) (by kernel_rfl) belL ?_
        (refine lexR_take (i := 0) (v := ?_) rfl (by kernel_rfl) (by kernel_rfl) (by kernel_rfl) (by kernel_rfl) belL ?_ ?_; rotate_left; (focus (intro wq (hSw : BelL wr1 wq); (first | (go_simp; done) | (go_simp; with_reducible rfl)); done)); (try simp only [Act.put, List.setIfInBounds_toArray, List.set_cons_zero, List.set_cons_succ]))
        (refine lexR_take (i := 1) (v := ?_) rfl (by kernel_rfl) (by kernel_rfl) (by kernel_rfl) (by kernel_rfl) belL ?_ ?_; rotate_left; (focus (intro wq (hSw : BelL wr1 wq); (first | (go_simp; done) | (go_simp; with_reducible rfl)); done)); (try simp only [Act.put, List.setIfInBounds_toArray, List.set_cons_zero, List.set_cons_succ]))
        (refine lexR_take (i := 2) (v := ?_) rfl (by kernel_rfl) (by kernel_rfl) (by kernel_rfl) (by kernel_rfl) belL ?_ ?_; rotate_left; (focus (intro wq (hSw : BelL wr1 wq); (first | (go_simp; done) | (go_simp; with_reducible rfl)); done)); (try simp only [Act.put, List.setIfInBounds_toArray, List.set_cons_zero, List.set_cons_succ]))
        (refine lexR_take (i := 3) (v := ?_) rfl (by kernel_rfl) (by kernel_rfl) (by kernel_rfl) (by kernel_rfl) belL ?_ ?_; rotate_left; (focus (intro wq (hSw : BelL wr1 wq); (first | (go_simp; done) | (go_simp; with_reducible rfl)); done)); (try simp only [Act.put, List.setIfInBounds_toArray, List.set_cons_zero, List.set_cons_succ]))
        (refine lexR_take (i := 4) (v := ?_) rfl (by kernel_rfl) (by kernel_rfl) (by kernel_rfl) (by kernel_rfl) belL ?_ ?_; rotate_left; (focus (intro wq (hSw : BelL wr1 wq); (first | (go_simp; done) | (go_simp; with_reducible rfl)); done)); (try simp only [Act.put, List.setIfInBounds_toArray, List.set_cons_zero, List.set_cons_succ]))
        (refine lexR_take (i := 5) (v := ?_) rfl (by kernel_rfl) (by kernel_rfl) (by kernel_rfl) (by kernel_rfl) belL ?_ ?_; rotate_left; (focus (intro wq (hSw : BelL wr1 wq); (first | (go_simp; done) | (go_simp; with_reducible rfl)); done)); (try simp only [Act.put, List.setIfInBounds_toArray, List.set_cons_zero, List.set_cons_succ]))
        (refine lexR_take (i := 6) (v := ?_) rfl (by kernel_rfl) (by kernel_rfl) (by kernel_rfl) (by kernel_rfl) belL ?_ ?_; rotate_left; (focus (intro wq (hSw : BelL wr1 wq); (first | (go_simp; done) | (go_simp; with_reducible rfl)); done)); (try simp only [Act.put, List.setIfInBounds_toArray, List.set_cons_zero, List.set_cons_succ]))
        (refine lexR_take (i := 7) (v := ?_) rfl (by kernel_rfl) (by kernel_rfl) (by kernel_rfl) (by kernel_rfl) belL ?_ ?_; rotate_left; (focus (intro wq (hSw : BelL wr1 wq); (first | (go_simp; done) | (go_simp; with_reducible rfl)); done)); (try simp only [Act.put, List.setIfInBounds_toArray, List.set_cons_zero, List.set_cons_succ]))
        (refine lexR_take (i := 8) (v := ?_) rfl (by kernel_rfl) (by kernel_rfl) (by kernel_rfl) (by kernel_rfl) belL ?_ ?_; rotate_left; (focus (intro wq (hSw : BelL wr1 wq); (first | (go_simp; done) | (go_simp; with_reducible rfl)); done)); (try simp only [Act.put, List.setIfInBounds_toArray, List.set_cons_zero, List.set_cons_succ]))
        (refine lexR_take (i := 9) (v := ?_) rfl (by kernel_rfl) (by kernel_rfl) (by kernel_rfl) (by kernel_rfl) belL ?_ ?_; rotate_left; (focus (intro wq (hSw : BelL wr1 wq); (first | (go_simp; done) | (go_simp; with_reducible rfl)); done)); (try simp only [Act.put, List.setIfInBounds_toArray, List.set_cons_zero, List.set_cons_succ]))
        (refine lexR_take (i := 10) (v := ?_) rfl (by kernel_rfl) (by kernel_rfl) (by kernel_rfl) (by kernel_rfl) belL ?_ ?_; rotate_left; (focus (intro wq (hSw : BelL wr1 wq); (first | (go_simp; done) | (go_simp; with_reducible rfl)); done)); (try simp only [Act.put, List.setIfInBounds_toArray, List.set_cons_zero, List.set_cons_succ]))
        (refine lexR_take (i := 11) (v := ?_) rfl (by kernel_rfl) (by kernel_rfl) (by kernel_rfl) (by kernel_rfl) belL ?_ ?_; rotate_left; (focus (intro wq (hSw : BelL wr1 wq); (first | (go_simp; done) | (go_simp; with_reducible rfl)); done)); (try simp only [Act.put, List.setIfInBounds_toArray, List.set_cons_zero, List.set_cons_succ]))
        (refine lexR_one (i := 12) (by kernel_rfl) rfl (by kernel_rfl) (fun K hK => ?_); go_simp; (go_at_call 12; (with_reducible refine Calls.mono (sameView_ (p1 := n8[i].f1.f1) (x1 := n8[i].f1.f2) (p2 := M[i].f1.f1) (x2 := M[i].f1.f2)) ?_); rw [HV.out]; rintro e ws ⟨rfl, hbs⟩); refine hK.out _ _ belL ?_; clear hK K; (try simp only [Act.put, List.setIfInBounds_toArray, List.set_cons_zero, List.set_cons_succ]))
        (refine lexR_take (i := 13) (v := ?_) rfl (by kernel_rfl) (by kernel_rfl) (by kernel_rfl) (by kernel_rfl) belL ?_ ?_; rotate_left; (focus (intro wq (hSw : BelL wr1 wq); (first | (go_simp; done) | (go_simp; with_reducible rfl)); done)); (try simp only [Act.put, List.setIfInBounds_toArray, List.set_cons_zero, List.set_cons_succ]))
        refine lexR_done (by kernel_rfl) ?_
        go_wp2
        refine wp_letter fun wi hwi => ?_
        have hwei : BelL we wi := belL
        go_loopg [11, 12, 13, 14, 15, 16] n8[i].f2.length (fun kq v11 v12 v13 v14 v15 v16 w' => ∃ j : Nat, v11 = .int .i64 j ∧ j ≤ n8[i].f2.length ∧ kq = n8[i].f2.length - j ∧ BelL we w')
        case atStart => exact ⟨0, rfl, Nat.zero_le _, rfl, belL⟩
        case round =>
          obtain ⟨j, rfl, hj, rfl, hbrj⟩ := hrel
          by_cases hltj : j < n8[i].f2.length
          · obtain ⟨Y, y1, y2, y3⟩ := HG2.out n8[i].f2[j] (List.getElem_mem hltj)
            have HG := Aside0.mk y1
            have HB1 := Aside0.mk y3
            have HB2 := Aside0.mk y2
            clear y1 y2 y3
            obtain ⟨af, rfl, p0, p1, p2, p3, p4⟩ := el_T48 (W := we) (A := X4) (n := n8[i].f2.length) (c := y4) (l := n8[i].f2) j hltj
            go_upto_region 19 with (first | (with_reducible refine gate_dst (N := 12) rfl ?_; refine box_tc rfl (N := 12) rfl (cs := #[.int .i64 0, .int .i64 0, .int .i64 0, .int .i64 0, .bool false]) (t := 48) ?hr ?_; (case hr => first | (go_simp; done) | (go_simp; rfl)); intro g12 wg12 _ _ _))
            refine wp_letter fun w6 hb6 => ?_
            have B12 : BlkL w6 g12 #[.int .i64 n8[i].f2[j].f0, .int .i64 n8[i].f2[j].f1.f0, .int .i64 n8[i].f2[j].f1.f1, .int .i64 n8[i].f2[j].f2, .bool n8[i].f2[j].f3] 48 := blkL
            have hw6 : BelL we w6 := belL
            clear hb6
            refine wp_region_any_lex (S := fun w_ => BelL w6 w_) 15 (by kernel_rfl) (by kernel_rfl) belL ?_
            (refine lexR_take (i := 0) (v := ?_) rfl (by kernel_rfl) (by kernel_rfl) (by kernel_rfl) (by kernel_rfl) belL ?_ ?_; rotate_left; (focus (intro wq (hSw : BelL w6 wq); (first | (go_simp; done) | (go_simp; with_reducible rfl)); done)); (try simp only [Act.put, List.setIfInBounds_toArray, List.set_cons_zero, List.set_cons_succ]))
            (refine lexR_take (i := 1) (v := ?_) rfl (by kernel_rfl) (by kernel_rfl) (by kernel_rfl) (by kernel_rfl) belL ?_ ?_; rotate_left; (focus (intro wq (hSw : BelL w6 wq); (first | (go_simp; done) | (go_simp; with_reducible rfl)); done)); (try simp only [Act.put, List.setIfInBounds_toArray, List.set_cons_zero, List.set_cons_succ]))
            (refine lexR_take (i := 2) (v := ?_) rfl (by kernel_rfl) (by kernel_rfl) (by kernel_rfl) (by kernel_rfl) belL ?_ ?_; rotate_left; (focus (intro wq (hSw : BelL w6 wq); (first | (go_simp; done) | (go_simp; with_reducible rfl)); done)); (try simp only [Act.put, List.setIfInBounds_toArray, List.set_cons_zero, List.set_cons_succ]))
            (refine lexR_take (i := 3) (v := ?_) rfl (by kernel_rfl) (by kernel_rfl) (by kernel_rfl) (by kernel_rfl) belL ?_ ?_; rotate_left; (focus (intro wq (hSw : BelL w6 wq); (first | (go_simp; done) | (go_simp; with_reducible rfl)); done)); (try simp only [Act.put, List.setIfInBounds_toArray, List.set_cons_zero, List.set_cons_succ]))
            (refine lexR_take (i := 4) (v := ?_) rfl (by kernel_rfl) (by kernel_rfl) (by kernel_rfl) (by kernel_rfl) belL ?_ ?_; rotate_left; (focus (intro wq (hSw : BelL w6 wq); (first | (go_simp; done) | (go_simp; with_reducible rfl)); done)); (try simp only [Act.put, List.setIfInBounds_toArray, List.set_cons_zero, List.set_cons_succ]))
            (refine lexR_take (i := 5) (v := ?_) rfl (by kernel_rfl) (by kernel_rfl) (by kernel_rfl) (by kernel_rfl) belL ?_ ?_; rotate_left; (focus (intro wq (hSw : BelL w6 wq); (first | (go_simp; done) | (go_simp; with_reducible rfl)); done)); (try simp only [Act.put, List.setIfInBounds_toArray, List.set_cons_zero, List.set_cons_succ]))
            (refine lexR_take (i := 6) (v := ?_) rfl (by kernel_rfl) (by kernel_rfl) (by kernel_rfl) (by kernel_rfl) belL ?_ ?_; rotate_left; (focus (intro wq (hSw : BelL w6 wq); (first | (go_simp; done) | (go_simp; with_reducible rfl)); done)); (try simp only [Act.put, List.setIfInBounds_toArray, List.set_cons_zero, List.set_cons_succ]))
            (refine lexR_take (i := 7) (v := ?_) rfl (by kernel_rfl) (by kernel_rfl) (by kernel_rfl) (by kernel_rfl) belL ?_ ?_; rotate_left; (focus (intro wq (hSw : BelL w6 wq); (first | (go_simp; done) | (go_simp; with_reducible rfl)); done)); (try simp only [Act.put, List.setIfInBounds_toArray, List.set_cons_zero, List.set_cons_succ]))
            refine lexR_two (i := 8) (j := 12) (by kernel_rfl) rfl rfl (by kernel_rfl) (by kernel_rfl) (fun K hK => ?_) (fun K hK => ?_)
            · (go_simp; (go_at_call 29; (with_reducible refine Calls.mono (getStore_ (l := M[i].f2) (key := n8[i].f2[j].f0) HST.out) ?_); rw [HG.out]; rintro e wgs ⟨rfl, hbgs⟩; simp only [Option.getD_some, Option.isSome_some, itemV]); refine hK.out _ _ belL ?_; clear hK K; (try simp only [Act.put, List.setIfInBounds_toArray, List.set_cons_zero, List.set_cons_succ]))
              (refine lexR_take (i := 9) (v := ?_) rfl (by kernel_rfl) (by kernel_rfl) (by kernel_rfl) (by kernel_rfl) belL ?_ ?_; rotate_left; (focus (intro wq (hSw : BelL w6 wq); (first | (go_simp; done) | (go_simp; with_reducible rfl)); done)); (try simp only [Act.put, List.setIfInBounds_toArray, List.set_cons_zero, List.set_cons_succ]))
              (refine lexR_take (i := 10) (v := ?_) rfl (by kernel_rfl) (by kernel_rfl) (by kernel_rfl) (by kernel_rfl) belL ?_ ?_; rotate_left; (focus (intro wq (hSw : BelL w6 wq); (first | (go_simp; done) | (go_simp; with_reducible rfl)); done)); (try simp only [Act.put, List.setIfInBounds_toArray, List.set_cons_zero, List.set_cons_succ]))
              (refine lexR_take (i := 11) (v := ?_) rfl (by kernel_rfl) (by kernel_rfl) (by kernel_rfl) (by kernel_rfl) belL ?_ ?_; rotate_left; (focus (intro wq (hSw : BelL w6 wq); (first | (go_simp; done) | (go_simp; with_reducible rfl)); done)); (try simp only [Act.put, List.setIfInBounds_toArray, List.set_cons_zero, List.set_cons_succ]))
              (refine lexR_one (i := 12) (by kernel_rfl) rfl (by kernel_rfl) (fun K hK => ?_); refine box_wp (N := _) rfl (cs := #[.int .i64 0, .int .i64 0, .int .i64 0, .int .i64 0, .bool false]) (t := 48) ?_ ?_; (focus (first | (go_simp; done) | (go_simp; rfl))); intro g13 wg13 _ _ _; refine hK.out _ _ belL ?_; clear hK K; (try simp only [Act.put, List.setIfInBounds_toArray, List.set_cons_zero, List.set_cons_succ]))
              (refine lexR_one (i := 13) (by kernel_rfl) rfl (by kernel_rfl) (fun K hK => ?_); go_simp; refine hK.out _ _ belL ?_; clear hK K; (try simp only [Act.put, List.setIfInBounds_toArray, List.set_cons_zero, List.set_cons_succ]))
              (refine lexR_take (i := 14) (v := ?_) rfl (by kernel_rfl) (by kernel_rfl) (by kernel_rfl) (by kernel_rfl) belL ?_ ?_; rotate_left; (focus (intro wq (hSw : BelL w6 wq); (first | (go_simp; done) | (go_simp; with_reducible rfl)); done)); (try simp only [Act.put, List.setIfInBounds_toArray, List.set_cons_zero, List.set_cons_succ]))
              refine lexR_done (by kernel_rfl) ?_
              go_upto_region 20 with (fail)
              refine wp_letter fun w7 hb7 => ?_
              have B12b : BlkL w7 g12 #[.int .i64 n8[i].f2[j].f0, .int .i64 n8[i].f2[j].f1.f0, .int .i64 n8[i].f2[j].f1.f1, .int .i64 n8[i].f2[j].f2, .bool n8[i].f2[j].f3] 48 := blkL
              have B13b : BlkL w7 g13 #[.int .i64 Y.f0, .int .i64 Y.f1.f0, .int .i64 Y.f1.f1, .int .i64 Y.f2, .bool Y.f3] 48 := blkL
              have hw7 : BelL we w7 := belL
              clear hb7
              go_wp2_with (first | (go_at_call 30; (with_reducible refine Calls.mono (refBestS_ (x := n8[i].f2[j]) (y := Y)) ?_); rw [HB1.out, HB2.out]; rintro e wbe ⟨rfl, hbe⟩; simp only [itemV]) | (with_reducible refine gate_dst (N := 15) rfl ?_; refine box_tc rfl (N := 15) rfl (cs := #[.int .i64 0, .int .i64 0, .int .i64 0, .int .i64 0, .bool false]) (t := 48) ?hr ?_; (case hr => first | (go_simp; done) | (go_simp; rfl)); intro g15 wg15 _ _ _))
              go_roundg (n8[i].f2.length - (j + 1))
              case measure => omega
              case rel => exact ⟨j + 1, by go_num, by omega, rfl, belL⟩
            · (refine box_wp (N := _) rfl (cs := #[.int .i64 0, .int .i64 0, .int .i64 0, .int .i64 0, .bool false]) (t := 48) ?_ ?_; (focus (first | (go_simp; done) | (go_simp; rfl))); intro g13 wg13 _ _ _; refine hK.out _ _ belL ?_; clear hK K; (try simp only [Act.put, List.setIfInBounds_toArray, List.set_cons_zero, List.set_cons_succ]))
              (refine lexR_one (i := 8) (by kernel_rfl) rfl (by kernel_rfl) (fun K hK => ?_); go_simp; (go_at_call 29; (with_reducible refine Calls.mono (getStore_ (l := M[i].f2) (key := n8[i].f2[j].f0) HST.out) ?_); rw [HG.out]; rintro e wgs ⟨rfl, hbgs⟩; simp only [Option.getD_some, Option.isSome_some, itemV]); refine hK.out _ _ belL ?_; clear hK K; (try simp only [Act.put, List.setIfInBounds_toArray, List.set_cons_zero, List.set_cons_succ]))
              (refine lexR_take (i := 9) (v := ?_) rfl (by kernel_rfl) (by kernel_rfl) (by kernel_rfl) (by kernel_rfl) belL ?_ ?_; rotate_left; (focus (intro wq (hSw : BelL w6 wq); (first | (go_simp; done) | (go_simp; with_reducible rfl)); done)); (try simp only [Act.put, List.setIfInBounds_toArray, List.set_cons_zero, List.set_cons_succ]))
              (refine lexR_take (i := 10) (v := ?_) rfl (by kernel_rfl) (by kernel_rfl) (by kernel_rfl) (by kernel_rfl) belL ?_ ?_; rotate_left; (focus (intro wq (hSw : BelL w6 wq); (first | (go_simp; done) | (go_simp; with_reducible rfl)); done)); (try simp only [Act.put, List.setIfInBounds_toArray, List.set_cons_zero, List.set_cons_succ]))
              (refine lexR_take (i := 11) (v := ?_) rfl (by kernel_rfl) (by kernel_rfl) (by kernel_rfl) (by kernel_rfl) belL ?_ ?_; rotate_left; (focus (intro wq (hSw : BelL w6 wq); (first | (go_simp; done) | (go_simp; with_reducible rfl)); done)); (try simp only [Act.put, List.setIfInBounds_toArray, List.set_cons_zero, List.set_cons_succ]))
              (refine lexR_one (i := 13) (by kernel_rfl) rfl (by kernel_rfl) (fun K hK => ?_); go_simp; refine hK.out _ _ belL ?_; clear hK K; (try simp only [Act.put, List.setIfInBounds_toArray, List.set_cons_zero, List.set_cons_succ]))
              (refine lexR_take (i := 14) (v := ?_) rfl (by kernel_rfl) (by kernel_rfl) (by kernel_rfl) (by kernel_rfl) belL ?_ ?_; rotate_left; (focus (intro wq (hSw : BelL w6 wq); (first | (go_simp; done) | (go_simp; with_reducible rfl)); done)); (try simp only [Act.put, List.setIfInBounds_toArray, List.set_cons_zero, List.set_cons_succ]))
              refine lexR_done (by kernel_rfl) ?_
              go_upto_region 20 with (fail)
              refine wp_letter fun w7 hb7 => ?_
              have B12b : BlkL w7 g12 #[.int .i64 n8[i].f2[j].f0, .int .i64 n8[i].f2[j].f1.f0, .int .i64 n8[i].f2[j].f1.f1, .int .i64 n8[i].f2[j].f2, .bool n8[i].f2[j].f3] 48 := blkL
              have B13b : BlkL w7 g13 #[.int .i64 Y.f0, .int .i64 Y.f1.f0, .int .i64 Y.f1.f1, .int .i64 Y.f2, .bool Y.f3] 48 := blkL
              have hw7 : BelL we w7 := belL
              clear hb7
              go_wp2_with (first | (go_at_call 30; (with_reducible refine Calls.mono (refBestS_ (x := n8[i].f2[j]) (y := Y)) ?_); rw [HB1.out, HB2.out]; rintro e wbe ⟨rfl, hbe⟩; simp only [itemV]) | (with_reducible refine gate_dst (N := 15) rfl ?_; refine box_tc rfl (N := 15) rfl (cs := #[.int .i64 0, .int .i64 0, .int .i64 0, .int .i64 0, .bool false]) (t := 48) ?hr ?_; (case hr => first | (go_simp; done) | (go_simp; rfl)); intro g15 wg15 _ _ _))
              go_roundg (n8[i].f2.length - (j + 1))
              case measure => omega
              case rel => exact ⟨j + 1, by go_num, by omega, rfl, belL⟩
          · obtain rfl : j = n8[i].f2.length := by omega
            go_wp2
            go_roundg (n8.length - (i + 1))
            case measure => omega
            case rel => exact ⟨i + 1, by go_num, by omega, rfl, belL⟩
      · obtain rfl : i = n8.length := by omega
        go_wp2
        go_ret
        exact ⟨rfl, belL⟩
end Go.Proofs.YtljipbmmgcccnaaGreat.T
end
