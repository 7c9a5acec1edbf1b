/- Words and lemmas that the claim's proof names, part 13: what the program's functions answer, at the inputs that each theorem's premises name. Conditions: each theorem's own premises. -/
import Derived.Test.YtljipbmmgcccnaaGreatKL12
section
namespace Go.Proofs.YtljipbmmgcccnaaGreat.T
open Go.RowKit Go.Proofs.YtljipbmmgcccnaaGreatW.PrintWords Go.Proofs.YtljipbmmgcccnaaGreatW.PrintLast Go.Proofs.YtljipbmmgcccnaaGreatW.PrintMore
attribute [local go_sem] cell_tc frozen_tc max2_int min2_int
attribute [local go_sem ↓] Go.wp_at_zero Go.wp_at_succ
set_option linter.unusedVariables false
set_option linter.unusedSimpArgs false
set_option synthInstance.maxHeartbeats 400000
set_option synthInstance.maxSize 512
attribute [local go_sem] cell_tc2
def deliverAll : Nat → WS → WS
  | 0, s => s
  | n + 1, s => if s.2.length = 0 then s else deliverAll n (deliverW s 0)
theorem deliverAll_ok : ∀ (n : Nat) {s : WS}, OkW s → OkW (deliverAll n s)
  | 0, _, h => h
  | n + 1, s, h => by
    unfold deliverAll
    split
    · exact h
    · exact deliverAll_ok n (deliverW_ok h 0)
theorem deliverAll_nil (n : Nat) {s : WS} (h : s.2.length = 0) : deliverAll n s = s := by cases n <;> simp [deliverAll, h]
theorem deliverAll_next (n : Nat) {s : WS} (h : 0 < s.2.length) : deliverAll (n + 1) s = deliverAll n (deliverW s 0) := by simp only [deliverAll]; rw [if_neg (by omega)]
theorem doDeliver0_ {n c d k f : Nat} {A B C : Option Addr} {ns : List S40} {ps : List S126} {w : World} [h : Sr k40 w A n c ns] [q : Sr k126 w C k f ps] (hO : OkW (ns, ps)) :
    Calls Tryz.prog 24 #[.agg #[.slice A n c, .slice B 0 d, .slice C k f], .agg #[.int .i64 1, .int .i64 0, .int .i64 0, .int .i64 0, .slice none 0 0, .int .i64 0, .int .i64 0]] w fun e w' => ∃ v, e = .returned (.tuple #[v, .int .i64 0]) ∧ WorldR w' w.heap.size v (deliverW (ns, ps) 0).1 (deliverW (ns, ps) 0).2 ∧ BelL w w' :=
  doDeliver_ (p := 0) hO rfl
set_option maxRecDepth 100000 in
set_option maxHeartbeats 8000000 in
theorem deliver_ {n c d k f : Nat} {A B C : Option Addr} {ns : List S40} {ps : List S126} {w : World} {b : Nat} {S1 S2 : Nat → Prop} [h : Fr k40 40 w b S1 A n c ns] [q : Fr k126 126 w b S2 C k f ps] [lb : LeB b w.heap.size] (hO : OkW (ns, ps)) :
    Calls Tryz.prog 81 #[.agg #[.slice A n c, .slice B 0 d, .slice C k f]] w fun e w' => ∃ v, e = .returned v ∧ WorldR w' b v (deliverAll 1024 (ns, ps)).1 (deliverAll 1024 (ns, ps)).2 ∧ BelL w w' := by
  obtain rfl := h.len
  obtain rfl := q.len
  have s1 : FrL k40 40 w b (Under w.heap.size) A ns.length c ns := frl
  have s2 : FrL k126 126 w b (Under w.heap.size) C ps.length f ps := frl
  clear h q
  generalize hy : deliverAll 1024 (ns, ps) = y
  have HY := Aside0.mk hy
  clear hy
  go_enter Tryz.func81, Tryz.ntmps81
  go_wp2_with (first | ((with_reducible refine gate_dst (N := 1) rfl ?_); refine box_tc ?hg (N := 1) ?hd (cs := #[.slice A ns.length c, .slice B 0 d, .slice C ps.length f]) (t := 61) ?hr ?_; (case hd => rfl); (case hg => rfl); (case hr => first | (go_simp; done) | (go_simp; rfl)); intro g1 wg1 _ _ _) | ((with_reducible refine gate_dst (N := 2) rfl ?_); refine box_tc ?hg (N := 2) ?hd (cs := #[.slice none 0 0, .slice none 0 0, .slice none 0 0]) (t := 61) ?hr ?_; (case hd => rfl); (case hg => rfl); (case hr => first | (go_simp; done) | (go_simp; rfl)); intro g2 wg2 _ _ _))
  go_loopg [3] 1024 (fun kq v3 w' => ∃ (i : Nat) (s : WS) (A' : Option Addr) (c' : Nat) (B' : Option Addr) (d' : Nat) (C' : Option Addr) (f' : Nat), v3 = .int .i64 i ∧ i ≤ 1024 ∧ kq = 1024 - i ∧ OkW s ∧ Aside0 (deliverAll (1024 - i) s = y) ∧ BlkL w' g1 #[.slice A' s.1.length c', .slice B' 0 d', .slice C' s.2.length f'] 61 ∧ FrL k40 40 w' b (Three w'.heap.size g1 g2) A' s.1.length c' s.1 ∧ FrL k126 126 w' b (Three w'.heap.size g1 g2) C' s.2.length f' s.2 ∧ BelL w w' ∧ BlkL w' g2 #[.slice none 0 0, .slice none 0 0, .slice none 0 0] 61)
  case atStart => exact ⟨0, (ns, ps), A, c, B, d, C, f, rfl, by omega, rfl, hO, HY, blkL, frl_three, frl_three, belL, blkL⟩
  case round =>
    obtain ⟨i, s, A', c', B', d', C', f', rfl, hi, rfl, hOs, HD, hB, hs1, hs2, hbr, hB2⟩ := hrel
    by_cases hlt : i < 1024
    · by_cases hk : 0 < s.2.length
      · have HN := Aside0.mk (show deliverAll (1024 - (i + 1)) (deliverW s 0) = y by
          have := HD.out
          rwa [show 1024 - i = (1024 - (i + 1)) + 1 by omega, deliverAll_next _ hk] at this)
        have hO2 := deliverW_ok hOs 0
        generalize hz : deliverW s 0 = z at HN hO2
        have HZ := Aside0.mk hz
        clear hz
        go_wp2_with (first | (go_at_call 24; (with_reducible refine Calls.mono (doDeliver0_ (ns := s.1) (ps := s.2) hOs) ?_); rw [HZ.out]; rintro e w8 ⟨v8, rfl, ⟨A7, c7, B7, d7, C7, f7, rfl, hF7, hG7⟩, hb8⟩))
        go_roundg (1024 - (i + 1))
        case measure => omega
        case rel => exact ⟨i + 1, z, A7, c7, B7, d7, C7, f7, by go_num, by omega, rfl, hO2, HN, blkL, frl_three, frl_three, belL, blkL⟩
      · have HE := Aside0.mk (show s = y from (deliverAll_nil _ (by omega)).symm.trans HD.out)
        have hk2 : decide ((0 : Int) < (s.2.length : Int)) = false := decide_eq_false (by omega)
        have hk3 : decide (0 < s.2.length) = false := decide_eq_false hk
        have hk4 : ¬ (0 : Int) < (s.2.length : Int) := by omega
        go_wp2
        exact bodyPost_ret (v := .agg #[.slice A' s.1.length c', .slice B' 0 d', .slice C' s.2.length f']) (by simp [results, Tryz.results81, go_sem]) rfl ⟨_, rfl, ⟨A', c', B', d', C', f', by rw [HE.out], by rw [← HE.out]; exact frl, by rw [← HE.out]; exact frl⟩, belL⟩
    · obtain rfl : i = 1024 := by omega
      have HE := Aside0.mk (show s = y from HD.out)
      go_wp2
      exact bodyPost_ret (v := .agg #[.slice A' s.1.length c', .slice B' 0 d', .slice C' s.2.length f']) (by simp [results, Tryz.results81, go_sem]) rfl ⟨_, rfl, ⟨A', c', B', d', C', f', by rw [HE.out], by rw [← HE.out]; exact frl, by rw [← HE.out]; exact frl⟩, belL⟩
end Go.Proofs.YtljipbmmgcccnaaGreat.T
end
section
namespace Go.Proofs.YtljipbmmgcccnaaGreat.T
open Go.RowKit Go.Proofs.YtljipbmmgcccnaaGreatW.PrintWords Go.Proofs.YtljipbmmgcccnaaGreatW.PrintLast Go.Proofs.YtljipbmmgcccnaaGreatW.PrintMore
attribute [local go_sem] cell_tc frozen_tc max2_int min2_int
attribute [local go_sem ↓] Go.wp_at_zero Go.wp_at_succ
set_option linter.unusedVariables false
set_option linter.unusedSimpArgs false
set_option synthInstance.maxHeartbeats 400000
set_option synthInstance.maxSize 512
attribute [local go_sem] cell_tc2
def tickTo : Nat → WS → WS
  | 0, s => s
  | i + 1, s => tickW (tickTo i s) (nid ((tickTo i s).1.getD i z40))
def tickAll (s : WS) : WS := tickTo s.1.length s
def roundW (s : WS) : WS := deliverAll 1024 (tickAll (deliverAll 1024 s))
theorem tickW_len (s : WS) (id : Int) : (tickW s id).1.length = s.1.length := by
  unfold tickW
  split
  · split
    · exact List.length_set ..
    · rfl
  · rfl
theorem tickTo_len (s : WS) : ∀ i, (tickTo i s).1.length = s.1.length
  | 0 => rfl
  | i + 1 => (tickW_len _ _).trans (tickTo_len s i)
theorem tickTo_ok {s : WS} (h : OkW s) : ∀ i, OkW (tickTo i s)
  | 0 => h
  | i + 1 => tickW_ok (tickTo_ok h i) _
theorem roundW_ok {s : WS} (h : OkW s) : OkW (roundW s) := deliverAll_ok _ (tickTo_ok (deliverAll_ok _ h) _)
theorem doTick0_ {a1 : Int} {n c d k f : Nat} {A B C : Option Addr} {ns : List S40} {ps : List S126} {w : World} [h : Sr k40 w A n c ns] [q : Sr k126 w C k f ps] (hO : OkW (ns, ps)) (hk : isNode ns a1 = true) :
    Calls Tryz.prog 24 #[.agg #[.slice A n c, .slice B 0 d, .slice C k f], .agg #[.int .i64 0, .int .i64 a1, .int .i64 0, .int .i64 0, .slice none 0 0, .int .i64 0, .int .i64 0]] w fun e w' => ∃ v, e = .returned (.tuple #[v, .int .i64 0]) ∧ WorldR w' w.heap.size v (tickW (ns, ps) a1).1 (tickW (ns, ps) a1).2 ∧ BelL w w' :=
  doTick_ hO hk
set_option maxRecDepth 100000 in
set_option maxHeartbeats 8000000 in
theorem round_ {n c d k f : Nat} {A B C : Option Addr} {ns : List S40} {ps : List S126} {w : World} [h : Sr k40 w A n c ns] [q : Sr k126 w C k f ps] (hO : OkW (ns, ps)) :
    Calls Tryz.prog 27 #[.agg #[.slice A n c, .slice B 0 d, .slice C k f]] w fun e w' => ∃ v, e = .returned (.tuple #[v, .int .i64 0]) ∧ WorldR w' w.heap.size v (roundW (ns, ps)).1 (roundW (ns, ps)).2 ∧ BelL w w' := by
  obtain rfl := h.len
  obtain rfl := q.len
  have s1 := sr_l h
  have s2 := sr_l q
  have hO2 : mayB ns ps = true := hO
  have hs := (mayB_parts hO2).1
  have hq := (mayB_parts hO2).2
  have hz := nodesSz_of hs
  clear h q
  have hR : roundW (ns, ps) = deliverAll 1024 (tickAll (deliverAll 1024 (ns, ps))) := rfl
  rw [hR]
  have hO3 := deliverAll_ok 1024 hO
  clear hR
  generalize hm : deliverAll 1024 (ns, ps) = mid at hO3 ⊢
  have HM := Aside0.mk hm
  have hmid : mid.1.length ≤ 8 := (nodesB_len (mayB_parts (show mayB mid.1 mid.2 = true from hO3)).1).2
  clear hm
  have hO4 : OkW (tickAll mid) := tickTo_ok hO3 _
  have HT : Aside0 (tickTo mid.1.length mid = tickAll mid) := ⟨rfl⟩
  generalize tickAll mid = tm at HT hO4 ⊢
  generalize hy : deliverAll 1024 tm = y
  have HY := Aside0.mk hy
  clear hy
  go_enter Tryz.func27, Tryz.ntmps27
  go_wp2_with (first | ((with_reducible refine gate_dst (N := 1) rfl ?_); refine box_tc ?hg (N := 1) ?hd (cs := #[.slice A ns.length c, .slice B 0 d, .slice C ps.length f]) (t := 61) ?hr ?_; (case hd => rfl); (case hg => rfl); (case hr => first | (go_simp; done) | (go_simp; rfl)); intro g1 wg1 _ _ _) | ((with_reducible refine gate_dst (N := 2) rfl ?_); refine box_tc ?hg (N := 2) ?hd (cs := #[.slice none 0 0, .slice none 0 0, .slice none 0 0]) (t := 61) ?hr ?_; (case hd => rfl); (case hg => rfl); (case hr => first | (go_simp; done) | (go_simp; rfl)); intro g2 wg2 _ _ _) | ((with_reducible refine gate_dst (N := 4) rfl ?_); refine box_tc ?hg (N := 4) ?hd (cs := #[.slice none 0 0, .slice none 0 0, .slice none 0 0]) (t := 61) ?hr ?_; (case hd => rfl); (case hg => rfl); (case hr => first | (go_simp; done) | (go_simp; rfl)); intro g4 wg4 _ _ _) | (go_at_call 33; (with_reducible refine Calls.mono (worldMay_ hz) ?_); rintro e wb ⟨rfl, hb1⟩; rw [hO2]) | (go_at_call 65; (with_reducible refine Calls.mono (worldCopy_ hs hq) ?_); rintro e w1 ⟨v1, rfl, ⟨A1, c1, B1, d1, C1, f1, rfl, hF1, hF2⟩, hb2⟩) | (go_at_call 81; (with_reducible refine Calls.mono (deliver_ (ns := ns) (ps := ps) hO) ?_); rw [HM.out]; rintro e w3 ⟨v3, rfl, ⟨A3, c3, B3, d3, C3, f3, rfl, hF3, hG3⟩, hb3⟩))
  refine wp_letter ?_
  intro wl hbl
  have q2 : LtB g2 wb.heap.size := inferInstance
  go_loopg [16] mid.1.length (fun kq v16 w' => ∃ (i : Nat) (s : WS) (A' : Option Addr) (c' : Nat) (B' : Option Addr) (d' : Nat) (C' : Option Addr) (f' : Nat), v16 = .int .i64 i ∧ i ≤ mid.1.length ∧ kq = mid.1.length - i ∧ OkW s ∧ Aside0 (tickTo i mid = s) ∧ Aside0 (s.1.length = mid.1.length) ∧ BlkL w' g4 #[.slice A' s.1.length c', .slice B' 0 d', .slice C' s.2.length f'] 61 ∧ FrL k40 40 w' wb.heap.size (Both w'.heap.size g4) A' s.1.length c' s.1 ∧ FrL k126 126 w' wb.heap.size (Both w'.heap.size g4) C' s.2.length f' s.2 ∧ BelL wb w' ∧ BlkL w' g2 #[.slice none 0 0, .slice none 0 0, .slice none 0 0] 61)
  case atStart => exact ⟨0, mid, A3, c3, B3, d3, C3, f3, rfl, Nat.zero_le _, rfl, hO3, ⟨rfl⟩, ⟨rfl⟩, blkL, frl_both, frl_both, belL, blkL⟩
  case round =>
    obtain ⟨i, s, A', c', B', d', C', f', rfl, hi, rfl, hOs, HI, HL, hB, hs1, hs2, hbr, hB2⟩ := hrel
    by_cases hlt : i < mid.1.length
    · have hls : i < s.1.length := by rw [HL.out]; exact hlt
      obtain ⟨ad, X2, y2, X3, y3, X4, y4, X5, y5, rfl, x0, x1, x2, x3, x4, x5, r2, r3, r4, r5⟩ := el_T40 (W := wr) (A := A') (n := s.1.length) (c := c') (l := s.1) i hls
      clear r2 r3 r4 r5
      have hnode : isNode s.1 (nid s.1[i]) = true := isNode_iff.2 ⟨_, List.getElem_mem hls, rfl⟩
      have HN := Aside0.mk (show tickTo (i + 1) mid = tickW s (nid s.1[i]) by
        show tickW (tickTo i mid) (nid ((tickTo i mid).1.getD i z40)) = _
        rw [HI.out, getD40 hls])
      have hO5 := tickW_ok hOs (nid s.1[i])
      have hl5 := tickW_len s (nid s.1[i])
      have hlti : (i : Int) < (s.1.length : Int) := by omega
      unfold nid at HN hO5 hl5 hnode
      generalize hz : tickW s s.1[i].f1.f0 = z at HN hO5 hl5
      have HZ := Aside0.mk hz
      have HL5 := Aside0.mk (show z.1.length = mid.1.length from hl5.trans HL.out)
      clear hz hl5
      go_upto_region 7 with fail
      go_region_with (first | (go_at_call 24; (with_reducible refine Calls.mono (doTick0_ (ns := s.1) (ps := s.2) hOs hnode) ?_); rw [HZ.out]; rintro e w8 ⟨v8, rfl, ⟨A7, c7, B7, d7, C7, f7, rfl, hF7, hG7⟩, hb8⟩))
      all_goals
        go_wp2
        go_roundg (mid.1.length - (i + 1))
        case measure => omega
        case rel => exact ⟨i + 1, z, A7, c7, B7, d7, C7, f7, by go_num, by omega, rfl, hO5, HN, HL5, blkL, frl_both, frl_both, belL, blkL⟩
    · obtain rfl : i = mid.1.length := by omega
      have HE := Aside0.mk (show s = tm from HI.out.symm.trans HT.out)
      go_wp2_with (first | (go_at_call 81; (with_reducible refine Calls.mono (deliver_ (ns := s.1) (ps := s.2) hOs) ?_); rintro e w9 ⟨v9, rfl, ⟨A9, c9, B9, d9, C9, f9, rfl, hF9, hG9⟩, hb9⟩; rw [show deliverAll 1024 (s.1, s.2) = y from (congrArg (deliverAll 1024) HE.out).trans HY.out] at hF9 hG9 ⊢))
      exact bodyPost_ret (v := .tuple #[.agg #[.slice A9 y.1.length c9, .slice B9 0 d9, .slice C9 y.2.length f9], .int .i64 0]) (by simp [results, Tryz.results27, go_sem]) rfl ⟨_, rfl, ⟨_, _, _, _, _, _, rfl, frl, frl⟩, belL⟩
end Go.Proofs.YtljipbmmgcccnaaGreat.T
end
section
namespace Go.Proofs.YtljipbmmgcccnaaGreat.T
open Go.RowKit Go.Proofs.YtljipbmmgcccnaaGreatW.PrintWords Go.Proofs.YtljipbmmgcccnaaGreatW.PrintLast Go.Proofs.YtljipbmmgcccnaaGreatW.PrintMore
attribute [local go_sem] cell_tc frozen_tc max2_int min2_int
attribute [local go_sem ↓] Go.wp_at_zero Go.wp_at_succ
set_option linter.unusedVariables false
set_option linter.unusedSimpArgs false
set_option synthInstance.maxHeartbeats 400000
set_option synthInstance.maxSize 512
attribute [local go_sem] cell_tc2 frozen_row
theorem set_int {W : World} {g n c b : Nat} {S : Nat → Prop} {l : List Int} (h : Fr kI 3 W b S (some ⟨g, 0, none⟩) n c l) (i : Nat) (hi : i < n) (x : Int) : Fr kI 3 (W.setCell ⟨g, i, none⟩ (.int .i64 x)) b S (some ⟨g, 0, none⟩) n c (l.set i x) := by
  have hl := h.len
  obtain ⟨ad, cs, q0, q1, _, q3⟩ := Kd.C_get (Kd.R_reads' h.R).2.2 0 (i : Int) (by omega) (by omega)
  injection q0 with q0
  subst q0
  have hs := Kd.R_seg (d := kI) (okp := fun _ => False) h.R (i : Int) (by omega) (by omega) (c := cs) (j := 0) (seg := [.int .i64 x]) q1 (fun j u hj => by have := q3 j u hj; rwa [Addr.add_lit, Nat.zero_add] at this) (Nat.le_refl 1) (x' := x)
    (by
      have e6 : cs.drop (0 + 1) = [] := List.drop_eq_nil_of_le (by rw [q1]; exact Nat.le_refl 1)
      show cs.take 0 ++ [.int .i64 x] ++ cs.drop (0 + 1) = [.int .i64 x]
      rw [e6, List.take_zero]
      rfl) (fun _ hf => hf.elim)
  have h2 := hs.1
  have e3 : (i : Int).toNat * kI.sz + 0 = i := by show i * 1 + 0 = i; omega
  rw [e3] at h2
  exact ⟨by rw [List.length_set]; exact hl, h.le, h2⟩
theorem mid_at {W : World} {g n c : Nat} {A R : List Int} {x : Int} [h : Sr kI W (some ⟨g, 0, none⟩) n c (A ++ x :: R)] : CellL W ⟨g, A.length, none⟩ (.int .i64 x) := by
  obtain ⟨ad, e, q⟩ := el_I (W := W) (A := some ⟨g, 0, none⟩) (n := n) (c := c) (l := A ++ x :: R) A.length (by simp)
  injection e with e
  subst e
  have := q.out
  rw [Addr.add_lit, Nat.zero_add] at this
  exact ⟨by simpa using this⟩
theorem swap_at {y x : Int} {R : List Int} : ∀ A : List Int, ((A ++ y :: x :: R).set (A.length + 1) y).set A.length x = A ++ x :: y :: R
  | [] => rfl
  | a :: A => by
    show a :: ((A ++ y :: x :: R).set (A.length + 1) y).set A.length x = _
    rw [swap_at A]
    rfl
theorem swap_perm {y x : Int} {R : List Int} (A : List Int) : (A ++ x :: y :: R).Perm (A ++ y :: x :: R) := List.Perm.append_left A (List.Perm.swap y x R)
theorem rises_mid {f : Int → Int} {A B : List Int} {y x : Int} (h : Rises f (A ++ y :: B)) (hy : f y < f x) (hx : ∀ z ∈ B, f x < f z) : Rises f (A ++ y :: x :: B) := by
  unfold Rises at *
  rw [List.pairwise_append] at h ⊢
  obtain ⟨h1, h2, h3⟩ := h
  obtain ⟨h4, h5⟩ := List.pairwise_cons.1 h2
  refine ⟨h1, List.pairwise_cons.2 ⟨fun z hz => ?_, List.pairwise_cons.2 ⟨hx, h5⟩⟩, fun a ha z hz => ?_⟩
  · rcases List.mem_cons.1 hz with rfl | hz
    · exact hy
    · exact h4 z hz
  · rcases List.mem_cons.1 hz with rfl | hz
    · exact h3 a ha _ (List.mem_cons_self ..)
    · rcases List.mem_cons.1 hz with rfl | hz
      · exact Int.lt_trans (h3 a ha y (List.mem_cons_self ..)) hy
      · exact h3 a ha z (List.mem_cons_of_mem _ hz)
theorem snoc_of {A : List Int} (h : A ≠ []) : ∃ A' y, A = A' ++ [y] := ⟨A.dropLast, A.getLast h, (List.dropLast_concat_getLast h).symm⟩
set_option maxRecDepth 100000 in
set_option maxHeartbeats 8000000 in
theorem insertion_ {base : Int} {gb t g n c b : Nat} {S : Nat → Prop} {l : List Int} {w : World} [hb : Blk w gb #[.int .i64 base] t] [h : Fr kI 3 w b S (some ⟨g, 0, none⟩) n c l] [av : Avoid gb b S] [lb : LeB b w.heap.size] [row : Row w g] [geb : GeB b g] (h0 : placeB base = true) (h1 : placesB l = true) (hnd : l.Nodup) (hn : n ≤ 12) (hp : 0 < n) :
    Calls Tryz.prog 214 #[.slice (some ⟨g, 0, none⟩) n c, .int .i64 0, .int .i64 n, .func (.func 177) #[] #[.pointer (some ⟨gb, 0, none⟩)]] w fun e w' => ∃ l', e = .returned (.tuple #[]) ∧ l'.Perm l ∧ Rises (farI base) l' ∧ FrL kI 3 w' b (But gb) (some ⟨g, 0, none⟩) n c l' ∧ BbL b w w' := by
  have hlen := h.len
  have s1 : FrL kI 3 w b (But gb) (some ⟨g, 0, none⟩) n c l := frl_but
  have k1 : BlkL w gb #[.int .i64 base] t := blkL
  have k3 : RowL w g := ⟨row.out⟩
  have kne : NeB gb g := ⟨fun e => av.out g (Fr.ge_row h) (h.R.1 g rfl) e.symm⟩
  have hcn : n ≤ c := h.le
  clear h hb av row
  have H0 := Aside0.mk h0
  go_enter Tryz.func214, Tryz.ntmps214
  go_wp2
  go_loopg [8] (n - 1) (fun kq v8 w' => ∃ (i : Nat) (A C : List Int), v8 = .int .i64 i ∧ 1 ≤ i ∧ i ≤ n ∧ kq = n - i ∧ A.length = i ∧ Aside0 ((A ++ C).Perm l) ∧ Aside0 (Rises (farI base) A) ∧ FrL kI 3 w' b (But gb) (some ⟨g, 0, none⟩) n c (A ++ C) ∧ Bb b w w' ∧ BlkL w' gb #[.int .i64 base] t ∧ RowL w' g)
  case atStart =>
    obtain ⟨x, r, hl⟩ : ∃ x r, l = x :: r := by cases l with
      | nil => simp at hlen; omega
      | cons x r => exact ⟨x, r, rfl⟩
    refine ⟨1, [x], r, rfl, Nat.le_refl 1, hp, rfl, rfl, ⟨by rw [hl]; exact List.Perm.refl _⟩, ⟨List.pairwise_singleton ..⟩, ?_, inferInstance, blkL, k3⟩
    have : FrL kI 3 w b (But gb) (some ⟨g, 0, none⟩) n c l := frl_but
    rwa [hl] at this
  case round =>
    obtain ⟨i, A, C, rfl, hi1, hin, rfl, hAl, HP, HR, hF, hbb, hB, hrow⟩ := hrel
    by_cases hlt : i < n
    · obtain ⟨x, C', rfl⟩ : ∃ x r, C = x :: r := by
        cases C with
        | nil => have h1 := hF.len; rw [List.length_append] at h1; simp at h1; omega
        | cons x r => exact ⟨x, r, rfl⟩
      have hFl := hF.len
      rw [List.length_append, List.length_cons] at hFl
      go_wp2
      go_loopg [9] i (fun kj v9 w' => ∃ (A B : List Int), v9 = .int .i64 (A.length : Nat) ∧ A.length + B.length = i ∧ kj = A.length ∧ Aside0 ((A ++ x :: (B ++ C')).Perm l) ∧ Aside0 (Rises (farI base) (A ++ B)) ∧ Aside0 (∀ z ∈ B, farI base x < farI base z) ∧ FrL kI 3 w' b (But gb) (some ⟨g, 0, none⟩) n c (A ++ x :: (B ++ C')) ∧ Bb b w w' ∧ BlkL w' gb #[.int .i64 base] t ∧ RowL w' g)
      case atStart => exact ⟨A, [], by rw [hAl], by simp [hAl], hAl.symm, HP, by rw [List.append_nil]; exact HR, ⟨fun z hz => nomatch hz⟩, hF, hbb, hB, hrow⟩
      case round =>
        clear HP HR hF hbb hB hrow
        obtain ⟨D, B, rfl, hDB, rfl, HP, HR, HX, hF, hbb, hB, hrow⟩ := hrel
        have hbl := bbL (h := hbb)
        by_cases hD : D = []
        · subst hD
          have HR2 := Aside0.mk (show Rises (farI base) (x :: B) from List.pairwise_cons.2 ⟨HX.out, HR.out⟩)
          clear hbl
          go_upto_region 4 with fail
          (refine wp_region_bel (by kernel_rfl) (by kernel_rfl) ?_; (repeat (first | go_big_quiet_skip | (go_big_quiet_want; first | (go_big_quiet_op; go_big_quiet_on) | (apply Exists.intro; refine ⟨fun wq hq => ?_, ?_⟩; (focus (unfold Oper.quietAt; go_simp; first | done | exact ⟨rfl, rfl⟩ | exact rfl | (first | fail))); (try simp only [Act.put, List.setIfInBounds_toArray, List.set_cons_zero, List.set_cons_succ]); go_big_quiet_on)))); refine wpQuiet_nil ?_; intro w7 hb7)
          go_wp2
          go_roundg (n - (i + 1))
          case measure => omega
          case rel => exact ⟨i + 1, x :: B, C', by go_num, by omega, by omega, rfl, by rw [List.length_cons]; simp at hDB; omega, HP, HR2, frl_but, inferInstance, blkL, ⟨Row.out⟩⟩
        · obtain ⟨D', y, rfl⟩ := snoc_of hD
          rw [List.append_assoc, List.singleton_append] at HR HP hF
          have px : placeB x = true := placesB_mem h1 (HP.out.mem_iff.1 (by simp))
          have py : placeB y = true := placesB_mem h1 (HP.out.mem_iff.1 (by simp))
          have hxy : x ≠ y := by
            have h2 := HP.out.nodup_iff.2 hnd
            rw [List.nodup_append] at h2
            have h3 := (List.nodup_cons.1 h2.2.1).1
            exact fun e => h3 (by rw [← e]; exact List.mem_cons_self ..)
          rw [List.length_append, List.length_singleton] at hDB ⊢
          have q1 : CellL wr ⟨g, D'.length, none⟩ (.int .i64 y) := mid_at (n := n) (c := c)
          have q2 : CellL wr ⟨g, D'.length + 1, none⟩ (.int .i64 x) := by
            have hF2 : FrL kI 3 wr b (But gb) (some ⟨g, 0, none⟩) n c ((D' ++ [y]) ++ x :: (B ++ C')) := by rw [List.append_assoc, List.singleton_append]; exact hF
            have := mid_at (W := wr) (g := g) (n := n) (c := c) (A := D' ++ [y]) (x := x) (R := B ++ C')
            rwa [List.length_append, List.length_singleton] at this
          have hlm : D'.length < (D' ++ [y]).length := by simp
          have hbd : (D'.length : Int) + 1 < (n : Int) := by omega
          have hbd2 : (D'.length : Int) < (n : Int) := by omega
          have hne : D'.length + 1 ≠ 0 := by omega
          have n1 : (0 : Int) ≤ (D'.length : Int) + 1 := by omega
          have t1 : ((D'.length : Int) + 1).toNat = D'.length + 1 := by omega
          have w1 : IntKind.i64.wrap ((D'.length : Int) + 1 - 1) = (D'.length : Int) := by rw [IntKind.wrap_i64]; omega
          have w0 : IntKind.i64.wrap (D'.length : Int) = (D'.length : Int) := by rw [IntKind.wrap_i64]; omega
          have n0 : (0 : Int) ≤ (D'.length : Int) := by omega
          have w2 : (D'.length : Int) + 1 - 1 = (D'.length : Int) := by omega
          have c1 : decide (0 < (D'.length : Int) + 1) = true := decide_eq_true (by omega)
          cases hc : decide (byI base x y < 0)
          · have HRE := Aside0.mk (show Rises (farI base) (D' ++ y :: x :: B) from rises_mid HR.out (by
              have h2 := of_decide_eq_false hc
              unfold byI at h2
              rw [cmpI_neg] at h2
              have h3 : farI base x ≠ farI base y := fun e => hxy (farI_inj px py e)
              omega) HX.out)
            clear hbl
            go_upto_region 4 with fail
            refine wp_letter fun w6 hb6 => ?_
            go_region_held3 (fun w_ => BelL w6 w_) (first | exact belL) (first | (go_at_call 177; (with_reducible refine Calls.mono (by1_ H0.out px py) ?_); rintro e w7 ⟨rfl, hb⟩))
            all_goals
              go_wp2
              go_roundg (n - (i + 1))
              case measure => omega
              case rel => exact ⟨i + 1, D' ++ y :: x :: B, C', by go_num, by omega, by omega, rfl, by rw [List.length_append, List.length_cons, List.length_cons]; omega, ⟨by rw [List.append_assoc]; exact HP.out⟩, HRE, by rw [List.append_assoc]; exact frl_but, inferInstance, blkL, ⟨Row.out⟩⟩
          · have HXE := Aside0.mk (show ∀ z ∈ y :: B, farI base x < farI base z by
              have h2 := of_decide_eq_true hc
              unfold byI at h2
              rw [cmpI_neg] at h2
              intro z hz
              rcases List.mem_cons.1 hz with rfl | hz
              · exact h2
              · exact HX.out z hz)
            have HPE := Aside0.mk (show (D' ++ x :: (y :: B ++ C')).Perm l from (swap_perm D').trans HP.out)
            clear hbl
            go_upto_region 4 with fail
            refine wp_letter fun w6 hb6 => ?_
            go_region_held3 (fun w_ => BelL w6 w_) (first | exact belL) (first | (go_at_call 177; (with_reducible refine Calls.mono (by1_ H0.out px py) ?_); rintro e w7 ⟨rfl, hb⟩))
            all_goals
              go_upto_region 6 with fail
              refine wp_letter ?_
              intro w8 hb8
              go_region_with fail
              all_goals
               go_wp2
               have f0 : Fr kI 3 w8 b (But gb) (some ⟨g, 0, none⟩) n c (D' ++ y :: x :: (B ++ C')) := inferInstance
               have f2 := set_int (set_int f0 (D'.length + 1) (by omega) y) D'.length (by omega) x
               rw [swap_at] at f2
               go_roundg D'.length
               case measure => exact hlm
               case rel => exact ⟨D', y :: B, by go_num, by rw [List.length_cons]; omega, rfl, HPE, HR, HXE, ⟨f2.len, f2.le, f2.R⟩, inferInstance, blkL, ⟨Row.out⟩⟩
    · obtain rfl : i = n := by omega
      go_wp2
      go_end0
      have hbl := bbL (h := hbb)
      have hC : C = [] := by
        have h1 := hF.len
        rw [List.length_append] at h1
        exact List.eq_nil_of_length_eq_zero (by omega)
      subst hC
      rw [List.append_nil] at hF HP
      exact ⟨A, rfl, HP.out, HR.out, hF, hbl⟩
end Go.Proofs.YtljipbmmgcccnaaGreat.T
end
section
namespace Go.Proofs.YtljipbmmgcccnaaGreat.T
open Go.RowKit Go.Proofs.YtljipbmmgcccnaaGreatW.PrintWords Go.Proofs.YtljipbmmgcccnaaGreatW.PrintLast Go.Proofs.YtljipbmmgcccnaaGreatW.PrintMore
attribute [local go_sem] cell_tc frozen_tc max2_int min2_int
attribute [local go_sem ↓] Go.wp_at_zero Go.wp_at_succ
set_option linter.unusedVariables false
set_option linter.unusedSimpArgs false
set_option synthInstance.maxHeartbeats 400000
set_option synthInstance.maxSize 512
attribute [local go_sem] cell_tc2 frozen_row
set_option maxRecDepth 100000 in
set_option maxHeartbeats 4000000 in
theorem len64_ {n : Nat} {w : World} (hn : n ≤ 12) : Calls Tryz.prog 223 #[.int .u64 n] w fun e w' => ∃ l : Int, e = .returned (.int .i64 l) ∧ Drawn0 w w' := by
  have hn2 : (n : Int) ≤ 12 := by omega
  have hn3 : (0 : Int) ≤ (n : Int) := by omega
  have c1 : decide ((4294967296 : Int) ≤ (n : Int)) = false := decide_eq_false (by omega)
  have c2 : decide ((65536 : Int) ≤ (n : Int)) = false := decide_eq_false (by omega)
  have c3 : decide ((256 : Int) ≤ (n : Int)) = false := decide_eq_false (by omega)
  go_enter Tryz.func223, Tryz.ntmps223
  go_wp2
  go_ret
  exact ⟨_, rfl, by repeat (first | exact Drawn0.refl _ | apply Drawn0.step)⟩
set_option maxRecDepth 100000 in
set_option maxHeartbeats 8000000 in
theorem pdq_ {lim : Int} {base : Int} {gb t g n c b : Nat} {S : Nat → Prop} {l : List Int} {w : World} [hb : Blk w gb #[.int .i64 base] t] [h : Fr kI 3 w b S (some ⟨g, 0, none⟩) n c l] [av : Avoid gb b S] [lb : LeB b w.heap.size] [row : Row w g] [geb : GeB b g] (h0 : placeB base = true) (h1 : placesB l = true) (hnd : l.Nodup) (hn : n ≤ 12) (hp : 0 < n) :
    Calls Tryz.prog 201 #[.slice (some ⟨g, 0, none⟩) n c, .int .i64 0, .int .i64 n, .int .i64 lim, .func (.func 177) #[] #[.pointer (some ⟨gb, 0, none⟩)]] w fun e w' => ∃ l', e = .returned (.tuple #[]) ∧ l'.Perm l ∧ Rises (farI base) l' ∧ FrL kI 3 w' b (But gb) (some ⟨g, 0, none⟩) n c l' ∧ BbL b w w'  := by
  have HI := Aside0.mk (insertion_ (w := w) (gb := gb) (g := g) (c := c) h0 h1 hnd hn hp)
  clear h hb av row
  go_enter Tryz.func201, Tryz.ntmps201
  go_wp2
  refine wp_loop_rounds 1 ?_
  rw [rounds_succ]
  go_wp2_with (first | (go_at_call 214; (with_reducible refine Calls.mono HI.out ?_); rintro e w1 ⟨l', rfl, hP, hR, hF, hB⟩))
  (try simp only [Exit.inBlock, Exit.then]); refine bodyPost_ret (results_none rfl _ _ _) rfl ?_
  exact ⟨l', rfl, hP, hR, hF, hB⟩
set_option maxHeartbeats 4000000 in
theorem len_ {n : Nat} {w : World} (hn : n ≤ 12) : Calls Tryz.prog 202 #[.int .u64 n] w fun e w' => ∃ l : Int, e = .returned (.int .i64 l) ∧ Drawn0 w w' := by
  have hn2 : (n : Int) ≤ 12 := by omega
  go_enter Tryz.func202, Tryz.ntmps202
  go_wp2_with (first | (go_at_call 223; (with_reducible refine Calls.mono (len64_ hn) ?_); rintro e w' ⟨l, rfl, ⟨nd, rfl⟩⟩))
  go_ret
  exact ⟨_, rfl, by repeat (first | exact Drawn0.refl _ | apply Drawn0.step)⟩
set_option maxRecDepth 100000 in
set_option maxHeartbeats 8000000 in
theorem sortFunc_ {base : Int} {gb t g n c b : Nat} {S : Nat → Prop} {l : List Int} {w : World} [hb : Blk w gb #[.int .i64 base] t] [h : Fr kI 3 w b S (some ⟨g, 0, none⟩) n c l] [av : Avoid gb b S] [lb : LeB b w.heap.size] [row : Row w g] [geb : GeB b g] (h0 : placeB base = true) (h1 : placesB l = true) (hnd : l.Nodup) (hn : n ≤ 12) (hp : 0 < n) :
    Calls Tryz.prog 175 #[.slice (some ⟨g, 0, none⟩) n c, .func (.func 177) #[] #[.pointer (some ⟨gb, 0, none⟩)]] w fun e w' => ∃ l', e = .returned (.tuple #[]) ∧ l'.Perm l ∧ Rises (farI base) l' ∧ FrL kI 3 w' b (But gb) (some ⟨g, 0, none⟩) n c l' ∧ BbL b w w'  := by
  have s1 : FrL kI 3 w b (But gb) (some ⟨g, 0, none⟩) n c l := frl_but
  have k1 : BlkL w gb #[.int .i64 base] t := blkL
  have k3 : RowL w g := ⟨row.out⟩
  have hn2 : (n : Int) ≤ 12 := by omega
  clear h hb av row
  go_enter Tryz.func175, Tryz.ntmps175
  go_wp2_with (first | (go_at_call 202; (with_reducible refine Calls.mono (len_ hn) ?_); rintro e w' ⟨lim, rfl, ⟨nd, rfl⟩⟩) | (go_at_call 201; (with_reducible refine Calls.mono (pdq_ h0 h1 hnd hn hp) ?_); rintro e w1 ⟨l', rfl, hP, hR, hF, hB⟩))
  go_end0
  exact ⟨l', rfl, hP, hR, hF, bbL⟩
set_option maxRecDepth 100000 in
set_option maxHeartbeats 8000000 in
theorem compact_ {A : Option Addr} {n c : Nat} {l : List Int} {w : World} [h : Sr kI w A n c l] (hnd : l.Nodup) (hn : n ≤ 1000) :
    Calls Tryz.prog 136 #[.slice A n c] w fun e w' => e = .returned (.slice A n c) ∧ BelL w w' := by
  obtain rfl := h.len
  have s1 := sr_l h
  clear h
  by_cases h2 : l.length < 2
  · have e1 : decide ((l.length : Int) < 2) = true := decide_eq_true (by omega)
    go_enter Tryz.func136, Tryz.ntmps136
    go_wp2
    go_ret
    exact ⟨rfl, belL⟩
  · have e1 : decide ((l.length : Int) < 2) = false := decide_eq_false (by omega)
    go_enter Tryz.func136, Tryz.ntmps136
    go_wp2
    go_loopg [3] (l.length - 1) (fun kq v3 w' => ∃ i : Nat, v3 = .int .i64 i ∧ 1 ≤ i ∧ i ≤ l.length ∧ kq = l.length - i ∧ BelL w w')
    case atStart => exact ⟨1, rfl, Nat.le_refl 1, by omega, rfl, belL⟩
    case round =>
      obtain ⟨i, rfl, hi1, hi, rfl, hbr⟩ := hrel
      by_cases hlt : i < l.length
      · obtain ⟨j, rfl⟩ : ∃ j, i = j + 1 := ⟨i - 1, by omega⟩
        obtain ⟨ad, rfl, x0⟩ := el_I (W := wr) (A := A) (n := l.length) (c := c) (l := l) (j + 1) hlt
        obtain ⟨ad2, e2, x1⟩ := el_I (W := wr) (A := some ad) (n := l.length) (c := c) (l := l) j (by omega)
        injection e2 with e2
        subst e2
        have hne : (l[j + 1] == l[j]) = false := by
          have : l[j] ≠ l[j + 1] := fun e => by have := (List.getElem_inj hnd).1 e; omega
          simpa using fun e => this e.symm
        have n0 : (0 : Int) ≤ (j : Int) := by omega
        have n1 : (0 : Int) ≤ (j : Int) + 1 := by omega
        have n2 : (j : Int) + 1 < (l.length : Int) := by omega
        have n3 : (j : Int) < (l.length : Int) := by omega
        have t1 : ((j : Int) + 1).toNat = j + 1 := by omega
        have w0 : IntKind.i64.wrap (j : Int) = (j : Int) := by rw [IntKind.wrap_i64]; omega
        have w1 : IntKind.i64.wrap ((j : Int) + 1 - 1) = (j : Int) := by rw [IntKind.wrap_i64]; omega
        have w2 : (j : Int) + 1 - 1 = (j : Int) := by omega
        generalize l[j + 1] = y at x0 hne
        generalize l[j] = z at x1 hne
        have x0b : CellL wr { block := ad.block, off := ad.off + (j + 1) } (.int .i64 y) := ⟨by have := x0.out; rwa [Addr.add_succ'] at this⟩
        go_upto_region 6 with fail
        refine wp_letter fun w6 hb6 => ?_
        go_region_held3 (fun w_ => BelL w6 w_) (first | exact belL) (fail)
        all_goals
          go_wp2
          go_roundg (l.length - (j + 1 + 1))
          case measure => clear w0 w1 w2 t1; omega
          case rel => clear w0 w1 w2 t1; exact ⟨j + 1 + 1, by go_num, by omega, by omega, rfl, belL⟩
      · obtain rfl : i = l.length := by omega
        go_wp2
        go_ret
        exact ⟨rfl, belL⟩
end Go.Proofs.YtljipbmmgcccnaaGreat.T
end
