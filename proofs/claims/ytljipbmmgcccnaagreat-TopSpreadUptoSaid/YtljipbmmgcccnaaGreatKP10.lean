/- Words and lemmas that the claim's proof names, part 10: what the program's functions answer, at the inputs that each theorem's premises name. Conditions: each theorem's own premises. -/
import Derived.Test.YtljipbmmgcccnaaGreatKP9
section
namespace Go.Proofs.YtljipbmmgcccnaaGreat.T
open Go.RowKit Go.Proofs.YtljipbmmgcccnaaGreatW.PrintWords Go.Proofs.YtljipbmmgcccnaaGreatW.PrintLast Go.Proofs.YtljipbmmgcccnaaGreatW.PrintMore
attribute [local go_sem] cell_tc frozen_tc max2_int min2_int
attribute [local go_sem ↓] Go.wp_at_zero Go.wp_at_succ
set_option linter.unusedVariables false
set_option linter.unusedSimpArgs false
set_option synthInstance.maxHeartbeats 400000
set_option synthInstance.maxSize 512
section
attribute [local go_sem] cell_tc2
theorem cloneTold_ {A : Option Addr} {n c : Nat} {l : List S77} {w : World} [h : Sr k77 w A n c l] (hn : n ≤ 1000000) :
 Calls Tryz.prog 110 #[.slice A n c] w fun e w' => ∃ A' c', e = .returned (.slice A' l.length c') ∧ FrL k77 77 w' w.heap.size (Under w'.heap.size) A' l.length c' l ∧ BelL w w' := by
 have := h.len; subst this
 refine (cloneTold A c l w h.C h.le (by omega)).mono ?_
 rintro e w' ⟨v, rfl, hR, hb⟩
 obtain ⟨A', c', rfl, hF⟩ := frl_of hR
 exact ⟨A', c', rfl, hF, ⟨hb⟩⟩
def NodeR (w' : World) (b : Nat) (v : Value) (x : S40) : Prop := ∃ A c B d I ci L cl, v = .agg #[.bool x.f0, .int .i64 x.f1.f0, .slice A x.f1.f1.length c, .slice B x.f1.f2.length d, .slice I x.f2.length ci, .slice L x.f3.length cl] ∧
 FrL k98 98 w' b (Under w'.heap.size) A x.f1.f1.length c x.f1.f1 ∧ FrL kI 3 w' b (Under w'.heap.size) B x.f1.f2.length d x.f1.f2 ∧ FrL k48 48 w' b (Under w'.heap.size) I x.f2.length ci x.f2 ∧ FrL k77 77 w' b (Under w'.heap.size) L x.f3.length cl x.f3
set_option maxRecDepth 100000 in
set_option maxHeartbeats 4000000 in
theorem nodeCopy_ {up : Bool} {id : Int} {A B I L : Option Addr} {n c m d ni ci nl cl : Nat} {ps : List S98} {xs : List Int} {is : List S48} {ls : List S77} {w : World} [h1 : Sr k98 w A n c ps] [h2 : Sr kI w B m d xs] [h3 : Sr k48 w I ni ci is] [h4 : Sr k77 w L nl cl ls] (hb : n ≤ 1000000 ∧ m ≤ 1000000 ∧ ni ≤ 1000000 ∧ nl ≤ 1000000) :
 Calls Tryz.prog 58 #[.agg #[.bool up, .int .i64 id, .slice A n c, .slice B m d, .slice I ni ci, .slice L nl cl]] w fun e w' => ∃ v, e = .returned v ∧ NodeR w' w.heap.size v ⟨up, ⟨id, ps, xs⟩, is, ls⟩ ∧ BelL w w' := by
 obtain rfl := h1.len
 obtain rfl := h2.len
 obtain rfl := h3.len
 obtain rfl := h4.len
 have s1 := sr_l h1
 have s2 := sr_l h2
 have s3 := sr_l h3
 have s4 := sr_l h4
 clear h1 h2 h3 h4
 obtain ⟨b1, b2, b3, b4⟩ := hb
 go_enter Tryz.func58, Tryz.ntmps58
 go_wp2_with (first | (with_reducible refine box_tc rfl (N := 1) rfl (cs := #[.bool up, .int .i64 id, .slice A ps.length c, .slice B xs.length d, .slice I is.length ci, .slice L ls.length cl]) (t := 40) ?hr ?_; (case hr => go_simp <;> rfl); intro g1 wg1 _ _ _) | (with_reducible refine box_tc rfl (N := 2) rfl (cs := #[.bool false, .int .i64 0, .slice none 0 0, .slice none 0 0, .slice none 0 0, .slice none 0 0]) (t := 40) ?hr ?_; (case hr => go_simp <;> rfl); intro g2 wg2 _ _ _))
 go_region_with (first | (go_at_call 37; (with_reducible refine cM (viewCopy_ b1 b2) ?_); rintro e w1 ⟨A1, c1, B1, d1, rfl, hFa, hFb, hb1⟩) | (go_at_call 109; (with_reducible refine cM (cloneItem_ b3) ?_); rintro e w2 ⟨A2, c2, rfl, hFc, hb2⟩) | (go_at_call 110; (with_reducible refine cM (cloneTold_ b4) ?_); rintro e w3 ⟨A3, c3, rfl, hFd, hb3⟩))
 all_goals
  go_wp2
  exact bodyPost_ret (v := .agg #[.bool up, .int .i64 id, .slice A1 ps.length c1, .slice B1 xs.length d1, .slice A2 is.length c2, .slice A3 ls.length c3]) (by simp [results, Tryz.results58, go_sem]) rfl ⟨_, rfl, ⟨_, _, _, _, _, _, _, _, rfl, frl, frl, frl, frl⟩, belL⟩
end
section
attribute [local go_sem] cell_tc2 frozen_row
theorem node_el {w0 W : World} {b : Nat} {S : Nat → Prop} {g n c : Nat} {l : List (Bool × S40)} {x : S40} (h : Fr (tg k40 w0) 40 W b S (some ⟨g, 0, none⟩) n c l) (i : Nat) (hi : i < l.length) (hf : l[i] = (false, x)) :
 ∃ A2 c2 A3 c3 A4 c4 A5 c5, CellL W ⟨g, i * 6, none⟩ (.bool x.f0) ∧ CellL W ⟨g, i * 6 + 1, none⟩ (.int .i64 x.f1.f0) ∧ CellL W ⟨g, i * 6 + 2, none⟩ (.slice A2 x.f1.f1.length c2) ∧ CellL W ⟨g, i * 6 + 3, none⟩ (.slice A3 x.f1.f2.length c3) ∧ CellL W ⟨g, i * 6 + 4, none⟩ (.slice A4 x.f2.length c4) ∧ CellL W ⟨g, i * 6 + 5, none⟩ (.slice A5 x.f3.length c5) ∧
   SrL k98 w0 A2 x.f1.f1.length c2 x.f1.f1 ∧ SrL kI w0 A3 x.f1.f2.length c3 x.f1.f2 ∧ SrL k48 w0 A4 x.f2.length c4 x.f2 ∧ SrL k77 w0 A5 x.f3.length c5 x.f3 := by
 obtain ⟨cs, h1, h2, h3⟩ := tg_at h i hi
 rw [hf] at h2
 have h2' : k40.K w0 x cs := h2
 obtain ⟨A2, c2, A3, c3, A4, c4, A5, c5, rfl, l2, q2, l3, q3, l4, q4, l5, q5⟩ := k40_open h2'
 exact ⟨A2, c2, A3, c3, A4, c4, A5, c5, ⟨h3 0 _ rfl⟩, ⟨h3 1 _ rfl⟩, ⟨h3 2 _ rfl⟩, ⟨h3 3 _ rfl⟩, ⟨h3 4 _ rfl⟩, ⟨h3 5 _ rfl⟩, ⟨rfl, l2, q2⟩, ⟨rfl, l3, q3⟩, ⟨rfl, l4, q4⟩, ⟨rfl, l5, q5⟩⟩
theorem R_at {α : Type} {k : Kd α} {W : World} {A : Option Addr} {n c e b b2 : Nat} {S : Nat → Prop} {xs : List α} (h : Fr k e W b2 S A n c xs) (hb : b ≤ b2) : k.R e W b (fun j => b2 ≤ j) (.slice A n c) xs :=
 Kd.R_mono (Kd.R_lower (Kd.R_bound h.R) hb) (fun j hj => hj.2.1)
theorem fr_any2 {α : Type} {k : Kd α} {W : World} {A : Option Addr} {n c e b : Nat} {S : Nat → Prop} {xs : List α} [h : Fr k e W b S A n c xs] {b' : Nat} [l : LeB b' b] : FrL k e W b' Any A n c xs := ⟨h.len, h.le, Kd.R_mono (Kd.R_lower h.R l.out) (fun _ _ => trivial)⟩
theorem node_set {w0 W : World} {b b2 : Nat} {S S1 S2 S3 S4 : Nat → Prop} {g n c n1 c1 n2 c2 n3 c3 n4 c4 : Nat} {A1 A2 A3 A4 : Option Addr} {l : List (Bool × S40)} {x : S40} (h : Fr (tg k40 w0) 40 W b S (some ⟨g, 0, none⟩) n c l) (i : Nat) (hi : i < l.length)
 (h1 : Fr k98 98 W b2 S1 A1 n1 c1 x.f1.f1) (h2 : Fr kI 3 W b2 S2 A2 n2 c2 x.f1.f2) (h3 : Fr k48 48 W b2 S3 A3 n3 c3 x.f2) (h4 : Fr k77 77 W b2 S4 A4 n4 c4 x.f3) (hb2 : b ≤ b2) (hg2 : g < b2) (hb : b ≤ W.heap.size) :
 FrL (tg k40 w0) 40 ((((((W.setCell ⟨g, i * 6, none⟩ (.bool x.f0)).setCell ⟨g, i * 6 + 1, none⟩ (.int .i64 x.f1.f0)).setCell ⟨g, i * 6 + 2, none⟩ (.slice A1 n1 c1)).setCell ⟨g, i * 6 + 3, none⟩ (.slice A2 n2 c2)).setCell ⟨g, i * 6 + 4, none⟩ (.slice A3 n3 c3)).setCell ⟨g, i * 6 + 5, none⟩ (.slice A4 n4 c4)) b Any (some ⟨g, 0, none⟩) n c (l.set i (true, x)) := by
 have hl := h.len
 obtain ⟨cs, q1, q2, q3⟩ := tg_at h i hi
 have e1 := h1.len
 have e2 := h2.len
 have e3 := h3.len
 have e4 := h4.len
 subst e1 e2 e3 e4
 have hs := Kd.R_seg (d := tg k40 w0) (okp := fun j => b2 ≤ j) h.any (i : Int) (by omega) (by omega) (j := 0) (seg := [.bool x.f0, .int .i64 x.f1.f0, .slice A1 x.f1.f1.length c1, .slice A2 x.f1.f2.length c2, .slice A3 x.f2.length c3, .slice A4 x.f3.length c4]) q1 (fun j u hj => q3 j u hj) (Nat.le_refl 6) (x' := (true, x))
  (by
   have e6 : cs.drop (0 + 6) = [] := List.drop_eq_nil_of_le (by rw [q1]; exact Nat.le_refl 6)
   show k40.M W b (fun j => b2 ≤ j) x (cs.take 0 ++ [.bool x.f0, .int .i64 x.f1.f0, .slice A1 x.f1.f1.length c1, .slice A2 x.f1.f2.length c2, .slice A3 x.f2.length c3, .slice A4 x.f3.length c4] ++ cs.drop (0 + 6))
   rw [e6, List.take_zero, List.nil_append, List.append_nil]
   exact k40_mkM W b _ x (R_at h1 hb2) (R_at h2 hb2) (R_at h3 hb2) (R_at h4 hb2)) (fun j hj => ⟨trivial, by omega⟩)
 exact ⟨by rw [List.length_set]; exact hl, h.le, hs.1⟩
theorem cloneCut0_ {B : Option Addr} {d : Nat} {w : World} : Calls Tryz.prog 118 #[.slice B 0 d] w fun e w' => ∃ B' d', e = .returned (.slice B' 0 d') ∧ BelL w w' := by
 refine (cloneCut B d [] w ⟨rfl, by decide, fun h => absurd h (Nat.lt_irrefl 0)⟩ (Nat.zero_le d) (by simp)).mono ?_
 rintro e w' ⟨v, rfl, hR, hb⟩
 obtain ⟨A', c', rfl, hF⟩ := frl_of hR
 exact ⟨A', c', rfl, ⟨hb⟩⟩
def WorldR (w' : World) (b : Nat) (v : Value) (ns : List S40) (ms : List S126) : Prop := ∃ A c B d C f, v = .agg #[.slice A ns.length c, .slice B 0 d, .slice C ms.length f] ∧ FrL k40 40 w' b (Under w'.heap.size) A ns.length c ns ∧ FrL k126 126 w' b (Under w'.heap.size) C ms.length f ms
def Both (u g : Nat) : Nat → Prop := fun k => k < u ∧ k ≠ g
theorem frl_both {α : Type} {k : Kd α} {W : World} {A : Option Addr} {n c e b g : Nat} {S : Nat → Prop} {xs : List α} [h : Fr k e W b S A n c xs] {b' : Nat} [l : LeB b' b] [q : Avoid g b S] : FrL k e W b' (Both W.heap.size g) A n c xs := ⟨h.len, h.le, Kd.R_mono (Kd.R_lower (Kd.R_bound h.R) l.out) (fun j hk => ⟨hk.2.2.1, q.out j hk.2.1 hk.1⟩)⟩
def WorldS (w' : World) (b : Nat) (v : Value) (ns : List S40) (ms : List S126) : Prop := ∃ gr c B d C f, v = .agg #[.slice (some ⟨gr, 0, none⟩) ns.length c, .slice B 0 d, .slice C ms.length f] ∧ FrL k40 40 w' b (Under w'.heap.size) (some ⟨gr, 0, none⟩) ns.length c ns ∧ FrL k126 126 w' b (Both w'.heap.size gr) C ms.length f ms ∧ RowL w' gr ∧ b ≤ gr
theorem nodeB_small {x : S40} (h : nodeB x = true) : x.f1.f1.length ≤ 1000000 ∧ x.f1.f2.length ≤ 1000000 ∧ x.f2.length ≤ 1000000 ∧ x.f3.length ≤ 1000000 := by
 have h1 := viewB_len (nodeB_view h)
 unfold nodeB at h; simp only [Bool.and_eq_true, decide_eq_true_eq] at h
 have h2 := storeB_len h.1.1.2
 have h3 := h.1.2
 omega
set_option maxRecDepth 100000 in
set_option maxHeartbeats 8000000 in
theorem worldCopyS_ {A B C : Option Addr} {n c d k f : Nat} {ns : List S40} {ms : List S126} {w : World} [h : Sr k40 w A n c ns] [q : Sr k126 w C k f ms] (h1 : nodesB ns = true) (h2 : queueB ms = true) :
 Calls Tryz.prog 65 #[.agg #[.slice A n c, .slice B 0 d, .slice C k f]] w fun e w' => ∃ v, e = .returned v ∧ WorldS w' w.heap.size v ns ms ∧ BelL w w' := by
 obtain rfl := h.len
 obtain rfl := q.len
 have s1 := sr_l h
 have s2 := sr_l q
 have L1 := nodesB_len h1
 have L2 := queueB_len h2
 have CO := Aside0.mk (show copyOk ms from fun m hm => Nat.le_trans (queueB_small h2 m hm) (by decide))
 have NB := Aside0.mk (fun (i : Nat) (hi : i < ns.length) => nodeB_small (nodesB_at h1 i hi).1)
 clear h q h1 h2
 go_enter Tryz.func65, Tryz.ntmps65
 go_upto_region 1 with (first | (with_reducible refine box_tc rfl (N := 1) rfl (cs := #[.slice A ns.length c, .slice B 0 d, .slice C ms.length f]) (t := 61) ?hr ?_; (case hr => go_simp <;> rfl); intro g1 wg1 _ _ _) | (with_reducible refine box_tc rfl (N := 2) rfl (cs := #[.slice none 0 0, .slice none 0 0, .slice none 0 0]) (t := 61) ?hr ?_; (case hr => go_simp <;> rfl); intro g2 wg2 _ _ _))
 (try simp only [Act.put, put3])
 go_cut [] (fun wx => ∃ gr c1 B2 d2 C3 f3, BlkL wx g1 #[.slice (some ⟨gr, 0, none⟩) ns.length c1, .slice B2 0 d2, .slice C3 ms.length f3] 61 ∧ FrL (tg k40 w) 40 wx wg2.heap.size (But g1) (some ⟨gr, 0, none⟩) ns.length c1 (ns.map fun x => (false, x)) ∧ FrL k126 126 wx wg2.heap.size (But gr) C3 ms.length f3 ms ∧ KbL g1 wg2 wx ∧ RowL wx gr ∧ GEL wg2 gr)
 case first =>
  go_region_with (first | (go_at_call 117; (with_reducible refine cM (cloneNode_ (w0 := w) (by omega)) ?_); rintro e w1 ⟨A1, c1, rfl, hF1, hb1⟩; obtain ⟨gr, rfl, hrow, hgr⟩ := fr_form hF1 (by omega)) | (go_at_call 118; (with_reducible refine cM (cloneCut0_) ?_); rintro e w2 ⟨B2, d2, rfl, hb2⟩) | (go_at_call 119; (with_reducible refine cM (queueCopy_ (by omega) CO.out) ?_); rintro e w3 ⟨C3, f3, rfl, hF3, hb3⟩))
  all_goals
   go_wp2_with fail
   go_meet
   exact ⟨gr, c1, B2, d2, C3, f3, blkL, frl_but, frl_but, kbL, ⟨Row.out⟩, ⟨Nat.le_trans LeB.out hgr⟩⟩
 case rest =>
  obtain ⟨gr, c1, B2, d2, C3, f3, hB1, hF1, hF3, hk1, hrow, hge⟩ := hcut
  go_wp2
  go_loopg [3, 19] ns.length (fun kq v3 v19 w' => ∃ i : Nat, v19 = .int .i64 i ∧ i ≤ ns.length ∧ kq = ns.length - i ∧ FrL (tg k40 w) 40 w' wg2.heap.size Any (some ⟨gr, 0, none⟩) ns.length c1 (marks ns i) ∧ Kb gr wc w' ∧ RowL w' gr)
  case atStart => exact ⟨0, rfl, Nat.zero_le _, rfl, by rw [marks_zero]; exact fr_any2, inferInstance, ⟨Row.out⟩⟩
  case round =>
   obtain ⟨i, rfl, hi, rfl, hF, hkb, hrow2⟩ := hrel
   have hkb2 := kbL (h := hkb)
   by_cases hlt : i < ns.length
   ·have hlm : i < (marks ns i).length := by rw [marks_len]; exact hlt
    have hma := marks_at hlt
    obtain ⟨A2, c2, A3, c3, A4, c4, A5, c5, hx0, hx1, hx2, hx3, hx4, hx5, hg2, hg3, hg4, hg5⟩ := node_el (fr_here (h := hF)) i hlm hma
    have hnb := NB.out i hlt
    have HF := Aside0.mk hF
    have HMA := Aside0.mk hma
    have HMN := Aside0.mk (marks_next hlt)
    have HLM := Aside0.mk hlm
    clear hma hlm hF
    go_wp2
    go_region_with (first | (go_at_call 58; (with_reducible refine cM (nodeCopy_ hnb) ?_); rintro e w9 ⟨v9, rfl, ⟨A6, c6, B6, d6, I6, ci6, L6, cl6, rfl, hF6, hG6, hH6, hK6⟩, hb9⟩))
    all_goals
     have HF2 := HF.out
     have hq : Fr (tg k40 w) 40 w9 wg2.heap.size Any (some ⟨gr, 0, none⟩) ns.length c1 (marks ns i) := inferInstance
     clear HF2
     have HW := Aside0.mk (node_set hq i HLM.out (fr_here (h := hF6)) (fr_here (h := hG6)) (fr_here (h := hH6)) (fr_here (h := hK6)) (LeB.out) (LtB.out) LeB.out)
     go_wp2
     go_roundg (ns.length - (i + 1))
     case measure => omega
     case rel => exact ⟨i + 1, by go_num, by omega, rfl, by rw [← HMN.out]; exact HW.out, inferInstance, ⟨Row.out⟩⟩
   ·obtain rfl : i = ns.length := by omega
    rw [marks_all] at hF
    have hF9 : FrL k40 40 wr wg2.heap.size Any (some ⟨gr, 0, none⟩) ns.length c1 ns := ⟨rfl, hF.le, tg_done hF.R⟩
    clear hF
    go_wp2
    exact bodyPost_ret (v := .agg #[.slice (some ⟨gr, 0, none⟩) ns.length c1, .slice B2 0 d2, .slice C3 ms.length f3]) (by simp [results, Tryz.results65, go_sem]) rfl ⟨_, rfl, ⟨gr, _, _, _, _, _, rfl, frl, frl_both, ⟨Row.out⟩, Nat.le_trans (LeB.out (b := w.heap.size) (b' := wg2.heap.size)) hge.out⟩, belL⟩
theorem worldCopy_ {A B C : Option Addr} {n c d k f : Nat} {ns : List S40} {ms : List S126} {w : World} [h : Sr k40 w A n c ns] [q : Sr k126 w C k f ms] (h1 : nodesB ns = true) (h2 : queueB ms = true) :
 Calls Tryz.prog 65 #[.agg #[.slice A n c, .slice B 0 d, .slice C k f]] w fun e w' => ∃ v, e = .returned v ∧ WorldR w' w.heap.size v ns ms ∧ BelL w w' := by
 refine (worldCopyS_ h1 h2).mono ?_
 rintro e w' ⟨v, rfl, ⟨gr, c, B, d, C, f, rfl, h3, h4, _, _⟩, hb⟩
 exact ⟨_, rfl, ⟨_, _, _, _, _, _, rfl, h3, ⟨h4.len, h4.le, Kd.R_mono h4.R (fun _ hj => hj.1)⟩⟩, hb⟩
end
theorem setCells_row {w : World} {g o : Nat} {vs : List Value} {cur : Array Value} {t : TypeId} (hg : w.heap[g]? = some (.cells cur t (0, 0))) (hf : o + vs.length ≤ cur.size) (h1 : ∀ v ∈ vs, v.oneCell' = true) :
 w.setCells g o vs = w.setRow g (cur.toList.take o ++ vs ++ cur.toList.drop (o + vs.length)).toArray := by
 have a := run_storeCells_at (P := Tryz.prog) g o t vs 0 cur w hg (by simpa using hf) h1
 have b := run_storeCells_cells (P := Tryz.prog) g o vs 0 w (fun j hj => by rw [blk_cell hg]; simp; omega) (fun j _ => blk_frozen hg _) h1
 rw [b] at a
 simp only [Nat.add_zero] at a
 injection a
theorem run_clear_k {P : Program} (w : World) (t e ty et : TypeId) (z : Value) (zs : List Value) (g o m c : Nat) (cur : Array Value) (hu : P.underlying t = some (.slice e)) (hv : ∀ w, (zeroValue e).run P w = .ok z w) (hz : (Builtin.zeroCells z.cells m).toList = zs) (h1 : ∀ v ∈ zs, v.oneCell' = true)
 (hg : w.heap[g]? = some (.cells cur et (0, 0))) (hf : o + zs.length ≤ cur.size) (hm : 0 < m) :
 (Builtin.clear_ #[t] ty #[.slice (some ⟨g, o, none⟩) m c]).run P w = .ok (.tuple #[]) (w.setRow g (cur.toList.take o ++ zs ++ cur.toList.drop (o + zs.length)).toArray) := by
 have hst := run_storeCells_at (P := P) g o et zs 0 cur w hg (by simpa using hf) h1
 simp only [Nat.add_zero] at hst
 obtain ⟨q, rfl⟩ : ∃ q, m = q + 1 := ⟨m - 1, by omega⟩
 simp [Builtin.clear_, run_underlying hu, hv, hz, hst]
set_option maxRecDepth 100000 in
set_option maxHeartbeats 2000000 in
theorem deleteMsg0 (g n cap i j : Nat) (cur : Array Value) (xs : List Value) (w : World) (b0 : Nat) (hbg : b0 ≤ g) (hg : w.heap[g]? = some (.cells cur 126 (0, 0))) (hnc : n ≤ cap) (hcm : cap ≤ maxLen) (hcs : cur.size = cap * 11) (htake : cur.toList.take (n * 11) = xs) (h1x : ∀ u ∈ xs, u.oneCell' = true)
 (hj : j = i + 1) (hi : i < n) (hn : n ≤ 1000000) :
 Calls Tryz.prog 191 #[.slice (some ⟨g, 0, none⟩) n cap, .int .i64 i, .int .i64 j] w fun e w' => e = .returned (.slice (some ⟨g, 0, none⟩) (i + (n - j)) cap) ∧ w'.ownsRow b0 126 11 (.slice (some ⟨g, 0, none⟩) (i + (n - j)) cap) (i + (n - j)) (xs.take (i * 11) ++ xs.drop (j * 11)) ∧ w.grownBy w' (some g) := by
 have hxl : xs.length = n * 11 := by rw [← htake, List.length_take, Array.length_toList, hcs]; omega
 obtain ⟨i0, hi0, hz0, hzs, hzb⟩ := info_parts (P := Tryz.prog) (e := 126) (z := .agg #[.int .i64 0, .int .i64 0, .int .i64 0, .slice none 0 0, .int .i64 0, .int .i64 0, .int .i64 0, .int .i64 0, .int .i64 0, .bool false, .bool false]) (size := 11) (bytes := 104) (by kernel_rfl)
 have hsz : (Tryz.prog.info? 126).map (·.size) = some 11 := by rw [hi0]; simp [hzs]
 have hv : ∀ w, (zeroValue 126).run Tryz.prog w = .ok (.agg #[.int .i64 0, .int .i64 0, .int .i64 0, .slice none 0 0, .int .i64 0, .int .i64 0, .int .i64 0, .int .i64 0, .int .i64 0, .bool false, .bool false]) w := fun w => by simp [zeroValue, typeInfo, hi0, hz0]
 obtain ⟨news, hnews⟩ : ∃ news, news = xs.drop (j * 11) := ⟨_, rfl⟩
 have hnl : news.length = (n - j) * 11 := by rw [hnews, List.length_drop, hxl]; omega
 obtain ⟨A, hA, hsrc⟩ : ∃ A : Addr, (if cap = j then (some ⟨g, 0, none⟩ : Option Addr) else some ⟨g, j * 11, none⟩) = some A ∧ Aside0 (∀ t u, news[t]? = some u → w.drew.cell? (A.add t) = some u) := by
  by_cases h : cap = j
  ·refine ⟨⟨g, 0, none⟩, by simp [h], ⟨fun t u hu => ?_⟩⟩
   have h0 : news.length = 0 := by rw [hnl]; omega
   rw [List.length_eq_zero_iff.1 h0] at hu
   simp at hu
  ·refine ⟨⟨g, j * 11, none⟩, by simp [h], ⟨fun t u hu => ?_⟩⟩
   rw [hnews] at hu
   exact cell_own (blk_drew hg) htake (j * 11) t u hu
 have S1 := Aside0.mk (show news.length = (n - j) * 11 from hnl)
 have S2 := Aside0.mk (show ∀ u ∈ news, u.oneCell' = true from fun u hu => h1x u (List.mem_of_mem_drop (hnews ▸ hu)))
 have S3 := Aside0.mk (show ∀ t, t < news.length → (w.drew.cell? ⟨g, 0 + i * 11 + t, none⟩).isSome = true ∧ w.drew.frozen? ⟨g, 0 + i * 11 + t, none⟩ = false from fun t ht => by
  rw [hnl] at ht
  exact ⟨by rw [blk_cell (blk_drew hg)]; simp; omega, blk_frozen (blk_drew hg) _⟩)
 generalize hC1 : (cur.toList.take (0 + i * 11) ++ news ++ cur.toList.drop (0 + i * 11 + news.length)).toArray = C1
 have hC1s : C1.size = cap * 11 := by rw [← hC1]; simp only [List.size_toArray, List.length_append, List.length_take, List.length_drop, Array.length_toList, hcs, hnl]; omega
 obtain ⟨W1, hW1⟩ : ∃ W1, W1 = w.drew.setCells g (0 + i * 11) news := ⟨_, rfl⟩
 have hW1' : W1 = w.drew.setRow g C1 := by rw [hW1, ← hC1]; exact setCells_row (blk_drew hg) (by rw [hnl, hcs]; omega) S2.out
 have HA1 := Aside0.mk (show W1.heap[g]? = some (.cells C1 126 (0, 0)) by rw [hW1']; exact setRow_heap _ _ cur _ 126 (0, 0) (blk_drew hg))
 have HA3 := Aside0.mk (show w.grownBy W1 (some g) by rw [hW1']; exact ⟨rfl, rfl, rfl, by simp only [World.setRow, World.drew, Array.size_modify]; omega, fun k hk hne => setRow_other _ _ _ _ (fun e => hne (by rw [e]))⟩)
 generalize hC2 : (C1.toList.take ((i + (n - j)) * 11) ++ ([.int .i64 0, .int .i64 0, .int .i64 0, .slice none 0 0, .int .i64 0, .int .i64 0, .int .i64 0, .int .i64 0, .int .i64 0, .bool false, .bool false] : List Value) ++ C1.toList.drop ((i + (n - j)) * 11 + 11)).toArray = C2
 have hC2s : C2.size = cap * 11 := by rw [← hC2]; simp only [List.size_toArray, List.length_append, List.length_take, List.length_drop, Array.length_toList, hC1s, List.length_cons, List.length_nil]; omega
 have hm : n - (i + (n - j)) = 1 := by omega
 have hcl : ∀ ty c, (Builtin.clear_ #[59] ty #[.slice (some ⟨g, (i + (n - j)) * 11, none⟩) (n - (i + (n - j))) c]).run Tryz.prog W1 = .ok (.tuple #[]) (W1.setRow g C2) := fun ty c => by
  rw [← hC2, hm]
  exact run_clear_k W1 59 126 ty 126 _ ([.int .i64 0, .int .i64 0, .int .i64 0, .slice none 0 0, .int .i64 0, .int .i64 0, .int .i64 0, .int .i64 0, .int .i64 0, .bool false, .bool false] : List Value) g ((i + (n - j)) * 11) 1 c C1 Tryz.underlying59 hv (by kernel_rfl) (by intro u hu; simp only [List.mem_cons, List.not_mem_nil, or_false] at hu; rcases hu with rfl|rfl|rfl|rfl|rfl|rfl|rfl|rfl|rfl|rfl|rfl <;> rfl) HA1.out (by rw [hC1s]; simp only [List.length_cons, List.length_nil]; omega) (by omega)
 have HFIN := Aside0.mk (show C2.toList.take ((i + (n - j)) * 11) = xs.take (i * 11) ++ xs.drop (j * 11) by
  have h9 : cur.toList.length = cap * 11 := Array.length_toList.trans hcs
  rw [← hC2]
  show List.take _ (_ ++ _ ++ _) = _
  have e4 : (i + (n - j)) * 11 = (C1.toList.take ((i + (n - j)) * 11)).length := by rw [List.length_take, Array.length_toList, hC1s]; omega
  rw [List.append_assoc, List.take_append_of_le_length (Nat.le_of_eq e4), List.take_take, Nat.min_self, ← hC1]
  show List.take _ (_ ++ _ ++ _) = _
  have e5 : (i + (n - j)) * 11 = (cur.toList.take (0 + i * 11) ++ news).length := by rw [List.length_append, List.length_take, h9, hnl]; omega
  rw [e5, List.take_left, Nat.zero_add, ← hnews]
  congr 1
  rw [← htake, List.take_take, Nat.min_eq_left (by omega)])
 have HC2 := Aside0.mk hC2s
 have HXL := Aside0.mk hxl
 have HW := Aside0.mk hW1
 have HU := Aside0.mk hm
 have hjn : j ≤ n := by omega
 have hjc : j ≤ cap := by omega
 have hic : i ≤ cap := by omega
 have hij : ¬ ((i : Int) = (j : Int)) := by omega
 have hij2 : i ≤ j := by omega
 clear hW1 hW1' hC1 hC1s hC2 hC2s hg htake h1x hsz hv hcs hxl hnl hnews hj hm
 have mixed : Tryz.prog.follows Departure.mixedOrders = true := by kernel_rfl
 go_enter Tryz.func191, Tryz.ntmps191
 go_wp2_with fail
 go_region_law_o (refine step_append_room rfl (.tmp 22) (.tmp 25) 59 rfl 126 i0 11 Tryz.underlying59 hi0 hzs g 0 i cap (by simp [Act.eval, Act.put]) A (n - j) (cap - j) news (by simp [Act.eval, Act.put]) S1.out hsrc.out S2.out (by omega) S3.out ?_; rw [← HW.out])
 (try simp only [Act.put, put3])
 have HO1 := Aside0.mk (show (W1.setRow g C2).ownsRow b0 126 11 (.slice (some ⟨g, 0, none⟩) (i + (n - j)) cap) (i + (n - j)) (xs.take (i * 11) ++ xs.drop (j * 11)) from
  ⟨by rw [List.length_append, List.length_take, List.length_drop, HXL.out]; omega, .inr ⟨g, cap, C2, rfl, hbg, setRow_heap _ _ C1 _ 126 (0, 0) HA1.out, by omega, hcm, HC2.out, HFIN.out⟩⟩)
 have HG1 := Aside0.mk (show w.grownBy (W1.setRow g C2) (some g) from
  ⟨HA3.out.os, HA3.out.tape, HA3.out.output, by have := HA3.out.size; simp only [World.setRow, Array.size_modify]; exact this, fun k hk hne => by rw [setRow_other _ _ _ _ (fun e => hne (by rw [e]))]; exact HA3.out.block k hk hne⟩)
 go_wp2
 go_ret
 exact ⟨rfl, HO1.out, HG1.out⟩
theorem deleteMsg_ {A : Option Addr} {n c i : Nat} {b : Nat} {S : Nat → Prop} {ms : List S126} {w : World} [h : Fr k126 126 w b S A n c ms] (hi : i < n) (hn : n ≤ 1000000) :
 Calls Tryz.prog 191 #[.slice A n c, .int .i64 i, .int .i64 (i + 1 : Nat)] w fun e w' => ∃ g, A = some ⟨g, 0, none⟩ ∧ e = .returned (.slice A (n - 1) c) ∧ FrL k126 126 w' b Any A (n - 1) c (ms.eraseIdx i) ∧ KbL g w w' := by
 have hlen := h.len
 obtain ⟨h0, inner, ho, hr⟩ := h.R
 have hl := ho.1
 rcases ho.2 with ⟨e1, e2⟩ | ⟨g, cap, cur, e1, hbg, hg, hnc, hcm, hcs, htake⟩
 ·omega
 injection e1 with ea eb ec
 subst ea ec
 subst eb
 have h1x : ∀ u ∈ inner, u.oneCell' = true := by
  intro u hu
  obtain ⟨j, hj, rfl⟩ := List.getElem_of_mem hu
  have hl := hr.1
  have hd : j / 11 < ms.length := by rw [Nat.div_lt_iff_lt_mul (by decide)]; rw [show ms.length * 11 = inner.length from hl.symm]; exact hj
  obtain ⟨v3, h2, hv3⟩ := k126_openM (hr.2 (j / 11) ms[j / 11] (List.getElem?_eq_getElem hd))
  obtain ⟨A3, c3, rfl, _, _⟩ := Kd.R_reads hv3
  have h3 : ((inner.drop (j / 11 * 11)).take 11)[j % 11]? = some inner[j] := by
   rw [List.getElem?_take, if_pos (Nat.mod_lt _ (by decide)), List.getElem?_drop, show j / 11 * 11 + j % 11 = j by omega, List.getElem?_eq_getElem hj]
  rw [show k126.sz = 11 from rfl] at h2
  rw [h2] at h3
  have h4 : j % 11 < 11 := Nat.mod_lt _ (by decide)
  generalize j % 11 = q at h3 h4
  have h5 : inner[j] ∈ [Value.int .i64 _, _, _, _, _, _, _, _, _, _, _] := List.mem_of_getElem? h3
  simp only [List.mem_cons, List.not_mem_nil, or_false] at h5
  rcases h5 with e|e|e|e|e|e|e|e|e|e|e <;> rw [e] <;> rfl
 refine (deleteMsg0 g _ c i (i + 1) cur inner w b hbg hg hnc hcm hcs htake h1x rfl hi hn).mono ?_
 rintro e w' ⟨rfl, ho', hgr⟩
 have e3 : i + (ms.length - (i + 1)) = ms.length - 1 := by omega
 rw [e3] at ho' ⊢
 have hr' : Reps (k126.M w' b fun k => Any k ∧ some k ≠ (Value.slice (some ⟨g, 0, none⟩) (ms.length - 1) c).ownBlock) 11 ms inner :=
  hr.imp_ (fun p cs hp => k126.M_mono (fun k hk => ⟨trivial, hk.2⟩) (Kd.M_step hp (fun k hk hlt => hgr.block k hlt (fun e => hk.2 e))))
 have hd : ms.eraseIdx i = ms.take i ++ ms.drop (i + 1) := List.eraseIdx_eq_take_drop_succ ms i
 have hdl : (ms.take i ++ ms.drop (i + 1)).length = ms.length - 1 := by rw [← hd, List.length_eraseIdx_of_lt hi]
 refine ⟨g, rfl, rfl, ⟨by rw [hd]; exact hdl, by omega, ?_⟩, ⟨hgr.os.symm, hgr.tape.symm, hgr.output.symm, hgr.size, fun k hk hne => hgr.block k hk (fun e => hne (by injection e))⟩⟩
 rw [hd]
 exact ⟨fun _ _ => trivial, _, by rw [hdl]; exact ho', Reps.app_ (Reps.take_ hr' i (by omega)) (Reps.drop_ hr' (i + 1))⟩
section
attribute [local go_sem] cell_tc2
instance ne_row_a {W : World} {g g' : Nat} [k : GEL W g'] [h : Row W g] : NeB g g' := ⟨Nat.ne_of_lt (Nat.lt_of_lt_of_le (LtB.out (g := g) (b := W.heap.size)) k.out)⟩
instance ne_row_b {W : World} {g g' : Nat} [k : GEL W g] [h : Row W g'] : NeB g g' := ⟨Nat.ne_of_gt (Nat.lt_of_lt_of_le (LtB.out (g := g') (b := W.heap.size)) k.out)⟩
instance avoid_both_a {w : World} {g g' b : Nat} [h : GE w g'] : Avoid g' b (Both w.heap.size g) := ⟨fun k _ hs => by have := h.out; have := hs.1; omega⟩
instance avoid_both_b {u g b : Nat} : Avoid g b (Both u g) := ⟨fun k _ hs => hs.2⟩
theorem own_msg {W : World} {b : Nat} {S : Nat → Prop} {g n c : Nat} {ms : List S126} (h : Fr k126 126 W b S (some ⟨g, 0, none⟩) n c ms) (i : Nat) (hi : i < ms.length) :
 ∃ A3 c3, CellL W ⟨g, i * 11, none⟩ (.int .i64 ms[i].f0) ∧ CellL W ⟨g, i * 11 + 1, none⟩ (.int .i64 ms[i].f1) ∧ CellL W ⟨g, i * 11 + 2, none⟩ (.int .i64 ms[i].f2) ∧ CellL W ⟨g, i * 11 + 3, none⟩ (.slice A3 ms[i].f3.length c3) ∧ CellL W ⟨g, i * 11 + 4, none⟩ (.int .i64 ms[i].f4) ∧ CellL W ⟨g, i * 11 + 5, none⟩ (.int .i64 ms[i].f5.f0) ∧ CellL W ⟨g, i * 11 + 6, none⟩ (.int .i64 ms[i].f5.f1.f0) ∧ CellL W ⟨g, i * 11 + 7, none⟩ (.int .i64 ms[i].f5.f1.f1) ∧ CellL W ⟨g, i * 11 + 8, none⟩ (.int .i64 ms[i].f5.f2) ∧ CellL W ⟨g, i * 11 + 9, none⟩ (.bool ms[i].f5.f3) ∧ CellL W ⟨g, i * 11 + 10, none⟩ (.bool ms[i].f6) ∧ FrL kI 3 W b (Both W.heap.size g) A3 ms[i].f3.length c3 ms[i].f3 := by
 obtain ⟨h0, inner, ho, hr⟩ := h.R
 obtain ⟨v3, h2, hv3⟩ := k126_openM (hr.2 i ms[i] (List.getElem?_eq_getElem hi))
 obtain ⟨A3, c3, rfl, hF3⟩ := frl_of hv3
 have hc : ∀ j u, ((inner.drop (i * 11)).take 11)[j]? = some u → W.cell? ⟨g, i * 11 + j, none⟩ = some u := by
  intro j u hj
  rw [List.getElem?_take] at hj
  split at hj
  ·rcases ho.2 with ⟨e1, e2⟩ | ⟨g', cap, cur, e1, hbg, hg, hnc, hcm, hcs, htake⟩
   ·omega
   injection e1 with ea eb ec
   injection ea with ea
   injection ea with ea
   subst ea
   have := cell_own hg htake (i * 11) j u hj
   rwa [Addr.add_lit] at this
  ·cases hj
 rw [show k126.sz = 11 from rfl] at h2
 rw [h2] at hc
 refine ⟨A3, c3, ⟨hc 0 _ rfl⟩, ⟨hc 1 _ rfl⟩, ⟨hc 2 _ rfl⟩, ⟨hc 3 _ rfl⟩, ⟨hc 4 _ rfl⟩, ⟨hc 5 _ rfl⟩, ⟨hc 6 _ rfl⟩, ⟨hc 7 _ rfl⟩, ⟨hc 8 _ rfl⟩, ⟨hc 9 _ rfl⟩, ⟨hc 10 _ rfl⟩, ⟨hF3.len, hF3.le, Kd.R_mono (Kd.R_bound hv3) (fun k hk => ⟨hk.2.2.1, fun e => hk.1.2 (by rw [e]; rfl)⟩)⟩⟩
set_option maxRecDepth 100000 in
set_option maxHeartbeats 4000000 in
theorem queueTake_ {A : Option Addr} {n c i : Nat} {ms : List S126} {w : World} [h : Sr k126 w A n c ms] (h1 : queueB ms = true) (hi : i < ms.length) :
 Calls Tryz.prog 163 #[.slice A n c, .int .i64 i] w fun e w' => ∃ m, ms[i]? = some m ∧ ∃ A3 c3 A' c', e = .returned (.tuple #[.agg #[.int .i64 m.f0, .int .i64 m.f1, .int .i64 m.f2, .slice A3 m.f3.length c3, .int .i64 m.f4, .int .i64 m.f5.f0, .int .i64 m.f5.f1.f0, .int .i64 m.f5.f1.f1, .int .i64 m.f5.f2, .bool m.f5.f3, .bool m.f6], .slice A' (ms.length - 1) c', .int .i64 0]) ∧ FrL kI 3 w' w.heap.size (Under w'.heap.size) A3 m.f3.length c3 m.f3 ∧ FrL k126 126 w' w.heap.size (Under w'.heap.size) A' (ms.length - 1) c' (ms.eraseIdx i) ∧ BelL w w' := by
 obtain rfl := h.len
 have s := sr_l h
 clear h
 have L := queueB_len h1
 have CO := Aside0.mk (show copyOk ms from fun m hm => Nat.le_trans (queueB_small h1 m hm) (by decide))
 have H1 := Aside0.mk h1
 have t1 : decide ((i : Int) < 0) = false := by simp
 have t2 : decide ((ms.length : Int) ≤ (i : Int)) = false := by simp; omega
 have t3 : IntKind.i64.wrap ((i : Int) + 1) = ((i + 1 : Nat) : Int) := by rw [IntKind.wrap_i64]; omega
 have hb : (i : Int) < (ms.length : Int) := by omega
 go_enter Tryz.func163, Tryz.ntmps163
 go_wp2_with (first | (with_reducible refine box_tc rfl (N := 4) rfl (cs := #[.int .i64 0, .int .i64 0, .int .i64 0, .slice none 0 0, .int .i64 0, .int .i64 0, .int .i64 0, .int .i64 0, .int .i64 0, .bool false, .bool false]) (t := 126) ?hr ?_; (case hr => go_simp <;> rfl); intro g4 wg4 _ _ _) | (go_at_call 92; (with_reducible refine cM (queueMay_) ?_); rintro e wb ⟨rfl, hb⟩) | (go_at_call 119; (with_reducible refine cM (queueCopy_ (by omega) CO.out) ?_); rintro e w1 ⟨A1, c1, rfl, hF1, hb1⟩; obtain ⟨g, rfl, hrow, hgr⟩ := fr_form hF1 (by omega); have hge := GEL.mk hgr; obtain ⟨A3, c3, x0, x1, x2, x3, x4, x5, x6, x7, x8, x9, x10, hF3⟩ := own_msg (fr_here (h := hF1)) i hi) | (with_reducible refine box_tc rfl (N := 8) rfl (cs := #[.int .i64 0, .int .i64 0, .int .i64 0, .slice none 0 0, .int .i64 0, .int .i64 0, .int .i64 0, .int .i64 0, .int .i64 0, .bool false, .bool false]) (t := 126) ?hr ?_; (case hr => go_simp <;> rfl); intro g8 wg8 _ _ _))
 go_region_with (first | (go_at_call 191; (with_reducible refine cM (deleteMsg_ hi (by omega)) ?_); rintro e w2 ⟨g2, hg2, rfl, hF2, hk2⟩; injection hg2 with hg2; injection hg2 with hg2; subst hg2))
 all_goals
  go_wp2
  exact bodyPost_ret (v := .tuple #[.agg #[.int .i64 ms[i].f0, .int .i64 ms[i].f1, .int .i64 ms[i].f2, .slice A3 ms[i].f3.length c3, .int .i64 ms[i].f4, .int .i64 ms[i].f5.f0, .int .i64 ms[i].f5.f1.f0, .int .i64 ms[i].f5.f1.f1, .int .i64 ms[i].f5.f2, .bool ms[i].f5.f3, .bool ms[i].f6], .slice (some ⟨g, 0, none⟩) (ms.length - 1) c1, .int .i64 0]) (by simp [results, Tryz.results163, go_sem]) rfl ⟨_, List.getElem?_eq_getElem hi, _, _, _, _, rfl, frl, frl, belL⟩
end
section
attribute [local go_sem] cell_tc2 frozen_row
instance nt_126_40 : NotTy 126 k40 40 := ⟨by decide⟩
instance : NeT 61 126 := ⟨by decide⟩
def Gap (u b2 : Nat) : Nat → Prop := fun j => j < u ∨ b2 ≤ j
instance avoid_gap {w : World} {g b b2 : Nat} [h : GE w g] [l : LtB g b2] : Avoid g b (Gap w.heap.size b2) := ⟨fun k _ hs => by have := h.out; have := l.out; unfold Gap at hs; omega⟩
section
variable {ops : Array Oper} {o : Oper} {a : Act} {Q : Exit → Act → World → Prop} {Kc : Act → World → Prop} {α : Type}
theorem app_own_step {k : Kd α} {e b u b2 : Nat} {S2 : Nat → Prop} {W : World} {A B : Option Addr} {n c m d : Nat} {xs ys : List α} {s x : Operand} {t : Nat}
 (hw : Region.wanted o (yielded ops a.tmps) = true) (ho : o.op = .call { callee := .builtin .append, args := #[s, x], argTypes := #[t, t] }) (ht : Tryz.prog.underlying t = some (.slice e)) (hs : a.eval s = .slice A n c) (hx : a.eval x = .slice B m d)
 [he : ElT k e] [h : Fr k e W b (Under u) A n c xs] [q : Fr k e W b2 S2 B m d ys] [l1 : LeB u b2] [l2 : LeB b b2] [hb : LeB b W.heap.size] [hb2 : LeB b2 W.heap.size] (hl : n + m ≤ 1000000)
 (hk : ∀ A' c' w1, FrL k e w1 b (Gap u b2) A' (n + m) c' (xs ++ ys) → BbL b W w1 → GrL e W w1 → Kc (a.put o.dst (.slice A' (n + m) c')) w1) : if Region.wanted o (yielded ops a.tmps) = true then Oper.wp Tryz.prog o a W Kc Q else Kc (a.put o.dst undef) W := by
 obtain ⟨z, bytes, hi, hz, hs0, hb0, hb1⟩ := he.out
 have hlen := h.len
 obtain ⟨B', d', hv, _, HR⟩ := OwnRow.reads (Kd.R_lower (Kd.R_bound q.R) l2.out).2
 injection hv with hv1 hv2 hv3
 subst hv1
 rw [← hv2] at HR
 have hm : ys.length = m := HR.1
 refine Kd.R_append_rows_step k (w0 := W) b hw s x t e z bytes ho ht hi hz hs0 hb0 (.slice A n c) xs ys B m d (Gap u b2) (fun j => b2 ≤ j) hs hx (Kd.R_mono h.R (fun j hj => .inl hj)) HR (fun x cs hx => k.M_mono (fun j hj => hj.1.2.1) hx) (fun j hj => ⟨.inr hj, fun e => ?_⟩) (fun j hj => .inr (Nat.le_trans hb2.out hj)) (Below.mono (Below.refl _ _) hb.out) hb.out ?_ ?_
 ·have h5 := h.R.1 j e.symm
  unfold Under at h5
  have := l1.out
  have hj' : b2 ≤ j := hj
  omega
 ·have : (xs.length + m) * bytes ≤ 1000000 * 112 := Nat.mul_le_mul (by omega) hb1
  omega
 ·intro v1 w1 hR hB hg _
  obtain ⟨A', c', rfl, hc', _⟩ := Kd.R_reads hR
  have e1 : (xs ++ ys).length = n + m := by rw [List.length_append]; omega
  rw [e1] at hR hc' ⊢
  exact hk A' c' w1 ⟨e1, hc', hR⟩ (bb_of_grown h.any hb.out hg) ⟨_, hg, fun j hj => Kd.R_typed h.any j hj⟩
end
theorem run_min (a b : Nat) (ty : TypeId) (W : World) : (Builtin.min_ #[3, 3] ty #[.int .i64 (a : Int), .int .i64 (b : Int)]).run Tryz.prog W = .ok (.int .i64 (min a b : Nat)) W := by
 simp [Builtin.min_, Builtin.min2, go_sem]
 by_cases h : b < a
 ·rw [if_pos h, Nat.min_eq_right (by omega)]
 ·rw [if_neg h, Nat.min_eq_left (by omega)]
def sendQ (ps ms : List S126) : List S126 := ps ++ ms.take (min ms.length (512 - ps.length))
theorem sendQ_len (ps ms : List S126) : (sendQ ps ms).length = ps.length + (min ms.length (512 - ps.length)) := by unfold sendQ; rw [List.length_append, List.length_take, Nat.min_eq_left (by omega)]
theorem sr_take {α : Type} {k : Kd α} {w : World} {A : Option Addr} {n c : Nat} {xs : List α} (h : Sr k w A n c xs) (i : Nat) (hi : i ≤ n) : SrL k w A i c (xs.take i) := by
 have hl := h.len
 refine ⟨by rw [List.length_take]; omega, Nat.le_trans hi h.le, ⟨by rw [List.length_take]; omega, by have := h.C.2.1; omega, fun hp => ?_⟩⟩
 obtain ⟨ad, e, hc⟩ := h.C.2.2 (by omega)
 refine ⟨ad, e, fun j p hj => hc j p ?_⟩
 rw [List.getElem?_take] at hj
 split at hj
 ·exact hj
 ·cases hj
theorem mayB_parts {ns : List S40} {ms : List S126} (h : mayB ns ms = true) : nodesB ns = true ∧ queueB ms = true := by
 unfold mayB at h; simp only [Bool.and_eq_true] at h; exact h.1
set_option maxRecDepth 100000 in
set_option maxHeartbeats 8000000 in
theorem worldSend_ {A B C D : Option Addr} {n c d k f m g : Nat} {ns : List S40} {ps ms : List S126} {w : World} [h : Sr k40 w A n c ns] [q : Sr k126 w C k f ps] [r : Sr k126 w D m g ms] (h0 : nodesSz ns) (h1 : mayB ns ps = true) (h2 : mayB ns ms = true) :
 Calls Tryz.prog 162 #[.agg #[.slice A n c, .slice B 0 d, .slice C k f], .slice D m g] w fun e w' => ∃ v, e = .returned (.tuple #[v, .int .i64 0]) ∧ WorldR w' w.heap.size v ns (sendQ ps ms) ∧ BelL w w' := by
 obtain rfl := h.len
 obtain rfl := q.len
 obtain rfl := r.len
 have s1 := sr_l h
 have s2 := sr_l q
 have s3 := sr_l r
 have L2 := queueB_len (mayB_parts h1).2
 have L3 := queueB_len (mayB_parts h2).2
 have CO := Aside0.mk (show copyOk (ms.take (min ms.length (512 - ps.length))) from fun x hx => Nat.le_trans (queueB_small (mayB_parts h2).2 x (List.mem_of_mem_take hx)) (by decide))
 have N1 := Aside0.mk (mayB_parts h1).1
 have Q1 := Aside0.mk (mayB_parts h1).2
 have him : (min ms.length (512 - ps.length)) ≤ ms.length := by omega
 have s4 := sr_take r (min ms.length (512 - ps.length)) him
 have t1 : IntKind.i64.wrap (512 - (ps.length : Int)) = ((512 - ps.length : Nat) : Int) := by rw [IntKind.wrap_i64]; omega
 have hmin := fun ty W => run_min ms.length (512 - ps.length) ty W
 have hig : (min ms.length (512 - ps.length)) ≤ g := Nat.le_trans him r.le
 have mixed : Tryz.prog.follows Departure.mixedOrders = true := by kernel_rfl
 clear h q r
 go_enter Tryz.func162, Tryz.ntmps162
 go_wp2_with (first | (with_reducible refine box_tc rfl (N := 2) rfl (cs := #[.slice A ns.length c, .slice B 0 d, .slice C ps.length f]) (t := 61) ?hr ?_; (case hr => go_simp <;> rfl); intro g2 wg2 _ _ _) | (with_reducible refine box_tc rfl (N := 4) rfl (cs := #[.slice none 0 0, .slice none 0 0, .slice none 0 0]) (t := 61) ?hr ?_; (case hr => go_simp <;> rfl); intro g4 wg4 _ _ _) | (with_reducible refine box_tc rfl (N := 6) rfl (cs := #[.slice none 0 0, .slice none 0 0, .slice none 0 0]) (t := 61) ?hr ?_; (case hr => go_simp <;> rfl); intro g6 wg6 _ _ _) | (with_reducible refine box_tc rfl (N := 7) rfl (cs := #[.slice none 0 0, .slice none 0 0, .slice none 0 0]) (t := 61) ?hr ?_; (case hr => go_simp <;> rfl); intro g7 wg7 _ _ _) | (go_at_call 33; (with_reducible refine cM (worldMay_ h0) ?_); rintro e wb ⟨rfl, hb⟩) | (go_at_call 65; (with_reducible refine cM (worldCopy_ N1.out Q1.out) ?_); rintro e w1 ⟨v1, rfl, ⟨A1, c1, B1, d1, C1, f1, rfl, hF1, hF2⟩, hb1⟩))
 go_region_law_o (first | (refine app_own_step (k := k126) (t := 59) (u := w1.heap.size) (A := C1) (n := ps.length) (c := f1) (B := A2) (m := (min ms.length (512 - ps.length))) (d := c2) (by rfl) (by rfl) Tryz.underlying59 (by rfl) (by rfl) (by omega) ?_; intro A8 c8 w8 hFa8 hba8 hgr8) | (go_simp; (go_at_call 119; (with_reducible refine cM (queueCopy_ (ms := ms.take (min ms.length (512 - ps.length))) (by omega) CO.out) ?_); rintro e w2 ⟨A2, c2, rfl, hF3, hb2⟩)))
 all_goals
  go_wp2
  exact bodyPost_ret (v := .tuple #[.agg #[.slice A1 ns.length c1, .slice B1 0 d1, .slice A8 (ps.length + (min ms.length (512 - ps.length))) c8], .int .i64 0]) (by simp [results, Tryz.results162, go_sem]) rfl ⟨_, rfl, ⟨A1, c1, B1, d1, A8, c8, by rw [sendQ_len], frl, by rw [sendQ_len]; exact frl⟩, belL⟩
end
section
attribute [local go_sem] cell_tc2 frozen_row
section
variable {ops : Array Oper} {rest : List Oper} {o : Oper} {a : Act} {Q : Exit → Act → World → Prop}
theorem fr_none {W : World} : Fr kI 3 W W.heap.size Any none 0 0 [] := fr_here (h := frl_nil)
theorem app_msg {b u b3 : Nat} {S3 : Nat → Prop} {W : World} {A A3 : Option Addr} {n c n3 c3 g : Nat} {xs : List S126} {s x : Operand} {t : Nat} {f0 f1 f2 f4 k cc wr v : Int} {gn hs_ : Bool} {ids : List Int}
 (q : Fr kI 3 W b3 S3 A3 n3 c3 ids) (l1 : u ≤ b3) (l2 : b ≤ b3)
 (hgd : o.guard = none) (ho : o.op = .call { callee := .builtin .append, args := #[s, x], argTypes := #[t, t] }) (ht : Tryz.prog.underlying t = some (.slice 126)) (hs : a.eval s = .slice A n c) (hx : a.eval x = .slice (some ⟨g, 0, none⟩) 1 1)
 [h : Fr k126 126 W b (Under u) A n c xs] [hB : Blk W g #[.int .i64 f0, .int .i64 f1, .int .i64 f2, .slice A3 n3 c3, .int .i64 f4, .int .i64 k, .int .i64 cc, .int .i64 wr, .int .i64 v, .bool gn, .bool hs_] 126] [hb : LeB b W.heap.size] (hl : n + 1 ≤ 1000000)
 (hk : ∀ A' c' w1, FrL k126 126 w1 b Any A' (n + 1) c' (xs ++ [(⟨f0, f1, f2, ids, f4, ⟨k, ⟨cc, wr⟩, v, gn⟩, hs_⟩ : S126)]) → BbL b W w1 → GrL 126 W w1 → wpList Tryz.prog ops Q rest (a.put o.dst (.slice A' (n + 1) c')) w1) : wpList Tryz.prog ops Q (o :: rest) a W := by
 have hR3 : kI.R 3 W b (fun j => b3 ≤ j) (.slice A3 n3 c3) ids := Kd.R_mono (Kd.R_lower (Kd.R_bound q.R) l2) (fun j hj => hj.2.1)
 refine app_gen (okp := fun j => b3 ≤ j) (Rr := k126.M W b fun j => b3 ≤ j) (ys := [(⟨f0, f1, f2, ids, f4, ⟨k, ⟨cc, wr⟩, v, gn⟩, hs_⟩ : S126)]) hgd ho ht hs hx inferInstance h ⟨rfl, by decide, fun _ => ⟨_, rfl, fun j p hj => ?_⟩⟩ (fun _ _ hx => hx) (fun j hj e => ?_) hb.out hl hk
 ·cases j with
  | succ j => simp at hj
  | zero =>
    simp at hj
    subst hj
    refine ⟨_, rfl, k126_mkM W b _ ⟨f0, f1, f2, ids, f4, ⟨k, ⟨cc, wr⟩, v, gn⟩, hs_⟩ hR3, fun i u hu => ?_⟩
    rw [Addr.add_lit, blk_cell hB.out]
    simpa using hu
 ·have h5 := h.R.1 j e.symm
  unfold Under at h5
  have hj' : b3 ≤ j := hj
  omega
end
def shareTo (v : S25) (key : Int) : Int := if (vownI v key == v.f0) then succI v else vownI v key
def shareM (v : S25) (i : S48) : Option S126 := if shareTo v i.f0 == v.f0 then none else some ⟨1, v.f0, shareTo v i.f0, [], 0, i, false⟩
def shareL (v : S25) (is : List S48) : List S126 := is.filterMap (shareM v)
theorem shareL_len (v : S25) (is : List S48) : (shareL v is).length ≤ is.length := List.length_filterMap_le _ _
theorem shareL_next (v : S25) (is : List S48) {i : Nat} (h : i < is.length) : shareL v (is.take (i + 1)) = shareL v (is.take i) ++ (shareM v is[i]).toList := by
 unfold shareL
 rw [List.take_succ_eq_append_getElem h, List.filterMap_append]
 congr 1
set_option maxRecDepth 100000 in
set_option maxHeartbeats 8000000 in
theorem shareOf_ {id : Int} {A B I L : Option Addr} {n c m d ni ci nl cl : Nat} {ps : List S98} {xs : List Int} {is : List S48} {ls : List S77} {w : World} [h1 : Sr k98 w A n c ps] [h2 : Sr kI w B m d xs] [h3 : Sr k48 w I ni ci is] [h4 : Sr k77 w L nl cl ls] (hn : nodeB ⟨true, ⟨id, ps, xs⟩, is, ls⟩ = true) :
 Calls Tryz.prog 161 #[.agg #[.bool true, .int .i64 id, .slice A n c, .slice B m d, .slice I ni ci, .slice L nl cl]] w fun e w' => ∃ A' c', e = .returned (.tuple #[.slice A' (shareL ⟨id, ps, xs⟩ is).length c', .int .i64 0]) ∧ FrL k126 126 w' w.heap.size (Under w'.heap.size) A' (shareL ⟨id, ps, xs⟩ is).length c' (shareL ⟨id, ps, xs⟩ is) ∧ BelL w w' := by
 obtain rfl := h1.len
 obtain rfl := h2.len
 obtain rfl := h3.len
 obtain rfl := h4.len
 have s1 := sr_l h1
 have s2 := sr_l h2
 have s3 := sr_l h3
 have s4 := sr_l h4
 clear h1 h2 h3 h4
 obtain ⟨b1, b2, b3, b4⟩ := nodeB_small hn
 have hup : (true && nodeB ⟨true, ⟨id, ps, xs⟩, is, ls⟩) = true := by rw [hn]; rfl
 go_enter Tryz.func161, Tryz.ntmps161
 go_wp2_with (first | (with_reducible refine box_tc rfl (N := 1) rfl (cs := #[.bool true, .int .i64 id, .slice A ps.length c, .slice B xs.length d, .slice I is.length ci, .slice L ls.length cl]) (t := 40) ?hr ?_; (case hr => go_simp <;> rfl); intro g1 wg1 _ _ _) | (go_at_call 56; (with_reducible refine cM (nodeUp_ (by omega)) ?_); rintro e wb ⟨rfl, hb⟩; rw [hup]) | (go_at_call 32; (with_reducible refine cM (succ_) ?_); rintro e wc ⟨rfl, hb⟩))
 go_loopg [4, 23] is.length (fun kq v4 v23 w' => ∃ (i : Nat) (A' : Option Addr) (c' : Nat), v23 = .int .i64 i ∧ i ≤ is.length ∧ kq = is.length - i ∧ v4 = .slice A' (shareL ⟨id, ps, xs⟩ (is.take i)).length c' ∧ FrL k126 126 w' wc.heap.size (Under w'.heap.size) A' (shareL ⟨id, ps, xs⟩ (is.take i)).length c' (shareL ⟨id, ps, xs⟩ (is.take i)) ∧ BelL wc w')
 case atStart => exact ⟨0, none, 0, rfl, Nat.zero_le _, rfl, rfl, frl_nil, belL⟩
 case round =>
  obtain ⟨i, A', c', rfl, hi, rfl, rfl, hF, hbr⟩ := hrel
  by_cases hlt : i < is.length
  ·obtain ⟨ad, rfl, x0, x1, x2, x3, x4⟩ := el_T48 (W := wc) (A := I) (n := is.length) (c := ci) (l := is) i hlt
   have HN := Aside0.mk (shareL_next ⟨id, ps, xs⟩ is hlt)
   have hML : (shareL ⟨id, ps, xs⟩ (is.take i)).length ≤ i := Nat.le_trans (shareL_len ⟨id, ps, xs⟩ (is.take i)) (by rw [List.length_take]; omega)
   generalize hM : shareL ⟨id, ps, xs⟩ (is.take i) = M at hF HN hML
   cases hA : (vownI ⟨id, ps, xs⟩ is[i].f0 == id)
   ·have hB := hA
    have hA' : (vownI ⟨id, ps, xs⟩ is[i].f0 != id) = true := by simp [bne, hA]
    have HV := Aside0.mk (show (shareM ⟨id, ps, xs⟩ is[i]).toList = [(⟨1, id, vownI ⟨id, ps, xs⟩ is[i].f0, [], 0, ⟨is[i].f0, ⟨is[i].f1.f0, is[i].f1.f1⟩, is[i].f2, is[i].f3⟩, false⟩ : S126)] by simp [shareM, shareTo, hA, hB])
    go_wp2_with (first | (with_reducible refine box_tc rfl (N := 8) rfl (cs := #[.int .i64 0, .int .i64 0, .int .i64 0, .int .i64 0, .bool false]) (t := 48) ?hr ?_; (case hr => go_simp <;> rfl); intro g8 wg8 _ _ _) | (go_at_call 172; (with_reducible refine cM (viewOwner_) ?_); rintro e wd ⟨rfl, hb⟩) | (with_reducible refine lit_tc rfl (N := 53) rfl (cs := #[.int .i64 1, .int .i64 id, .int .i64 (vownI ⟨id, ps, xs⟩ is[i].f0), .slice none 0 0, .int .i64 0, .int .i64 is[i].f0, .int .i64 is[i].f1.f0, .int .i64 is[i].f1.f1, .int .i64 is[i].f2, .bool is[i].f3, .bool false]) (t := 126) (m := 1) ?hr ?_; (case hr => go_simp <;> rfl); intro g9 wg9 _ _ _) | ((with_reducible refine gate_dst (N := 54) rfl ?_); refine app_msg (t := 59) (u := wr.heap.size) (b := wc.heap.size) (A := A') (n := M.length) (c := c') (g := g9) fr_none LeB.out LeB.out (by rfl) (by rfl) Tryz.underlying59 (by rfl) (by rfl) (by omega) ?_; intro A9 c9 w9 _ _ _))
    have HX := Aside0.mk (show shareL ⟨id, ps, xs⟩ (is.take (i + 1)) = M ++ [_] from HN.out.trans (by rw [HV.out]))
    go_roundg (is.length - (i + 1))
    case measure => omega
    case rel => exact ⟨i + 1, A9, c9, by go_num, by omega, rfl, by rw [HX.out, List.length_append]; rfl, by rw [HX.out, List.length_append]; exact frl, belL⟩
   ·cases hB : (succI ⟨id, ps, xs⟩ == id)
    ·have hB' : (succI ⟨id, ps, xs⟩ != id) = true := by simp [bne, hB]
     have HV := Aside0.mk (show (shareM ⟨id, ps, xs⟩ is[i]).toList = [(⟨1, id, succI ⟨id, ps, xs⟩, [], 0, ⟨is[i].f0, ⟨is[i].f1.f0, is[i].f1.f1⟩, is[i].f2, is[i].f3⟩, false⟩ : S126)] by simp [shareM, shareTo, hA, hB])
     go_wp2_with (first | (with_reducible refine box_tc rfl (N := 8) rfl (cs := #[.int .i64 0, .int .i64 0, .int .i64 0, .int .i64 0, .bool false]) (t := 48) ?hr ?_; (case hr => go_simp <;> rfl); intro g8 wg8 _ _ _) | (go_at_call 172; (with_reducible refine cM (viewOwner_) ?_); rintro e wd ⟨rfl, hb⟩) | (with_reducible refine lit_tc rfl (N := 53) rfl (cs := #[.int .i64 1, .int .i64 id, .int .i64 (succI ⟨id, ps, xs⟩), .slice none 0 0, .int .i64 0, .int .i64 is[i].f0, .int .i64 is[i].f1.f0, .int .i64 is[i].f1.f1, .int .i64 is[i].f2, .bool is[i].f3, .bool false]) (t := 126) (m := 1) ?hr ?_; (case hr => go_simp <;> rfl); intro g9 wg9 _ _ _) | ((with_reducible refine gate_dst (N := 54) rfl ?_); refine app_msg (t := 59) (u := wr.heap.size) (b := wc.heap.size) (A := A') (n := M.length) (c := c') (g := g9) fr_none LeB.out LeB.out (by rfl) (by rfl) Tryz.underlying59 (by rfl) (by rfl) (by omega) ?_; intro A9 c9 w9 _ _ _))
     have HX := Aside0.mk (show shareL ⟨id, ps, xs⟩ (is.take (i + 1)) = M ++ [_] from HN.out.trans (by rw [HV.out]))
     go_roundg (is.length - (i + 1))
     case measure => omega
     case rel => exact ⟨i + 1, A9, c9, by go_num, by omega, rfl, by rw [HX.out, List.length_append]; rfl, by rw [HX.out, List.length_append]; exact frl, belL⟩
    ·have hB' : (succI ⟨id, ps, xs⟩ != id) = false := by simp [bne, hB]
     have HV := Aside0.mk (show (shareM ⟨id, ps, xs⟩ is[i]).toList = [] by simp [shareM, shareTo, hA, hB])
     go_wp2_with (first | (with_reducible refine box_tc rfl (N := 8) rfl (cs := #[.int .i64 0, .int .i64 0, .int .i64 0, .int .i64 0, .bool false]) (t := 48) ?hr ?_; (case hr => go_simp <;> rfl); intro g8 wg8 _ _ _) | (go_at_call 172; (with_reducible refine cM (viewOwner_) ?_); rintro e wd ⟨rfl, hb⟩))
     have HX := Aside0.mk (show shareL ⟨id, ps, xs⟩ (is.take (i + 1)) = M from HN.out.trans (by rw [HV.out, List.append_nil]))
     go_roundg (is.length - (i + 1))
     case measure => omega
     case rel => exact ⟨i + 1, A', c', by go_num, by omega, rfl, by rw [HX.out], by rw [HX.out]; exact frl, belL⟩
  ·obtain rfl : i = is.length := by omega
   rw [List.take_length] at hF ⊢
   go_wp2
   go_ret2
   exact ⟨_, _, rfl, frl, belL⟩
end
section
attribute [local go_sem] cell_tc2
def takeL (is : List S48) (i : S48) : List S48 := if putE is i == 0 then putL is i else is
set_option maxRecDepth 100000 in
set_option maxHeartbeats 8000000 in
theorem takeItem_ {id k cc x v : Int} {g : Bool} {A B I L : Option Addr} {n c m d ni ci nl cl : Nat} {ps : List S98} {xs : List Int} {is : List S48} {ls : List S77} {w : World} [h1 : Sr k98 w A n c ps] [h2 : Sr kI w B m d xs] [h3 : Sr k48 w I ni ci is] [h4 : Sr k77 w L nl cl ls] (hn : nodeB ⟨true, ⟨id, ps, xs⟩, is, ls⟩ = true) (hi : itemB k cc x v g = true) :
 Calls Tryz.prog 19 #[.agg #[.bool true, .int .i64 id, .slice A n c, .slice B m d, .slice I ni ci, .slice L nl cl], .agg #[.int .i64 k, .int .i64 cc, .int .i64 x, .int .i64 v, .bool g]] w fun e w' => ∃ v', e = .returned (.tuple #[v', .int .i64 0]) ∧ NodeR w' w.heap.size v' ⟨true, ⟨id, ps, xs⟩, takeL is ⟨k, ⟨cc, x⟩, v, g⟩, ls⟩ ∧ BelL w w' := by
 obtain rfl := h1.len
 obtain rfl := h2.len
 obtain rfl := h3.len
 obtain rfl := h4.len
 have s1 := sr_l h1
 have s2 := sr_l h2
 have s3 := sr_l h3
 have s4 := sr_l h4
 clear h1 h2 h3 h4
 have hb := nodeB_small hn
 have hup : (true && nodeB ⟨true, ⟨id, ps, xs⟩, is, ls⟩) = true := by rw [hn]; rfl
 cases hp : (putE is ⟨k, ⟨cc, x⟩, v, g⟩ == 0)
 ·rw [show takeL is ⟨k, ⟨cc, x⟩, v, g⟩ = is by simp [takeL, hp]]
  go_enter Tryz.func19, Tryz.ntmps19
  go_wp2_with (first | (with_reducible refine box_tc rfl (N := 2) rfl (cs := #[.bool true, .int .i64 id, .slice A ps.length c, .slice B xs.length d, .slice I is.length ci, .slice L ls.length cl]) (t := 40) ?hr ?_; (case hr => go_simp <;> rfl); intro g2 wg2 _ _ _) | (with_reducible refine box_tc rfl (N := 3) rfl (cs := #[.int .i64 k, .int .i64 cc, .int .i64 x, .int .i64 v, .bool g]) (t := 48) ?hr ?_; (case hr => go_simp <;> rfl); intro g3 wg3 _ _ _) | (with_reducible refine box_tc rfl (N := 4) rfl (cs := #[.bool false, .int .i64 0, .slice none 0 0, .slice none 0 0, .slice none 0 0, .slice none 0 0]) (t := 40) ?hr ?_; (case hr => go_simp <;> rfl); intro g4 wg4 _ _ _) | (with_reducible refine box_tc rfl (N := 6) rfl (cs := #[.bool false, .int .i64 0, .slice none 0 0, .slice none 0 0, .slice none 0 0, .slice none 0 0]) (t := 40) ?hr ?_; (case hr => go_simp <;> rfl); intro g6 wg6 _ _ _) | (go_at_call 56; (with_reducible refine cM (nodeUp_ (by omega)) ?_); rintro e wb ⟨rfl, hb5⟩; rw [hup]) | (go_at_call 57; (with_reducible refine Calls.mono itemMay_ ?_); rintro e wc ⟨rfl, hb6⟩; rw [hi]) | (go_at_call 58; (with_reducible refine cM (nodeCopy_ hb) ?_); rintro e w9 ⟨v9, rfl, ⟨A6, c6, B6, d6, I6, ci6, L6, cl6, rfl, hF6, hG6, hH6, hK6⟩, hb9⟩) | (go_at_call 59; (with_reducible refine cM (put_) ?_); rintro e wp ⟨A7, c7, rfl, hF7, hbp⟩))
  exact bodyPost_ret (v := .tuple #[.agg #[.bool true, .int .i64 id, .slice A6 ps.length c6, .slice B6 xs.length d6, .slice I6 is.length ci6, .slice L6 ls.length cl6], .int .i64 0]) (by simp [results, Tryz.results19, go_sem]) rfl ⟨_, rfl, ⟨_, _, _, _, _, _, _, _, rfl, frl, frl, frl, frl⟩, belL⟩
 ·rw [show takeL is ⟨k, ⟨cc, x⟩, v, g⟩ = putL is ⟨k, ⟨cc, x⟩, v, g⟩ by simp [takeL, hp]]
  go_enter Tryz.func19, Tryz.ntmps19
  go_wp2_with (first | (with_reducible refine box_tc rfl (N := 2) rfl (cs := #[.bool true, .int .i64 id, .slice A ps.length c, .slice B xs.length d, .slice I is.length ci, .slice L ls.length cl]) (t := 40) ?hr ?_; (case hr => go_simp <;> rfl); intro g2 wg2 _ _ _) | (with_reducible refine box_tc rfl (N := 3) rfl (cs := #[.int .i64 k, .int .i64 cc, .int .i64 x, .int .i64 v, .bool g]) (t := 48) ?hr ?_; (case hr => go_simp <;> rfl); intro g3 wg3 _ _ _) | (with_reducible refine box_tc rfl (N := 4) rfl (cs := #[.bool false, .int .i64 0, .slice none 0 0, .slice none 0 0, .slice none 0 0, .slice none 0 0]) (t := 40) ?hr ?_; (case hr => go_simp <;> rfl); intro g4 wg4 _ _ _) | (with_reducible refine box_tc rfl (N := 6) rfl (cs := #[.bool false, .int .i64 0, .slice none 0 0, .slice none 0 0, .slice none 0 0, .slice none 0 0]) (t := 40) ?hr ?_; (case hr => go_simp <;> rfl); intro g6 wg6 _ _ _) | (go_at_call 56; (with_reducible refine cM (nodeUp_ (by omega)) ?_); rintro e wb ⟨rfl, hb5⟩; rw [hup]) | (go_at_call 57; (with_reducible refine Calls.mono itemMay_ ?_); rintro e wc ⟨rfl, hb6⟩; rw [hi]) | (go_at_call 58; (with_reducible refine cM (nodeCopy_ hb) ?_); rintro e w9 ⟨v9, rfl, ⟨A6, c6, B6, d6, I6, ci6, L6, cl6, rfl, hF6, hG6, hH6, hK6⟩, hb9⟩) | (go_at_call 59; (with_reducible refine cM (put_) ?_); rintro e wp ⟨A7, c7, rfl, hF7, hbp⟩))
  exact bodyPost_ret (v := .tuple #[.agg #[.bool true, .int .i64 id, .slice A6 ps.length c6, .slice B6 xs.length d6, .slice A7 (putL is ⟨k, ⟨cc, x⟩, v, g⟩).length c7, .slice L6 ls.length cl6], .int .i64 0]) (by simp [results, Tryz.results19, go_sem]) rfl ⟨_, rfl, ⟨_, _, _, _, _, _, _, _, rfl, frl, frl, frl, frl⟩, belL⟩
end
section
attribute [local go_sem] cell_tc2
def writeI (id : Int) (is : List S48) (k v : Int) (g : Bool) : S48 := ⟨k, ⟨((getI is k).getD z48).f1.f0 + 1, id⟩, v, g⟩
def writeB (id : Int) (is : List S48) (k v : Int) (g : Bool) : Bool := decide ((writeI id is k v g).f1.f0 ≤ 65535) && (putE is (writeI id is k v g) == 0)
set_option maxRecDepth 100000 in
set_option maxHeartbeats 8000000 in
theorem write_ {id k v : Int} {g : Bool} {A B I L : Option Addr} {n c m d ni ci nl cl : Nat} {ps : List S98} {xs : List Int} {is : List S48} {ls : List S77} {w : World} [h1 : Sr k98 w A n c ps] [h2 : Sr kI w B m d xs] [h3 : Sr k48 w I ni ci is] [h4 : Sr k77 w L nl cl ls] (hn : nodeB ⟨true, ⟨id, ps, xs⟩, is, ls⟩ = true) (hk : placeB k = true) (hv : placeB v = true) (hw : writeB id is k v g = true) (ho : 0 ≤ ((getI is k).getD z48).f1.f0) :
 Calls Tryz.prog 52 #[.agg #[.bool true, .int .i64 id, .slice A n c, .slice B m d, .slice I ni ci, .slice L nl cl], .agg #[.int .i64 k, .int .i64 0, .int .i64 0, .int .i64 v, .bool g]] w fun e w' => ∃ v', e = .returned (.tuple #[v', .int .i64 0]) ∧ NodeR w' w.heap.size v' ⟨true, ⟨id, ps, xs⟩, putL is (writeI id is k v g), ls⟩ ∧ BelL w w' := by
 obtain rfl := h1.len
 obtain rfl := h2.len
 obtain rfl := h3.len
 obtain rfl := h4.len
 have s1 := sr_l h1
 have s2 := sr_l h2
 have s3 := sr_l h3
 have s4 := sr_l h4
 clear h1 h2 h3 h4
 have hb := nodeB_small hn
 have hup : (true && nodeB ⟨true, ⟨id, ps, xs⟩, is, ls⟩) = true := by rw [hn]; rfl
 unfold writeB at hw
 simp only [Bool.and_eq_true, decide_eq_true_eq] at hw
 obtain ⟨w1, w2⟩ := hw
 unfold writeI at w1 w2 ⊢
 generalize hold : (getI is k).getD z48 = old at w1 w2 ho ⊢
 have w3 : IntKind.i64.wrap (old.f1.f0 + 1) = old.f1.f0 + 1 := by rw [IntKind.wrap_i64]; simp only at w1; omega
 have w4 : decide (65535 < old.f1.f0 + 1) = false := by simp only at w1; simp; omega
 have w5 : (putE is ⟨k, ⟨old.f1.f0 + 1, id⟩, v, g⟩ != 0) = false := by simp [bne, w2]
 go_enter Tryz.func52, Tryz.ntmps52
 go_wp2_with (first | (with_reducible refine box_tc rfl (N := 2) rfl (cs := #[.bool true, .int .i64 id, .slice A ps.length c, .slice B xs.length d, .slice I is.length ci, .slice L ls.length cl]) (t := 40) ?hr ?_; (case hr => go_simp <;> rfl); intro g2 wg2 _ _ _) | (with_reducible refine box_tc rfl (N := 3) rfl (cs := #[.int .i64 k, .int .i64 0, .int .i64 0, .int .i64 v, .bool g]) (t := 48) ?hr ?_; (case hr => go_simp <;> rfl); intro g3 wg3 _ _ _) | (with_reducible refine box_tc rfl (N := 4) rfl (cs := #[.bool false, .int .i64 0, .slice none 0 0, .slice none 0 0, .slice none 0 0, .slice none 0 0]) (t := 40) ?hr ?_; (case hr => go_simp <;> rfl); intro g4 wg4 _ _ _) | (with_reducible refine box_tc rfl (N := 6) rfl (cs := #[.int .i64 0, .int .i64 0, .int .i64 0, .int .i64 0, .bool false]) (t := 48) ?hr ?_; (case hr => go_simp <;> rfl); intro g6 wg6 _ _ _) | (with_reducible refine box_tc rfl (N := 8) rfl (cs := #[.bool false, .int .i64 0, .slice none 0 0, .slice none 0 0, .slice none 0 0, .slice none 0 0]) (t := 40) ?hr ?_; (case hr => go_simp <;> rfl); intro g8 wg8 _ _ _) | (go_at_call 56; (with_reducible refine cM (nodeUp_ (by omega)) ?_); rintro e wb ⟨rfl, hb5⟩; rw [hup]) | (go_at_call 106; first | ((with_reducible refine cM (byte k _) ?_); rintro e w' ⟨rfl, ⟨nd, rfl⟩⟩; rw [hk]) | ((with_reducible refine cM (byte v _) ?_); rintro e w' ⟨rfl, ⟨nd, rfl⟩⟩; rw [hv])) | (go_at_call 18; (with_reducible refine Calls.mono get_ ?_); rintro e wg ⟨rfl, hb7⟩; rw [hold]; simp only [itemV]) | (go_at_call 58; (with_reducible refine cM (nodeCopy_ (h1 := sr_of (h := s1)) (h2 := sr_of (h := s2)) (h3 := sr_of (h := s3)) (h4 := sr_of (h := s4)) hb) ?_); rintro e w9 ⟨v9, rfl, ⟨A6, c6, B6, d6, I6, ci6, L6, cl6, rfl, hF6, hG6, hH6, hK6⟩, hb9⟩; have k2 : BlkL w9 g2 #[.bool true, .int .i64 id, .slice A ps.length c, .slice B xs.length d, .slice I is.length ci, .slice L ls.length cl] 40 := blkL; have k3 : BlkL w9 g3 #[.int .i64 k, .int .i64 (old.f1.f0 + 1), .int .i64 id, .int .i64 v, .bool g] 48 := blkL; have k4 : BlkL w9 g4 #[.bool false, .int .i64 0, .slice none 0 0, .slice none 0 0, .slice none 0 0, .slice none 0 0] 40 := blkL; have b9 : BelL w w9 := belL; clear hb9) | (go_at_call 59; (with_reducible refine cM (put_) ?_); rintro e wp ⟨A7, c7, rfl, hF7, hbp⟩))
 exact bodyPost_ret (v := .tuple #[.agg #[.bool true, .int .i64 id, .slice A6 ps.length c6, .slice B6 xs.length d6, .slice A7 (putL is ⟨k, ⟨old.f1.f0 + 1, id⟩, v, g⟩).length c7, .slice L6 ls.length cl6], .int .i64 0]) (by simp [results, Tryz.results52, go_sem]) rfl ⟨_, rfl, ⟨_, _, _, _, _, _, _, _, rfl, frl, frl, frl, frl⟩, belL⟩
end
section
attribute [local go_sem] cell_tc2
set_option maxRecDepth 100000 in
set_option maxHeartbeats 8000000 in
theorem writeFull_ {id k v : Int} {g : Bool} {A B I L : Option Addr} {n c m d ni ci nl cl : Nat} {ps : List S98} {xs : List Int} {is : List S48} {ls : List S77} {w : World} [h1 : Sr k98 w A n c ps] [h2 : Sr kI w B m d xs] [h3 : Sr k48 w I ni ci is] [h4 : Sr k77 w L nl cl ls] (hn : nodeB ⟨true, ⟨id, ps, xs⟩, is, ls⟩ = true) (hk : placeB k = true) (hv : placeB v = true) (hw : writeB id is k v g = false) (ho : 0 ≤ ((getI is k).getD z48).f1.f0) (ho2 : ((getI is k).getD z48).f1.f0 ≤ 65535) :
 Calls Tryz.prog 52 #[.agg #[.bool true, .int .i64 id, .slice A n c, .slice B m d, .slice I ni ci, .slice L nl cl], .agg #[.int .i64 k, .int .i64 0, .int .i64 0, .int .i64 v, .bool g]] w fun e w' => e = .returned (.tuple #[.agg #[.bool false, .int .i64 0, .slice none 0 0, .slice none 0 0, .slice none 0 0, .slice none 0 0], .int .i64 1701]) ∧ BelL w w' := by
 obtain rfl := h1.len
 obtain rfl := h2.len
 obtain rfl := h3.len
 obtain rfl := h4.len
 have s1 := sr_l h1
 have s2 := sr_l h2
 have s3 := sr_l h3
 have s4 := sr_l h4
 clear h1 h2 h3 h4
 have hb := nodeB_small hn
 have hup : (true && nodeB ⟨true, ⟨id, ps, xs⟩, is, ls⟩) = true := by rw [hn]; rfl
 unfold writeB at hw
 unfold writeI at hw
 generalize hold : (getI is k).getD z48 = old at hw ho ho2
 by_cases w1 : old.f1.f0 + 1 ≤ 65535
 ·have w2 : (putE is ⟨k, ⟨old.f1.f0 + 1, id⟩, v, g⟩ == 0) = false := by simpa [w1] using hw
  have w3 : IntKind.i64.wrap (old.f1.f0 + 1) = old.f1.f0 + 1 := by rw [IntKind.wrap_i64]; omega
  have w4 : decide (65535 < old.f1.f0 + 1) = false := by simp; omega
  have w5 : (putE is ⟨k, ⟨old.f1.f0 + 1, id⟩, v, g⟩ != 0) = true := by simp [bne, w2]
  clear hw
  go_enter Tryz.func52, Tryz.ntmps52
  go_wp2_with (first | (with_reducible refine box_tc rfl (N := 2) rfl (cs := #[.bool true, .int .i64 id, .slice A ps.length c, .slice B xs.length d, .slice I is.length ci, .slice L ls.length cl]) (t := 40) ?hr ?_; (case hr => go_simp <;> rfl); intro g2 wg2 _ _ _) | (with_reducible refine box_tc rfl (N := 3) rfl (cs := #[.int .i64 k, .int .i64 0, .int .i64 0, .int .i64 v, .bool g]) (t := 48) ?hr ?_; (case hr => go_simp <;> rfl); intro g3 wg3 _ _ _) | (with_reducible refine box_tc rfl (N := 4) rfl (cs := #[.bool false, .int .i64 0, .slice none 0 0, .slice none 0 0, .slice none 0 0, .slice none 0 0]) (t := 40) ?hr ?_; (case hr => go_simp <;> rfl); intro g4 wg4 _ _ _) | (with_reducible refine box_tc rfl (N := 6) rfl (cs := #[.int .i64 0, .int .i64 0, .int .i64 0, .int .i64 0, .bool false]) (t := 48) ?hr ?_; (case hr => go_simp <;> rfl); intro g6 wg6 _ _ _) | (with_reducible refine box_tc rfl (N := 8) rfl (cs := #[.bool false, .int .i64 0, .slice none 0 0, .slice none 0 0, .slice none 0 0, .slice none 0 0]) (t := 40) ?hr ?_; (case hr => go_simp <;> rfl); intro g8 wg8 _ _ _) | (go_at_call 56; (with_reducible refine cM (nodeUp_ (by omega)) ?_); rintro e wb ⟨rfl, hb5⟩; rw [hup]) | (go_at_call 106; first | ((with_reducible refine cM (byte k _) ?_); rintro e w' ⟨rfl, ⟨nd, rfl⟩⟩; rw [hk]) | ((with_reducible refine cM (byte v _) ?_); rintro e w' ⟨rfl, ⟨nd, rfl⟩⟩; rw [hv])) | (go_at_call 18; (with_reducible refine Calls.mono get_ ?_); rintro e wg ⟨rfl, hb7⟩; rw [hold]; simp only [itemV]) | (go_at_call 58; (with_reducible refine cM (nodeCopy_ (h1 := sr_of (h := s1)) (h2 := sr_of (h := s2)) (h3 := sr_of (h := s3)) (h4 := sr_of (h := s4)) hb) ?_); rintro e w9 ⟨v9, rfl, ⟨A6, c6, B6, d6, I6, ci6, L6, cl6, rfl, hF6, hG6, hH6, hK6⟩, hb9⟩; have k2 : BlkL w9 g2 #[.bool true, .int .i64 id, .slice A ps.length c, .slice B xs.length d, .slice I is.length ci, .slice L ls.length cl] 40 := blkL; have k3 : BlkL w9 g3 #[.int .i64 k, .int .i64 (old.f1.f0 + 1), .int .i64 id, .int .i64 v, .bool g] 48 := blkL; have k4 : BlkL w9 g4 #[.bool false, .int .i64 0, .slice none 0 0, .slice none 0 0, .slice none 0 0, .slice none 0 0] 40 := blkL; have b9 : BelL w w9 := belL; clear hb9) | (go_at_call 59; (with_reducible refine cM (put_) ?_); rintro e wp ⟨A7, c7, rfl, hF7, hbp⟩))
  exact bodyPost_ret (v := .tuple #[.agg #[.bool false, .int .i64 0, .slice none 0 0, .slice none 0 0, .slice none 0 0, .slice none 0 0], .int .i64 1701]) (by simp [results, Tryz.results52, go_sem]) rfl ⟨rfl, belL⟩
 ·have w6 : old.f1.f0 ≤ 65535 := ho2
  have w3 : IntKind.i64.wrap (old.f1.f0 + 1) = old.f1.f0 + 1 := by rw [IntKind.wrap_i64]; omega
  have w4 : decide (65535 < old.f1.f0 + 1) = true := by simp; omega
  clear hw
  go_enter Tryz.func52, Tryz.ntmps52
  go_wp2_with (first | (with_reducible refine box_tc rfl (N := 2) rfl (cs := #[.bool true, .int .i64 id, .slice A ps.length c, .slice B xs.length d, .slice I is.length ci, .slice L ls.length cl]) (t := 40) ?hr ?_; (case hr => go_simp <;> rfl); intro g2 wg2 _ _ _) | (with_reducible refine box_tc rfl (N := 3) rfl (cs := #[.int .i64 k, .int .i64 0, .int .i64 0, .int .i64 v, .bool g]) (t := 48) ?hr ?_; (case hr => go_simp <;> rfl); intro g3 wg3 _ _ _) | (with_reducible refine box_tc rfl (N := 4) rfl (cs := #[.bool false, .int .i64 0, .slice none 0 0, .slice none 0 0, .slice none 0 0, .slice none 0 0]) (t := 40) ?hr ?_; (case hr => go_simp <;> rfl); intro g4 wg4 _ _ _) | (with_reducible refine box_tc rfl (N := 6) rfl (cs := #[.int .i64 0, .int .i64 0, .int .i64 0, .int .i64 0, .bool false]) (t := 48) ?hr ?_; (case hr => go_simp <;> rfl); intro g6 wg6 _ _ _) | (with_reducible refine box_tc rfl (N := 8) rfl (cs := #[.bool false, .int .i64 0, .slice none 0 0, .slice none 0 0, .slice none 0 0, .slice none 0 0]) (t := 40) ?hr ?_; (case hr => go_simp <;> rfl); intro g8 wg8 _ _ _) | (go_at_call 56; (with_reducible refine cM (nodeUp_ (by omega)) ?_); rintro e wb ⟨rfl, hb5⟩; rw [hup]) | (go_at_call 106; first | ((with_reducible refine cM (byte k _) ?_); rintro e w' ⟨rfl, ⟨nd, rfl⟩⟩; rw [hk]) | ((with_reducible refine cM (byte v _) ?_); rintro e w' ⟨rfl, ⟨nd, rfl⟩⟩; rw [hv])) | (go_at_call 18; (with_reducible refine Calls.mono get_ ?_); rintro e wg ⟨rfl, hb7⟩; rw [hold]; simp only [itemV]) | (go_at_call 58; (with_reducible refine cM (nodeCopy_ (h1 := sr_of (h := s1)) (h2 := sr_of (h := s2)) (h3 := sr_of (h := s3)) (h4 := sr_of (h := s4)) hb) ?_); rintro e w9 ⟨v9, rfl, ⟨A6, c6, B6, d6, I6, ci6, L6, cl6, rfl, hF6, hG6, hH6, hK6⟩, hb9⟩; have k2 : BlkL w9 g2 #[.bool true, .int .i64 id, .slice A ps.length c, .slice B xs.length d, .slice I is.length ci, .slice L ls.length cl] 40 := blkL; have k3 : BlkL w9 g3 #[.int .i64 k, .int .i64 (old.f1.f0 + 1), .int .i64 id, .int .i64 v, .bool g] 48 := blkL; have k4 : BlkL w9 g4 #[.bool false, .int .i64 0, .slice none 0 0, .slice none 0 0, .slice none 0 0, .slice none 0 0] 40 := blkL; have b9 : BelL w w9 := belL; clear hb9) | (go_at_call 59; (with_reducible refine cM (put_) ?_); rintro e wp ⟨A7, c7, rfl, hF7, hbp⟩))
  exact bodyPost_ret (v := .tuple #[.agg #[.bool false, .int .i64 0, .slice none 0 0, .slice none 0 0, .slice none 0 0, .slice none 0 0], .int .i64 1701]) (by simp [results, Tryz.results52, go_sem]) rfl ⟨rfl, belL⟩
end
section
attribute [local go_sem] cell_tc2
set_option maxRecDepth 100000 in
set_option maxHeartbeats 2000000 in
theorem put16_ {id k v : Int} {A B I L : Option Addr} {n c m d ni ci nl cl : Nat} {ps : List S98} {xs : List Int} {is : List S48} {ls : List S77} {w : World} [h1 : Sr k98 w A n c ps] [h2 : Sr kI w B m d xs] [h3 : Sr k48 w I ni ci is] [h4 : Sr k77 w L nl cl ls] (hn : nodeB ⟨true, ⟨id, ps, xs⟩, is, ls⟩ = true) (hk : placeB k = true) (hv : placeB v = true) (hw : writeB id is k v false = true) (ho : 0 ≤ ((getI is k).getD z48).f1.f0) :
 Calls Tryz.prog 16 #[.agg #[.bool true, .int .i64 id, .slice A n c, .slice B m d, .slice I ni ci, .slice L nl cl], .int .i64 k, .int .i64 v] w fun e w' => ∃ v', e = .returned (.tuple #[v', .int .i64 0]) ∧ NodeR w' w.heap.size v' ⟨true, ⟨id, ps, xs⟩, putL is (writeI id is k v false), ls⟩ ∧ BelL w w' := by
 obtain rfl := h1.len
 obtain rfl := h2.len
 obtain rfl := h3.len
 obtain rfl := h4.len
 have s1 := sr_l h1
 have s2 := sr_l h2
 have s3 := sr_l h3
 have s4 := sr_l h4
 clear h1 h2 h3 h4
 have hb := nodeB_small hn
 have hup : (true && nodeB ⟨true, ⟨id, ps, xs⟩, is, ls⟩) = true := by rw [hn]; rfl
 go_enter Tryz.func16, Tryz.ntmps16
 go_wp2_with (first | (with_reducible refine box_tc rfl (N := 3) rfl (cs := #[.bool true, .int .i64 id, .slice A ps.length c, .slice B xs.length d, .slice I is.length ci, .slice L ls.length cl]) (t := 40) ?hr ?_; (case hr => go_simp <;> rfl); intro g3 wg3 _ _ _) | (with_reducible refine box_tc rfl (N := 6) rfl (cs := #[.bool false, .int .i64 0, .slice none 0 0, .slice none 0 0, .slice none 0 0, .slice none 0 0]) (t := 40) ?hr ?_; (case hr => go_simp <;> rfl); intro g6 wg6 _ _ _) | (go_at_call 52; (with_reducible refine cM (write_ hn hk hv hw ho) ?_); rintro e w5 ⟨v5, rfl, ⟨A6, c6, B6, d6, I6, ci6, L6, cl6, rfl, hF6, hG6, hH6, hK6⟩, hb5⟩))
 exact bodyPost_ret (v := .tuple #[.agg #[.bool true, .int .i64 id, .slice A6 ps.length c6, .slice B6 xs.length d6, .slice I6 (putL is (writeI id is k v false)).length ci6, .slice L6 ls.length cl6], .int .i64 0]) (by simp [results, Tryz.results16, go_sem]) rfl ⟨_, rfl, ⟨_, _, _, _, _, _, _, _, rfl, frl, frl, frl, frl⟩, belL⟩
set_option maxRecDepth 100000 in
set_option maxHeartbeats 2000000 in
theorem put16Full_ {id k v : Int} {A B I L : Option Addr} {n c m d ni ci nl cl : Nat} {ps : List S98} {xs : List Int} {is : List S48} {ls : List S77} {w : World} [h1 : Sr k98 w A n c ps] [h2 : Sr kI w B m d xs] [h3 : Sr k48 w I ni ci is] [h4 : Sr k77 w L nl cl ls] (hn : nodeB ⟨true, ⟨id, ps, xs⟩, is, ls⟩ = true) (hk : placeB k = true) (hv : placeB v = true) (hw : writeB id is k v false = false) (ho : 0 ≤ ((getI is k).getD z48).f1.f0) (ho2 : ((getI is k).getD z48).f1.f0 ≤ 65535) :
 Calls Tryz.prog 16 #[.agg #[.bool true, .int .i64 id, .slice A n c, .slice B m d, .slice I ni ci, .slice L nl cl], .int .i64 k, .int .i64 v] w fun e w' => e = .returned (.tuple #[.agg #[.bool false, .int .i64 0, .slice none 0 0, .slice none 0 0, .slice none 0 0, .slice none 0 0], .int .i64 1701]) ∧ BelL w w' := by
 obtain rfl := h1.len
 obtain rfl := h2.len
 obtain rfl := h3.len
 obtain rfl := h4.len
 have s1 := sr_l h1
 have s2 := sr_l h2
 have s3 := sr_l h3
 have s4 := sr_l h4
 clear h1 h2 h3 h4
 have hb := nodeB_small hn
 have hup : (true && nodeB ⟨true, ⟨id, ps, xs⟩, is, ls⟩) = true := by rw [hn]; rfl
 go_enter Tryz.func16, Tryz.ntmps16
 go_wp2_with (first | (with_reducible refine box_tc rfl (N := 3) rfl (cs := #[.bool true, .int .i64 id, .slice A ps.length c, .slice B xs.length d, .slice I is.length ci, .slice L ls.length cl]) (t := 40) ?hr ?_; (case hr => go_simp <;> rfl); intro g3 wg3 _ _ _) | (with_reducible refine box_tc rfl (N := 6) rfl (cs := #[.bool false, .int .i64 0, .slice none 0 0, .slice none 0 0, .slice none 0 0, .slice none 0 0]) (t := 40) ?hr ?_; (case hr => go_simp <;> rfl); intro g6 wg6 _ _ _) | (go_at_call 52; (with_reducible refine cM (writeFull_ hn hk hv hw ho ho2) ?_); rintro e w5 ⟨rfl, hb5⟩))
 exact bodyPost_ret (v := .tuple #[.agg #[.bool false, .int .i64 0, .slice none 0 0, .slice none 0 0, .slice none 0 0, .slice none 0 0], .int .i64 1701]) (by simp [results, Tryz.results16, go_sem]) rfl ⟨rfl, belL⟩
end
section
attribute [local go_sem] cell_tc2
set_option maxRecDepth 100000 in
set_option maxHeartbeats 2000000 in
theorem askTo_ {gx gm : Nat} {f0 f1 f2 f4 k cc x v kind id : Int} {g q : Bool} {ids : List Int} {A3 A B I L : Option Addr} {n3 c3 n c m d ni ci nl cl : Nat} {ps : List S98} {xs : List Int} {is : List S48} {ls : List S77} {w : World} [bx : Blk w gx #[.bool true, .int .i64 id, .slice A n c, .slice B m d, .slice I ni ci, .slice L nl cl] 40] [bm : Blk w gm #[.int .i64 f0, .int .i64 f1, .int .i64 f2, .slice A3 n3 c3, .int .i64 f4, .int .i64 k, .int .i64 cc, .int .i64 x, .int .i64 v, .bool g, .bool q] 126] [h1 : Sr k98 w A n c ps] [h2 : Sr kI w B m d xs] [h3 : Sr k48 w I ni ci is] [h4 : Sr k77 w L nl cl ls] [h5 : Sr kI w A3 n3 c3 ids] (hn : nodeB ⟨true, ⟨id, ps, xs⟩, is, ls⟩ = true) (hm : msgB ⟨f0, f1, f2, ids, f4, ⟨k, ⟨cc, x⟩, v, g⟩, q⟩ = true) (hi : ids.length ≤ 1000000) :
 Calls Tryz.prog 207 #[.pointer (some ⟨gx, 0, none⟩), .pointer (some ⟨gm, 0, none⟩), .int .i64 kind] w fun e w' => e = .returned (.bool (f0 == kind && f2 == id)) ∧ BelL w w' := by
 obtain rfl := h1.len
 obtain rfl := h2.len
 obtain rfl := h3.len
 obtain rfl := h4.len
 have s1 := sr_l h1
 have s2 := sr_l h2
 have s3 := sr_l h3
 have s4 := sr_l h4
 clear h1 h2 h3 h4
 have hb := nodeB_small hn
 have hup : (true && nodeB ⟨true, ⟨id, ps, xs⟩, is, ls⟩) = true := by rw [hn]; rfl
 obtain rfl := h5.len
 have s5 := sr_l h5
 have s6 : BlkL w gx _ _ := ⟨bx.out⟩
 have s7 : BlkL w gm _ _ := ⟨bm.out⟩
 clear h5 bx bm
 cases e1 : (f0 == kind) <;> cases e2 : (f2 == id)
 all_goals
  go_enter Tryz.func207, Tryz.ntmps207
  go_wp2_with fail
  (refine wp_region_bel (by kernel_rfl) (by kernel_rfl) ?_; (repeat (first | go_big_quiet_skip | (go_big_quiet_want; first | (go_big_quiet_op; go_big_quiet_on) | (apply Exists.intro; refine ⟨fun wq hq => ?_, ?_⟩; (focus (unfold Oper.quietAt; go_simp; first | done | exact ⟨rfl, rfl⟩ | exact rfl | (first | (go_at_call 56; refine Calls.mono (nodeUp_ (by omega)) ?_; rintro e w1 ⟨rfl, hb⟩; exact ⟨by rw [hup], belL⟩) | (go_at_call 144; refine Calls.mono (msgMay_) ?_; rintro e w1 ⟨rfl, hb⟩; exact ⟨by rw [hm], belL⟩)))); (try simp only [Act.put, put3]); go_big_quiet_on)))); refine wpQuiet_nil ?_; intro w7 hb7)
  go_wp2
  go_ret
  exact ⟨by simp [e1, e2], belL⟩
end
section
attribute [local go_sem] cell_tc2
theorem lit_msg {W : World} {b g : Nat} {f0 f1 f2 f4 k cc wr v : Int} {gn q : Bool} [h : Blk W g #[.int .i64 f0, .int .i64 f1, .int .i64 f2, .slice none 0 0, .int .i64 f4, .int .i64 k, .int .i64 cc, .int .i64 wr, .int .i64 v, .bool gn, .bool q] 126] (hb : b ≤ g) :
 FrL k126 126 W b Any (some ⟨g, 0, none⟩) 1 1 [(⟨f0, f1, f2, [], f4, ⟨k, ⟨cc, wr⟩, v, gn⟩, q⟩ : S126)] := by
 refine ⟨rfl, Nat.le_refl 1, fun _ _ => trivial, _, ⟨?_, .inr ⟨g, 1, _, rfl, hb, h.out, Nat.le_refl 1, by decide, rfl, rfl⟩⟩, ⟨rfl, fun j p hj => ?_⟩⟩
 ·rfl
 ·cases j with
  | succ j => simp at hj
  | zero =>
    simp at hj
    subst hj
    exact k126_mkM W b _ (⟨f0, f1, f2, [], f4, ⟨k, ⟨cc, wr⟩, v, gn⟩, q⟩ : S126) (v3 := .slice none 0 0) ⟨(fun _ e => nomatch e), [], ⟨rfl, .inl ⟨rfl, rfl⟩⟩, rfl, (fun j p hj => by simp at hj)⟩
set_option maxRecDepth 100000 in
set_option maxHeartbeats 2000000 in
theorem answer_ {f1 f4 k cc x v id : Int} {g q : Bool} {ids : List Int} {A3 A B I L : Option Addr} {n3 c3 n c m d ni ci nl cl : Nat} {ps : List S98} {xs : List Int} {is : List S48} {ls : List S77} {w : World} [h1 : Sr k98 w A n c ps] [h2 : Sr kI w B m d xs] [h3 : Sr k48 w I ni ci is] [h4 : Sr k77 w L nl cl ls] [h5 : Sr kI w A3 n3 c3 ids] (hn : nodeB ⟨true, ⟨id, ps, xs⟩, is, ls⟩ = true) (hm : msgB ⟨2, f1, id, ids, f4, ⟨k, ⟨cc, x⟩, v, g⟩, q⟩ = true) (hi : ids.length ≤ 1000000) :
 Calls Tryz.prog 193 #[.agg #[.bool true, .int .i64 id, .slice A n c, .slice B m d, .slice I ni ci, .slice L nl cl], .agg #[.int .i64 2, .int .i64 f1, .int .i64 id, .slice A3 n3 c3, .int .i64 f4, .int .i64 k, .int .i64 cc, .int .i64 x, .int .i64 v, .bool g, .bool q]] w fun e w' => ∃ A' c', e = .returned (.tuple #[.slice A' 1 c', .int .i64 0]) ∧ FrL k126 126 w' w.heap.size (Under w'.heap.size) A' 1 c' [(⟨3, id, f1, [], f4, (getI is f4).getD z48, (getI is f4).isSome⟩ : S126)] ∧ BelL w w' := by
 obtain rfl := h1.len
 obtain rfl := h2.len
 obtain rfl := h3.len
 obtain rfl := h4.len
 have s1 := sr_l h1
 have s2 := sr_l h2
 have s3 := sr_l h3
 have s4 := sr_l h4
 clear h1 h2 h3 h4
 have hb := nodeB_small hn
 have hup : (true && nodeB ⟨true, ⟨id, ps, xs⟩, is, ls⟩) = true := by rw [hn]; rfl
 obtain rfl := h5.len
 have s5 := sr_l h5
 clear h5
 generalize hold : (getI is f4).getD z48 = old
 go_enter Tryz.func193, Tryz.ntmps193
 go_wp2_with (first | (with_reducible refine box_tc rfl (N := 6) rfl (cs := #[.int .i64 0, .int .i64 0, .int .i64 0, .int .i64 0, .bool false]) (t := 48) ?hr ?_; (case hr => go_simp <;> rfl); intro g6 wg6 _ _ _) | (with_reducible refine lit_tc rfl (N := 28) rfl (cs := #[.int .i64 3, .int .i64 id, .int .i64 f1, .slice none 0 0, .int .i64 f4, .int .i64 old.f0, .int .i64 old.f1.f0, .int .i64 old.f1.f1, .int .i64 old.f2, .bool old.f3, .bool (getI is f4).isSome]) (t := 126) (m := 1) ?hr ?_; (case hr => go_simp <;> rfl); intro g9 wg9 _ _ _) | (with_reducible refine box_tc rfl (N := 2) rfl (cs := #[.bool true, .int .i64 id, .slice A ps.length c, .slice B xs.length d, .slice I is.length ci, .slice L ls.length cl]) (t := 40) ?hr ?_; (case hr => go_simp <;> rfl); intro g2 wg2 _ _ _) | (with_reducible refine box_tc rfl (N := 3) rfl (cs := #[.int .i64 2, .int .i64 f1, .int .i64 id, .slice A3 ids.length c3, .int .i64 f4, .int .i64 k, .int .i64 cc, .int .i64 x, .int .i64 v, .bool g, .bool q]) (t := 126) ?hr ?_; (case hr => go_simp <;> rfl); intro g3 wg3 _ _ _) | (go_at_call 207; (with_reducible refine cM (askTo_ hn hm hi) ?_); rintro e wb ⟨rfl, hb5⟩; simp only [beq_self_eq_true, Bool.and_self]) | (go_at_call 18; (with_reducible refine Calls.mono get_ ?_); rintro e wg ⟨rfl, hb7⟩; rw [hold]; simp only [itemV]))
 have hF : FrL k126 126 _ w.heap.size Any (some ⟨g9, 0, none⟩) 1 1 [(⟨3, id, f1, [], f4, old, (getI is f4).isSome⟩ : S126)] := lit_msg (W := wg9) (GE.out (w := w))
 exact bodyPost_ret (v := .tuple #[.slice (some ⟨g9, 0, none⟩) 1 1, .int .i64 0]) (by simp [results, Tryz.results193, go_sem]) rfl ⟨_, _, rfl, frl, belL⟩
end
section
attribute [local go_sem] cell_tc2 frozen_row
section
variable {ops : Array Oper} {o : Oper} {a : Act} {Q : Exit → Act → World → Prop} {Kc : Act → World → Prop}
theorem app_msg_step {b u b3 : Nat} {S3 : Nat → Prop} {W : World} {A A3 : Option Addr} {n c n3 c3 g : Nat} {xs : List S126} {s x : Operand} {t : Nat} {f0 f1 f2 f4 k cc wr v : Int} {gn hs_ : Bool} {ids : List Int}
 (hw : Region.wanted o (yielded ops a.tmps) = true) (ho : o.op = .call { callee := .builtin .append, args := #[s, x], argTypes := #[t, t] }) (ht : Tryz.prog.underlying t = some (.slice 126)) (hs : a.eval s = .slice A n c) (hx : a.eval x = .slice (some ⟨g, 0, none⟩) 1 1)
 [q : Fr kI 3 W b3 S3 A3 n3 c3 ids] [l1 : LeB u b3] [l2 : LeB b b3] [h : Fr k126 126 W b (Under u) A n c xs] [hB : Blk W g #[.int .i64 f0, .int .i64 f1, .int .i64 f2, .slice A3 n3 c3, .int .i64 f4, .int .i64 k, .int .i64 cc, .int .i64 wr, .int .i64 v, .bool gn, .bool hs_] 126] [hb : LeB b W.heap.size] (hl : n + 1 ≤ 1000000)
 (hk : ∀ A' c' w1, FrL k126 126 w1 b Any A' (n + 1) c' (xs ++ [(⟨f0, f1, f2, ids, f4, ⟨k, ⟨cc, wr⟩, v, gn⟩, hs_⟩ : S126)]) → BbL b W w1 → GrL 126 W w1 → Kc (a.put o.dst (.slice A' (n + 1) c')) w1) : if Region.wanted o (yielded ops a.tmps) = true then Oper.wp Tryz.prog o a W Kc Q else Kc (a.put o.dst undef) W := by
 have he : ElT k126 126 := inferInstance
 obtain ⟨z, bytes, hi, hz, hs0, hb0, hb1⟩ := he.out
 have hlen := h.len
 have hR3 : kI.R 3 W b (fun j => b3 ≤ j) (.slice A3 n3 c3) ids := Kd.R_mono (Kd.R_lower (Kd.R_bound q.R) l2.out) (fun j hj => hj.2.1)
 refine Kd.R_append_rows_step k126 (w0 := W) b hw s x t 126 z bytes ho ht hi hz hs0 hb0 (.slice A n c) xs [(⟨f0, f1, f2, ids, f4, ⟨k, ⟨cc, wr⟩, v, gn⟩, hs_⟩ : S126)] (some ⟨g, 0, none⟩) 1 1 (fun _ => True) (fun j => b3 ≤ j) (Rr := k126.M W b fun j => b3 ≤ j) hs hx h.any ⟨rfl, by decide, fun _ => ⟨_, rfl, fun j p hj => ?_⟩⟩ (fun _ _ hx => hx) (fun j hj => ⟨trivial, fun e => ?_⟩) (fun _ _ => trivial) (Below.mono (Below.refl _ _) hb.out) hb.out ?_ ?_
 ·cases j with
  | succ j => simp at hj
  | zero =>
    simp at hj
    subst hj
    refine ⟨_, rfl, k126_mkM W b _ ⟨f0, f1, f2, ids, f4, ⟨k, ⟨cc, wr⟩, v, gn⟩, hs_⟩ hR3, fun i u hu => ?_⟩
    rw [Addr.add_lit, blk_cell hB.out]
    simpa using hu
 ·have h5 := h.R.1 j e.symm
  unfold Under at h5
  have := l1.out
  have hj' : b3 ≤ j := hj
  omega
 ·have : (xs.length + 1) * bytes ≤ 1000000 * 112 := Nat.mul_le_mul (by omega) hb1
  omega
 ·intro v1 w1 hR hB hg _
  obtain ⟨A', c', rfl, hc', _⟩ := Kd.R_reads hR
  have e1 : (xs ++ [(⟨f0, f1, f2, ids, f4, ⟨k, ⟨cc, wr⟩, v, gn⟩, hs_⟩ : S126)]).length = n + 1 := by rw [List.length_append, hlen]; rfl
  rw [e1] at hR hc' ⊢
  exact hk A' c' w1 ⟨e1, hc', hR⟩ (bb_of_grown h.any hb.out hg) ⟨_, hg, fun j hj => Kd.R_typed h.any j hj⟩
end
theorem ltb_of {W1 W : World} (_ : BelL W1 W) {g : Nat} {cs : Array Value} {t : Nat} [h : Blk W1 g cs t] : LtB g W1.heap.size := inferInstance
def helloM (id : Int) (ids : List Int) (dst : Int) : S126 := ⟨0, id, dst, ids, 0, z48, false⟩
def stepV (v : S25) : S25 := ⟨v.f0, aged v.f1, tickXs v⟩
def stepN (x : S40) : S40 := ⟨x.f0, stepV x.f1, x.f2, x.f3⟩
def stepH (v : S25) : List S126 := (idsOf (aged v.f1) ++ tickXs v).map (helloM v.f0 (idsOf (aged v.f1)))
def stepM (x : S40) : List S126 := stepH x.f1 ++ shareL (stepV x.f1) x.f2
theorem map_snoc {α β : Type} (f : α → β) {l : List α} {i : Nat} (h : i < l.length) : (l.take (i + 1)).map f = (l.take i).map f ++ [f l[i]] := by
 rw [List.take_succ_eq_append_getElem h, List.map_append]; rfl
set_option maxRecDepth 100000 in
set_option maxHeartbeats 8000000 in
theorem step_ {id : Int} {A B I L : Option Addr} {n c m d ni ci nl cl : Nat} {ps : List S98} {xs : List Int} {is : List S48} {ls : List S77} {w : World} [h1 : Sr k98 w A n c ps] [h2 : Sr kI w B m d xs] [h3 : Sr k48 w I ni ci is] [h4 : Sr k77 w L nl cl ls] (hn : nodeB ⟨true, ⟨id, ps, xs⟩, is, ls⟩ = true) (hn2 : nodeB (stepN ⟨true, ⟨id, ps, xs⟩, is, ls⟩) = true) :
 Calls Tryz.prog 123 #[.agg #[.bool true, .int .i64 id, .slice A n c, .slice B m d, .slice I ni ci, .slice L nl cl]] w fun e w' => ∃ v' A' c', e = .returned (.tuple #[v', .slice A' (stepM ⟨true, ⟨id, ps, xs⟩, is, ls⟩).length c', .int .i64 0]) ∧ NodeR w' w.heap.size v' (stepN ⟨true, ⟨id, ps, xs⟩, is, ls⟩) ∧ FrL k126 126 w' w.heap.size (Under w'.heap.size) A' (stepM ⟨true, ⟨id, ps, xs⟩, is, ls⟩).length c' (stepM ⟨true, ⟨id, ps, xs⟩, is, ls⟩) ∧ BelL w w' := by
 obtain rfl := h1.len
 obtain rfl := h2.len
 obtain rfl := h3.len
 obtain rfl := h4.len
 have s1 := sr_l h1
 have s2 := sr_l h2
 have s3 := sr_l h3
 have s4 := sr_l h4
 clear h1 h2 h3 h4
 have hb := nodeB_small hn
 have hup : (true && nodeB ⟨true, ⟨id, ps, xs⟩, is, ls⟩) = true := by rw [hn]; rfl
 have hv := nodeB_view hn
 have h16 : ps.length + xs.length ≤ 16 := viewB_len hv
 have e1 : tickV ⟨id, ps, xs⟩ = ⟨id, aged ps, tickXs ⟨id, ps, xs⟩⟩ := by simp [tickV]; exact fun h => absurd (h.symm.trans hv) (by simp)
 have e2 : tickG ⟨id, ps, xs⟩ = idsOf (aged ps) ++ tickXs ⟨id, ps, xs⟩ := by simp [tickG]; exact fun h => absurd (h.symm.trans hv) (by simp)
 have e3 : tickE ⟨id, ps, xs⟩ = 0 := by simp [tickE]; exact hv
 have L1 : (idsOf (aged ps) ++ tickXs ⟨id, ps, xs⟩).length ≤ 32 := by
  have := aged_le ps
  have := lostMany_len xs (lostOf ps) (by omega)
  rw [List.length_append, idsOf_len]
  unfold tickXs
  simp only
  omega
 have L2 : (shareL (stepV ⟨id, ps, xs⟩) is).length ≤ is.length := shareL_len _ _
 have E1 := Aside0.mk e1
 have E2 := Aside0.mk e2
 have E3 := Aside0.mk e3
 have AL := aged_le ps
 have L3 : is.length ≤ 16 := by
  have h := hn
  unfold nodeB at h; simp only [Bool.and_eq_true, decide_eq_true_eq] at h
  exact storeB_len h.1.1.2
 have SM : Aside0 (stepM ⟨true, ⟨id, ps, xs⟩, is, ls⟩ = (idsOf (aged ps) ++ tickXs ⟨id, ps, xs⟩).map (helloM id (idsOf (aged ps))) ++ shareL (stepV ⟨id, ps, xs⟩) is) := ⟨rfl⟩
 have HN2 := Aside0.mk (show nodeB ⟨true, ⟨id, aged ps, tickXs ⟨id, ps, xs⟩⟩, is, ls⟩ = true from hn2)
 clear e1 e2 e3 hn2 hv
 unfold stepN stepV at *
 simp only at *
 generalize stepM ⟨true, ⟨id, ps, xs⟩, is, ls⟩ = SMv at SM ⊢
 generalize tickXs ⟨id, ps, xs⟩ = ys at E1 E2 HN2 SM L1 L2 ⊢
 generalize hG : idsOf (aged ps) ++ ys = G at E2 SM L1
 generalize hps : aged ps = qs at *
 clear hG hps
 go_enter Tryz.func123, Tryz.ntmps123
 go_wp2_with (first | (with_reducible refine box_tc rfl (N := 1) rfl (cs := #[.bool true, .int .i64 id, .slice A ps.length c, .slice B xs.length d, .slice I is.length ci, .slice L ls.length cl]) (t := 40) ?hr ?_; (case hr => go_simp <;> rfl); intro g1 wg1 _ _ _) | (with_reducible refine box_tc rfl (N := 2) rfl (cs := #[.bool false, .int .i64 0, .slice none 0 0, .slice none 0 0, .slice none 0 0, .slice none 0 0]) (t := 40) ?hr ?_; (case hr => go_simp <;> rfl); intro g2 wg2 _ _ _) | (with_reducible refine box_tc rfl (N := 5) rfl (cs := #[.bool false, .int .i64 0, .slice none 0 0, .slice none 0 0, .slice none 0 0, .slice none 0 0]) (t := 40) ?hr ?_; (case hr => go_simp <;> rfl); intro g5 wg5 _ _ _) | (with_reducible refine box_tc rfl (N := 6) rfl (cs := #[.int .i64 0, .slice none 0 0, .slice none 0 0]) (t := 25) ?hr ?_; (case hr => go_simp <;> rfl); intro g6 wg6 _ _ _) | (go_at_call 56; (with_reducible refine cM (nodeUp_ (by omega)) ?_); rintro e wb ⟨rfl, hb5⟩; rw [hup]) | (go_at_call 58; (with_reducible refine cM (nodeCopy_ hb) ?_); rintro e w9 ⟨v9, rfl, ⟨A6, c6, B6, d6, I6, ci6, L6, cl6, rfl, hF6, hG6, hH6, hK6⟩, hb9⟩) | (go_at_call 160; (with_reducible refine Calls.mono tickView_ ?_); rintro e w10 ⟨v10, A1, c1, rfl, ⟨A7, c7, B7, d7, rfl, hF7, hG7⟩, hF1, hb10⟩; rw [E1.out] at hF7 hG7 ⊢; rw [E2.out] at hF1 ⊢; rw [E3.out]; simp only at hF7 hG7))
 have HI : Aside0 (∃ ids, idsOf qs = ids) := ⟨_, rfl⟩
 obtain ⟨ids, hI⟩ := HI.out
 clear HI
 rw [hI] at SM
 have HI := Aside0.mk hI
 clear hI
 have q2 := ltb_of (g := g2) hb10
 refine wp_letter ?_
 intro w11 hb11
 have mixed : Tryz.prog.follows Departure.mixedOrders = true := by kernel_rfl
 have q3 := ltb_of (g := g2) hb11
 have q4 : LtB g2 w11.heap.size := inferInstance
 go_loopg [9, 31] G.length (fun kq v9 v31 w' => ∃ (i : Nat) (A' : Option Addr) (c' : Nat), v31 = .int .i64 i ∧ i ≤ G.length ∧ kq = G.length - i ∧ v9 = .slice A' i c' ∧ FrL k126 126 w' w11.heap.size (Under w'.heap.size) A' i c' ((G.take i).map (helloM id ids)) ∧ BelL w11 w')
 case atStart => exact ⟨0, none, 0, rfl, Nat.zero_le _, rfl, rfl, frl_nil, belL⟩
 case round =>
  obtain ⟨i, A', c', rfl, hi, rfl, rfl, hF, hbr⟩ := hrel
  by_cases hlt : i < G.length
  ·obtain ⟨ad, rfl, x0⟩ := el_I (W := wr) (A := A1) (n := G.length) (c := c1) (l := G) i hlt
   have HN := Aside0.mk (map_snoc (helloM id ids) hlt)
   generalize hM : (G.take i).map (helloM id ids) = M at hF HN
   clear hM
   generalize hy : G[i] = y at x0 HN
   clear hy
   go_upto_region 10 with fail
   go_region_law_o (first | (refine app_msg_step (t := 59) (u := wr.heap.size) (b := w11.heap.size) (A := A') (n := i) (c := c') (A3 := A9) (n3 := qs.length) (c3 := c9) (g := w9_.heap.size) (f0 := 0) (f1 := id) (f2 := y) (f4 := 0) (k := 0) (cc := 0) (wr := 0) (v := 0) (gn := false) (hs_ := false) (ids := ids) (by rfl) (by rfl) Tryz.underlying59 (by rfl) (by rfl) (by omega) ?_; intro A8 c8 w8 hFa8 hba8 hgr8) | (go_simp; (go_at_call 141; (with_reducible refine cM (ids_ (by omega)) ?_); rintro e w9_ ⟨A9, c9, rfl, hF9, hb9_⟩; rw [HI.out] at hF9)))
   all_goals
    have HX := Aside0.mk (show (G.take (i + 1)).map (helloM id ids) = M ++ [_] from HN.out)
    go_wp2
    go_roundg (G.length - (i + 1))
    case measure => omega
    case rel => exact ⟨i + 1, A8, c8, by go_num, by omega, rfl, rfl, by rw [HX.out]; exact frl, belL⟩
  ·obtain rfl : i = G.length := by omega
   rw [List.take_length] at hF
   have HM := Aside0.mk (show (G.map (helloM id ids)).length = G.length from List.length_map _)
   generalize G.map (helloM id ids) = M at hF SM HM
   generalize hsh : shareL ⟨id, qs, ys⟩ is = sh at SM L2
   have HSH := Aside0.mk hsh
   have HL := Aside0.mk (show (M ++ sh).length = G.length + sh.length by rw [List.length_append, HM.out])
   clear hsh
   go_upto_region 13 with (go_at_call 161; (with_reducible refine cM (shareOf_ HN2.out) ?_); rintro e w12 ⟨A12, c12, rfl, hF12, hb12⟩; rw [HSH.out] at hF12 ⊢)
   go_region_law_o (first | (refine app_own_step (k := k126) (t := 59) (u := wr.heap.size) (A := A') (n := G.length) (c := c') (B := A12) (m := sh.length) (d := c12) (by rfl) (by rfl) Tryz.underlying59 (by rfl) (by rfl) (by omega) ?_; intro A8 c8 w8 hFa8 hba8 hgr8))
   all_goals
    go_wp2
    exact bodyPost_ret (v := .tuple #[.agg #[.bool true, .int .i64 id, .slice A7 qs.length c7, .slice B7 ys.length d7, .slice I6 is.length ci6, .slice L6 ls.length cl6], .slice A8 (G.length + sh.length) c8, .int .i64 0]) (by simp [results, Tryz.results123, go_sem]) rfl ⟨_, A8, c8, by rw [SM.out, HL.out], ⟨_, _, _, _, _, _, _, _, rfl, frl, frl, frl, frl⟩, by rw [SM.out, HL.out]; exact frl, belL⟩
end
section
section
variable {α : Type} {f : α → Int}
def Rises (f : α → Int) (l : List α) : Prop := l.Pairwise fun a b => f a < f b
def ins (f : α → Int) (y : α) (l : List α) : List α := l.filter (fun a => decide (f a < f y)) ++ y :: l.filter (fun a => decide (f y < f a))
theorem Rises.tail {a : α} {l : List α} (h : Rises f (a :: l)) : Rises f l := (List.pairwise_cons.1 h).2
theorem ins_rises {y : α} {l : List α} (h : Rises f l) : Rises f (ins f y l) := by
 unfold Rises ins
 rw [List.pairwise_append]
 refine ⟨h.sublist List.filter_sublist, ?_, ?_⟩
 ·rw [List.pairwise_cons]
  refine ⟨fun a ha => ?_, h.sublist List.filter_sublist⟩
  have := (List.mem_filter.1 ha).2
  simpa using this
 ·intro a ha b hb
  have h1 := (List.mem_filter.1 ha).2
  simp only [decide_eq_true_eq] at h1
  rcases List.mem_cons.1 hb with rfl | hb
  ·exact h1
  ·have h2 := (List.mem_filter.1 hb).2
   simp only [decide_eq_true_eq] at h2
   omega
theorem mem_ins {y a : α} {l : List α} : a ∈ ins f y l ↔ a = y ∨ (a ∈ l ∧ f a ≠ f y) := by
 unfold ins
 rw [List.mem_append, List.mem_cons, List.mem_filter, List.mem_filter]
 simp only [decide_eq_true_eq]
 constructor
 ·rintro (⟨h, h2⟩ | rfl | ⟨h, h2⟩)
  ·exact .inr ⟨h, by omega⟩
  ·exact .inl rfl
  ·exact .inr ⟨h, by omega⟩
 ·rintro (rfl | ⟨h, h2⟩)
  ·exact .inr (.inl rfl)
  ·by_cases h3 : f a < f y
   ·exact .inl ⟨h, h3⟩
   ·exact .inr (.inr ⟨h, by omega⟩)
theorem filter_three (k : Int) : ∀ l : List α, (l.filter (fun a => decide (f a < k))).length + (l.filter (fun a => decide (k < f a))).length + (l.filter (fun a => decide (f a = k))).length = l.length
 | [] => rfl
 | a :: l => by
   have := filter_three k l
   simp only [List.filter_cons]
   by_cases h1 : f a < k
   ·have h2 : ¬ k < f a := by omega
    have h3 : ¬ f a = k := by omega
    simp only [h1, h2, h3, decide_true, decide_false, if_true, if_false, Bool.false_eq_true, List.length_cons]
    omega
   ·by_cases h2 : k < f a
    ·have h3 : ¬ f a = k := by omega
     simp only [h1, h2, h3, decide_true, decide_false, if_true, if_false, Bool.false_eq_true, List.length_cons]
     omega
    ·have h3 : f a = k := by omega
     simp only [h1, h2, h3, decide_true, decide_false, if_true, if_false, Bool.false_eq_true, List.length_cons]
     have h4 : ¬ k < k := by omega
     simp only [h4, decide_false, Bool.false_eq_true, if_false]
     omega
theorem ins_len {y : α} {l : List α} : (ins f y l).length ≤ l.length + 1 := by
 have := filter_three (f := f) (f y) l
 unfold ins
 rw [List.length_append, List.length_cons]
 omega
theorem ins_len_in {y b : α} {l : List α} (hb : b ∈ l) (e : f b = f y) : (ins f y l).length ≤ l.length := by
 have h := filter_three (f := f) (f y) l
 have hm : b ∈ l.filter (fun a => decide (f a = f y)) := List.mem_filter.2 ⟨hb, by simpa using e⟩
 have hp : 0 < (l.filter (fun a => decide (f a = f y))).length := List.length_pos_of_mem hm
 unfold ins
 rw [List.length_append, List.length_cons]
 omega
theorem rises_inj {l : List α} (h : Rises f l) {a b : α} (ha : a ∈ l) (hb : b ∈ l) (e : f a = f b) : a = b := by
 induction l with
 | nil => cases ha
 | cons c l ih =>
   have hc := (List.pairwise_cons.1 h).1
   rcases List.mem_cons.1 ha with h1 | h1
   ·rcases List.mem_cons.1 hb with h2 | h2
    ·rw [h1, h2]
    ·have := hc b h2
     rw [h1] at e
     omega
   ·rcases List.mem_cons.1 hb with h2 | h2
    ·have := hc a h1
     rw [h2] at e
     omega
    ·exact ih h.tail h1 h2
theorem take_count (k : Int) : ∀ {l : List α} (_ : Rises f l), l.take (l.countP fun a => decide (f a < k)) = l.filter (fun a => decide (f a < k)) ∧ l.drop (l.countP fun a => decide (f a < k)) = l.filter (fun a => decide (k ≤ f a))
 | [], _ => ⟨rfl, rfl⟩
 | a :: l, h => by
   have ih := take_count k h.tail
   have hc := (List.pairwise_cons.1 h).1
   by_cases h1 : f a < k
   ·have h2 : ¬ k ≤ f a := by omega
    rw [List.countP_cons_of_pos (by simpa using h1), List.take_succ_cons, List.drop_succ_cons, ih.1, ih.2, List.filter_cons_of_pos (by simpa using h1), List.filter_cons_of_neg (by simpa using h2)]
    exact ⟨rfl, rfl⟩
   ·have h2 : k ≤ f a := by omega
    have h3 : l.filter (fun a => decide (f a < k)) = [] := List.filter_eq_nil_iff.2 fun b hb => by have := hc b hb; simp; omega
    have h4 : l.filter (fun a => decide (k ≤ f a)) = l := List.filter_eq_self.2 fun b hb => by have := hc b hb; simp; omega
    have h5 : l.countP (fun a => decide (f a < k)) = 0 := by rw [List.countP_eq_length_filter, h3]; rfl
    rw [List.countP_cons_of_neg (by simpa using h1), h5, List.filter_cons_of_neg (by simpa using h1), List.filter_cons_of_pos (by simpa using h2), h3, h4]
    exact ⟨rfl, rfl⟩
theorem cnt_count (z : α) (k : Int) (l : List α) : cnt (fun i => cmpI (f (l.getD i z)) k) l.length = l.countP fun a => decide (f a < k) := by
 unfold cnt
 induction l with
 | nil => rfl
 | cons a l ih =>
   rw [List.length_cons, List.range_succ_eq_map, List.countP_cons, List.countP_map, List.countP_cons]
   congr 1
   simp only [List.getD_cons_zero]
   by_cases h : f a < k
   ·have := cmpI_neg.2 h
    simp [h, this]
   ·have : ¬ cmpI (f a) k < 0 := fun h2 => h (cmpI_neg.1 h2)
    simp [h, this]
theorem ins_new {y : α} {l : List α} (z : α) (h : Rises f l) (hn : ∀ a ∈ l, f a ≠ f y) : l.take (cnt (fun i => cmpI (f (l.getD i z)) (f y)) l.length) ++ y :: l.drop (cnt (fun i => cmpI (f (l.getD i z)) (f y)) l.length) = ins f y l := by
 rw [cnt_count, (take_count _ h).1, (take_count _ h).2]
 unfold ins
 congr 2
 refine List.filter_congr fun a ha => ?_
 have := hn a ha
 rw [decide_eq_decide]
 omega
theorem ins_set {y b : α} {l : List α} (z : α) (h : Rises f l) (hb : b ∈ l) (e : f b = f y) : l.set (cnt (fun i => cmpI (f (l.getD i z)) (f y)) l.length) y = ins f y l := by
 rw [cnt_count]
 unfold ins
 rw [← e]
 clear e
 induction l with
 | nil => cases hb
 | cons a l ih =>
   have hc := (List.pairwise_cons.1 h).1
   rcases List.mem_cons.1 hb with rfl | h1
   ·have h1 : ¬ f b < f b := by omega
    have h3 : l.filter (fun a => decide (f a < f b)) = [] := List.filter_eq_nil_iff.2 fun x hx => by have := hc x hx; simp; omega
    have h4 : l.filter (fun a => decide (f b < f a)) = l := List.filter_eq_self.2 fun x hx => by have := hc x hx; simp; omega
    have h5 : l.countP (fun a => decide (f a < f b)) = 0 := by rw [List.countP_eq_length_filter, h3]; rfl
    rw [List.countP_cons_of_neg (by simp), h5, List.filter_cons_of_neg (by simp), List.filter_cons_of_neg (by simp), h3, h4]
    rfl
   ·have h2 := hc b h1
    have h3 : ¬ f b < f a := by omega
    rw [List.countP_cons_of_pos (by simpa using h2), List.filter_cons_of_pos (by simpa using h2), List.filter_cons_of_neg (by simpa using h3), List.set_cons_succ, ih h.tail h1]
    rfl
theorem ins_same {b : α} {l : List α} (h : Rises f l) (hb : b ∈ l) : ins f b l = l := by
 unfold ins
 induction l with
 | nil => cases hb
 | cons a l ih =>
   have hc := (List.pairwise_cons.1 h).1
   rcases List.mem_cons.1 hb with rfl | h1
   ·have h3 : l.filter (fun a => decide (f a < f b)) = [] := List.filter_eq_nil_iff.2 fun x hx => by have := hc x hx; simp; omega
    have h4 : l.filter (fun a => decide (f b < f a)) = l := List.filter_eq_self.2 fun x hx => by have := hc x hx; simp; omega
    rw [List.filter_cons_of_neg (by simp), List.filter_cons_of_neg (by simp), h3, h4]
    rfl
   ·have h2 := hc b h1
    have h3 : ¬ f b < f a := by omega
    rw [List.filter_cons_of_pos (by simpa using h2), List.filter_cons_of_neg (by simpa using h3)]
    rw [List.cons_append, ih h.tail h1]
end
end
theorem farI_self (a : Int) : farI a a = 0 := by unfold farI; simp
theorem farI_pos {a b : Int} (ha : placeB a = true) (hb : placeB b = true) (h : b ≠ a) : 0 < farI a b := by
 rw [placeB_iff] at ha hb; unfold farI; omega
theorem peersB_iff {base : Int} {l : List S98} : peersB base l = true ↔ placeB base = true ∧ l.length ≤ 16 ∧ (∀ p ∈ l, placeB p.f0 = true ∧ 0 ≤ p.f1 ∧ p.f1 < 3 ∧ p.f0 ≠ base) ∧ Rises (fun p : S98 => farI base p.f0) l := by
 constructor
 ·intro h
  have hb := peersB_base h
  have hf := peersB_far h
  refine ⟨hb.1, hb.2, ?_, ?_⟩
  ·intro p hp
   obtain ⟨i, hi, rfl⟩ := List.getElem_of_mem hp
   have h2 := h
   unfold peersB at h2
   simp only [Bool.and_eq_true, List.all_eq_true, List.mem_range] at h2
   have h3 := h2.2 i hi
   unfold peerAt at h3
   rw [peer_getD hi] at h3
   simp only [Bool.and_eq_true, decide_eq_true_eq] at h3
   refine ⟨h3.1.1.1, h3.1.1.2, h3.1.2, fun e => ?_⟩
   rw [e, farI_self] at h3
   have h4 := h3.2
   unfold lastFar at h4
   split at h4
   ·omega
   ·unfold farI at h4; omega
  ·refine List.pairwise_iff_getElem.2 fun i j hi hj hij => ?_
   obtain ⟨d, rfl⟩ : ∃ d, j = i + d + 1 := ⟨j - i - 1, by omega⟩
   exact hf d i hj
 ·rintro ⟨h1, h2, h3, h4⟩
  unfold peersB
  simp only [Bool.and_eq_true, List.all_eq_true, List.mem_range, decide_eq_true_eq]
  refine ⟨⟨h1, h2⟩, fun i hi => ?_⟩
  obtain ⟨a, b, c, d⟩ := h3 l[i] (List.getElem_mem hi)
  refine peerAt_yes hi a (by omega) (by omega) ?_
  have hp := farI_pos h1 a d
  unfold lastFar
  split
  ·omega
  ·rw [peer_getD (by omega)]
   have := List.pairwise_iff_getElem.1 h4 (i - 1) i (by omega) hi (by omega)
   simp only at this
   omega
theorem passB_iff {l : List Int} : passB l = true ↔ l.length ≤ 16 ∧ (∀ x ∈ l, placeB x = true) ∧ Rises (fun x : Int => x) l := by
 constructor
 ·intro h
  refine ⟨passB_len h, fun x hx => ?_, ?_⟩
  ·obtain ⟨i, hi, rfl⟩ := List.getElem_of_mem hx
   exact (passB_at h hi).1
  ·exact List.pairwise_iff_getElem.2 fun i j hi hj hij => passB_lt' h hij hj
 ·rintro ⟨h1, h2, h3⟩
  unfold passB
  simp only [Bool.and_eq_true, List.all_eq_true, List.mem_range, decide_eq_true_eq]
  refine ⟨fun i hi => ?_, h1⟩
  refine passAt_of (by rw [getD_at hi]; exact h2 _ (List.getElem_mem hi)) ?_
  by_cases h0 : i = 0
  ·exact .inl h0
  ·right
   rw [getD_at hi, getD_at (by omega)]
   exact List.pairwise_iff_getElem.1 h3 (i - 1) i (by omega) hi (by omega)
structure VOk (id : Int) (ps : List S98) (xs : List Int) : Prop where
 hid : placeB id = true
 len : ps.length + xs.length ≤ 16
 p : ∀ p ∈ ps, placeB p.f0 = true ∧ 0 ≤ p.f1 ∧ p.f1 < 3 ∧ p.f0 ≠ id
 rp : Rises (fun p : S98 => farI id p.f0) ps
 x : ∀ x ∈ xs, placeB x = true ∧ x ≠ id ∧ ∀ p ∈ ps, p.f0 ≠ x
 rx : Rises (fun x : Int => x) xs
theorem knownB_iff {ps : List S98} {x : Int} : knownB ps x = true ↔ ∃ p ∈ ps, p.f0 = x := by
 unfold knownB; simp only [List.any_eq_true, beq_iff_eq]
theorem knownB_not {ps : List S98} {x : Int} : knownB ps x = false ↔ ∀ p ∈ ps, p.f0 ≠ x := by
 rw [Bool.eq_false_iff, Ne, knownB_iff]
 exact ⟨fun h p hp e => h ⟨p, hp, e⟩, fun h ⟨p, hp, e⟩ => h p hp e⟩
theorem memB_iff {xs : List Int} {x : Int} : memB xs x = true ↔ x ∈ xs := by
 unfold memB; simp only [List.any_eq_true, beq_iff_eq]
 exact ⟨fun ⟨y, hy, e⟩ => e ▸ hy, fun h => ⟨x, h, rfl⟩⟩
theorem viewB_iff {id : Int} {ps : List S98} {xs : List Int} : viewB id ps xs = true ↔ VOk id ps xs := by
 unfold viewB
 simp only [Bool.and_eq_true, decide_eq_true_eq, peersB_iff, passB_iff, Bool.not_eq_true', List.any_eq_false, Bool.or_eq_true, beq_iff_eq, not_or, Bool.not_eq_true, knownB_not]
 constructor
 ·rintro ⟨⟨⟨⟨a1, a2, a3, a4⟩, b1, b2, b3⟩, c⟩, d⟩
  exact ⟨a1, c, a3, a4, fun x hx => ⟨b2 x hx, (d x hx).1, (d x hx).2⟩, b3⟩
 ·rintro ⟨h1, h2, h3, h4, h5, h6⟩
  exact ⟨⟨⟨⟨h1, by omega, h3, h4⟩, by omega, fun x hx => (h5 x hx).1, h6⟩, h2⟩, fun x hx => (h5 x hx).2⟩
theorem VOk.peersB {id : Int} {ps : List S98} {xs : List Int} (h : VOk id ps xs) : peersB id ps = true := peersB_iff.2 ⟨h.hid, by have := h.len; omega, h.p, h.rp⟩
theorem VOk.passB {id : Int} {ps : List S98} {xs : List Int} (h : VOk id ps xs) : passB xs = true := passB_iff.2 ⟨by have := h.len; omega, fun x hx => (h.x x hx).1, h.rx⟩
def farK (id : Int) (p : S98) : Int := farI id p.f0
theorem heardL_eq {id x : Int} {ps : List S98} {xs : List Int} (h : VOk id ps xs) (hx : placeB x = true) (hn : x ≠ id) (hr : knownB ps x = true ∨ ps.length < 16) : heardL id ps x = ins (farK id) ⟨x, 0⟩ ps := by
 unfold heardL findN peerC
 have hid : (x == id) = false := by simpa using hn
 rw [h.peersB, hx, hid]
 simp only [Bool.not_false, Bool.and_self, if_true]
 split
 ·rename_i hk
  obtain ⟨p, hp, e⟩ := knownB_iff.1 hk
  have e2 : farK id p = farK id ⟨x, 0⟩ := by unfold farK; rw [e]
  have h1 := ins_set (f := farK id) (y := (⟨x, 0⟩ : S98)) z98 h.rp hp e2
  have h2 : (ps.getD (cnt (fun i => cmpI (farI id (ps.getD i z98).f0) (farI id x)) ps.length) z98).f0 = x := by
   obtain ⟨i, hi, hp2⟩ := List.getElem_of_mem hp
   have hm := peerC_mono h.peersB x
   have hz := findB_known h.peersB hx
   rw [hk] at hz
   have h3 := hz
   unfold hit at h3
   simp only [Bool.and_eq_true, decide_eq_true_eq, beq_iff_eq] at h3
   have h4 := cmpI_zero.1 h3.2
   have h5 : cnt (peerC id ps x) ps.length < ps.length := h3.1
   have h6 : placeB (ps.getD (cnt (peerC id ps x) ps.length) z98).f0 = true := by
    rw [peer_getD h5]; exact (h.p _ (List.getElem_mem h5)).1
   exact farI_inj h6 hx h4
  rw [h2]
  exact h1
 ·rename_i hk
  have hk2 := knownB_not.1 (by simpa using hk)
  have hl : ¬ ps.length = 16 := by rcases hr with h1 | h1; exact absurd h1 hk; omega
  rw [if_neg hl]
  refine ins_new (f := farK id) (y := (⟨x, 0⟩ : S98)) z98 h.rp fun p hp e => ?_
  exact hk2 p hp (farI_inj (h.p p hp).1 hx e)
theorem withoutL_eq {xs : List Int} {x : Int} (h : passB xs = true) (hx : placeB x = true) : withoutL xs x = xs.filter fun y => !(y == x) := by
 unfold withoutL withoutB; rw [h, hx]; rfl
theorem hear_ok {id x : Int} {ps : List S98} {xs : List Int} (h : VOk id ps xs) (hx : placeB x = true) (hn : x ≠ id) :
 VOk id (hearPs id ps xs x) (hearXs ps xs x) ∧
 ((knownB ps x = true ∨ x ∈ xs ∨ ps.length + xs.length < 16) → hearPs id ps xs x = ins (farK id) ⟨x, 0⟩ ps ∧ hearXs ps xs x = xs.filter fun y => !(y == x)) := by
 by_cases hr : (knownB ps x || memB xs x || decide (ps.length + xs.length < 16)) = true
 ·have hr2 : knownB ps x = true ∨ ps.length < 16 := by
   simp only [Bool.or_eq_true, decide_eq_true_eq, memB_iff] at hr
   rcases hr with (h1 | h1) | h1
   ·exact .inl h1
   ·right
    have := h.len
    have := List.length_pos_of_mem h1
    omega
   ·right; omega
  have e1 : hearPs id ps xs x = ins (farK id) ⟨x, 0⟩ ps := by unfold hearPs; rw [if_pos hr]; exact heardL_eq h hx hn hr2
  have e2 : hearXs ps xs x = xs.filter fun y => !(y == x) := by unfold hearXs; rw [if_pos hr]; exact withoutL_eq h.passB hx
  refine ⟨?_, fun _ => ⟨e1, e2⟩⟩
  rw [e1, e2]
  have hpx : ∀ p ∈ ps, farK id p ≠ farK id ⟨x, 0⟩ ↔ p.f0 ≠ x := fun p hp => not_congr ⟨fun e => farI_inj (h.p p hp).1 hx e, fun e => by unfold farK; rw [e]⟩
  refine ⟨h.hid, ?_, ?_, ins_rises h.rp, ?_, h.rx.sublist List.filter_sublist⟩
  ·have h16 := h.len
   have hfl := List.length_filter_le (fun y => !(y == x)) xs
   have hil := ins_len (f := farK id) (y := (⟨x, 0⟩ : S98)) (l := ps)
   simp only [Bool.or_eq_true, decide_eq_true_eq, memB_iff] at hr
   rcases hr with (h1 | h1) | h1
   ·obtain ⟨p, hp, e⟩ := knownB_iff.1 h1
    have := ins_len_in (f := farK id) (y := (⟨x, 0⟩ : S98)) hp (by unfold farK; rw [e])
    omega
   ·have : (xs.filter fun y => !(y == x)).length < xs.length := List.length_filter_lt_length_iff_exists.2 ⟨x, h1, by simp⟩
    omega
   ·omega
  ·intro p hp
   rcases mem_ins.1 hp with rfl | ⟨h1, h2⟩
   ·exact ⟨hx, Int.le_refl 0, (by show (0 : Int) < 3; decide), hn⟩
   ·exact h.p p h1
  ·intro y hy
   obtain ⟨h1, h2⟩ := List.mem_filter.1 hy
   refine ⟨(h.x y h1).1, (h.x y h1).2.1, fun p hp e => ?_⟩
   rcases mem_ins.1 hp with rfl | ⟨h3, h4⟩
   ·simp only at e; subst e; simp at h2
   ·exact (h.x y h1).2.2 p h3 e
 ·have e1 : hearPs id ps xs x = ps := by unfold hearPs; rw [if_neg hr]
  have e2 : hearXs ps xs x = xs := by unfold hearXs; rw [if_neg hr]
  rw [e1, e2]
  refine ⟨h, fun h2 => absurd ?_ hr⟩
  simp only [Bool.or_eq_true, decide_eq_true_eq, memB_iff]
  rcases h2 with h2 | h2 | h2
  ·exact .inl (.inl h2)
  ·exact .inl (.inr h2)
  ·exact .inr h2
theorem hearStep_ok {id x : Int} {s : List S98 × List Int} (h : VOk id s.1 s.2) (hx : placeB x = true) : VOk id (hearStep id s x).1 (hearStep id s x).2 := by
 unfold hearStep
 split
 ·exact h
 ·rename_i hc
  exact (hear_ok h hx (fun e => hc (by simp [e]))).1
theorem hearMany_ok {id : Int} {ids : List Int} : ∀ {s : List S98 × List Int} (_ : VOk id s.1 s.2) (_ : ∀ x ∈ ids, placeB x = true), VOk id (hearMany id s ids).1 (hearMany id s ids).2 := by
 induction ids with
 | nil => exact fun h _ => h
 | cons y ys ih => exact fun h hx => ih (hearStep_ok h (hx y (List.mem_cons_self ..))) (fun x hm => hx x (List.mem_cons_of_mem _ hm))
theorem HearOk_of {id : Int} {s : List S98 × List Int} (h : VOk id s.1 s.2) : HearOk id s := ⟨h.peersB, h.len⟩
theorem takeB_iff {v : S25} {frm : Int} {ids : List Int} : takeB v frm ids = true ↔ VOk v.f0 v.f1 v.f2 ∧ placeB frm = true ∧ frm ≠ v.f0 ∧ ids.length ≤ 16 ∧ ∀ x ∈ ids, placeB x = true := by
 unfold takeB placesB
 simp only [Bool.and_eq_true, viewB_iff, Bool.not_eq_true', beq_eq_false_iff_ne, decide_eq_true_eq, List.all_eq_true, and_assoc]
theorem takeS_ok {v : S25} {frm : Int} {ids : List Int} (h : takeB v frm ids = true) : VOk v.f0 (takeS v frm ids).1 (takeS v frm ids).2 := by
 obtain ⟨h1, h2, h3, h4, h5⟩ := takeB_iff.1 h
 exact hearMany_ok (s := hear1 v.f0 (v.f1, v.f2) frm) (hear_ok h1 h2 h3).1 h5
theorem take_HI {v : S25} {frm : Int} {ids : List Int} (h : takeB v frm ids = true) (i : Nat) : HearOk v.f0 (hearMany v.f0 (hear1 v.f0 (v.f1, v.f2) frm) (ids.take i)) := by
 obtain ⟨h1, h2, h3, h4, h5⟩ := takeB_iff.1 h
 exact HearOk_of (hearMany_ok (s := hear1 v.f0 (v.f1, v.f2) frm) (hear_ok h1 h2 h3).1 (fun x hx => h5 x (List.mem_of_mem_take hx)))
theorem take_ {id frm : Int} {A B C : Option Addr} {n c m d k f : Nat} {ps : List S98} {xs ids : List Int} {w : World} [h : Sr k98 w A n c ps] [g : Sr kI w B m d xs] [q : Sr kI w C k f ids] :
 Calls Tryz.prog 10 #[.agg #[.int .i64 id, .slice A n c, .slice B m d], .int .i64 frm, .slice C k f] w fun e w' => ∃ v, e = .returned (.tuple #[v, .int .i64 (takeE ⟨id, ps, xs⟩ frm ids)]) ∧ ViewR w' w.heap.size v (takeV ⟨id, ps, xs⟩ frm ids) ∧ BelL w w' := by
 cases h1 : viewB id ps xs
 ·exact take_a h1
 cases h2 : placeB frm
 ·exact take_b h1 h2
 by_cases h3 : frm = id
 ·exact take_c h1 h2 h3.symm
 by_cases h4 : ids.length ≤ 16
 ·cases h5 : placesB ids
  ·exact take_e h1 h2 h3 h4 h5
  ·refine take_f h1 h2 h3 h4 h5 ⟨fun i hi => ?_⟩
   refine take_HI (v := ⟨id, ps, xs⟩) (frm := frm) ?_ i
   unfold takeB
   simp [h1, h2, h3, h4, h5]
 ·exact take_d h1 h2 h3 h4
end Go.Proofs.YtljipbmmgcccnaaGreat.T
end
