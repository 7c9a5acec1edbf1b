/- Words and lemmas that the claim's proof names, part 11: what the program's functions answer, at the inputs that each theorem's premises name. Conditions: each theorem's own premises. -/
import Derived.Test.YtljipbmmgcccnaaGreatKP10
section
namespace Go.Proofs.YtljipbmmgcccnaaGreat.T
open Go.RowKit Go.Proofs.YtljipbmmgcccnaaGreatW.PrintWords Go.Proofs.YtljipbmmgcccnaaGreatW.PrintLast Go.Proofs.YtljipbmmgcccnaaGreatW.PrintMore
attribute [local go_sem] cell_tc frozen_tc max2_int min2_int
attribute [local go_sem ↓] Go.wp_at_zero Go.wp_at_succ
set_option linter.unusedVariables false
set_option linter.unusedSimpArgs false
set_option synthInstance.maxHeartbeats 400000
set_option synthInstance.maxSize 512
section
attribute [local go_sem] cell_tc2
def LogIs (W : World) (b : Nat) (S : Nat → Prop) (A : Option Addr) (xs : List S77) : Prop :=
 ∃ A0 n0 c0 ys i, A = Option.map (fun a => Addr.add a (i * 3)) A0 ∧ xs = ys.drop i ∧ i ≤ ys.length ∧ k77.R 77 W b S (.slice A0 n0 c0) ys
class LgL (W : World) (b : outParam Nat) (S : outParam (Nat → Prop)) (A : Option Addr) (n c : Nat) (xs : outParam (List S77)) : Prop where mk' :: (len : xs.length = n) (le : n ≤ c) (out : LogIs W b S A xs)
class Lg (W : World) (b : outParam Nat) (S : outParam (Nat → Prop)) (A : Option Addr) (n c : Nat) (xs : outParam (List S77)) : Prop where mk' :: (len : xs.length = n) (le : n ≤ c) (out : LogIs W b S A xs)
section
variable {W W1 : World} {b : Nat} {S : Nat → Prop} {A : Option Addr} {n c : Nat} {xs : List S77}
theorem LogIs.below (h : LogIs W1 b S A xs) (hb : Below W1.heap.size W1 W) : LogIs W b S A xs := by
 obtain ⟨A0, n0, c0, ys, i, h1, h2, h3, h4⟩ := h
 exact ⟨A0, n0, c0, ys, i, h1, h2, h3, Kd.R_below h4 hb⟩
instance lg_here [h : LgL W b S A n c xs] : Lg W b S A n c xs := ⟨h.len, h.le, h.out⟩
instance lg_alloc {o : Obj} [h : Lg W b S A n c xs] : Lg (W.alloc o) b S A n c xs := ⟨h.len, h.le, h.out.below (below_alloc (Below.refl _ _) o)⟩
instance lg_drewN {m : Nat} [h : Lg W b S A n c xs] : Lg (W.drewN m) b S A n c xs := ⟨h.len, h.le, h.out.below (pw_below_drewN (Below.refl _ _) m)⟩
instance lg_drew [h : Lg W b S A n c xs] : Lg W.drew b S A n c xs := ⟨h.len, h.le, h.out.below (below_drew1 (Below.refl _ _))⟩
instance lg_step [g : BelL W1 W] [h : Lg W1 b S A n c xs] : Lg W b S A n c xs := ⟨h.len, h.le, h.out.below g.out⟩
instance lg_set {g j : Nat} {u : Value} [h : Lg W b S A n c xs] [l : Avoid g b S] : Lg (W.setCell ⟨g, j, none⟩ u) b S A n c xs := ⟨h.len, h.le, by
 obtain ⟨A0, n0, c0, ys, i, h1, h2, h3, h4⟩ := h.out
 exact ⟨A0, n0, c0, ys, i, h1, h2, h3, R_farB h4 l j u⟩⟩
theorem lgl [h : Lg W b S A n c xs] {b' : Nat} [l : LeB b' b] : LgL W b' (Under W.heap.size) A n c xs := ⟨h.len, h.le, by
 obtain ⟨A0, n0, c0, ys, i, h1, h2, h3, h4⟩ := h.out
 exact ⟨A0, n0, c0, ys, i, h1, h2, h3, Kd.R_mono (Kd.R_lower (Kd.R_bound h4) l.out) (fun _ hk => hk.2.2.1)⟩⟩
theorem lgl_fr [h : Fr k77 77 W b S A n c xs] {b' m : Nat} {ys : List S77} [l : LeB b' b] (hm : n = m) (hy : xs = ys) : LgL W b' (Under W.heap.size) A m c ys := by
 subst hm hy
 exact ⟨h.len, h.le, by
 refine ⟨A, n, c, xs, 0, ?_, rfl, Nat.zero_le _, Kd.R_mono (Kd.R_lower (Kd.R_bound h.R) l.out) (fun _ hk => hk.2.2.1)⟩
 rcases fr_nonzero h with ⟨rfl, _⟩ | ⟨g, rfl⟩
 ·rfl
 ·show some _ = some _
  simp only [Addr.add_lit, Nat.zero_mul, Nat.zero_add]⟩
theorem lgl_drop {g : Nat} (i : Nat) [h : Fr k77 77 W b S (some ⟨g, 0, none⟩) n c xs] (hi : i ≤ n) {b' : Nat} [l : LeB b' b] : LgL W b' (Under W.heap.size) (some ⟨g, i * 3, none⟩) (n - i) (c - i) (xs.drop i) := ⟨by rw [List.length_drop, h.len], by have := h.le; omega, by
 refine ⟨_, n, c, xs, i, ?_, rfl, by rw [h.len]; exact hi, Kd.R_mono (Kd.R_lower (Kd.R_bound h.R) l.out) (fun _ hk => hk.2.2.1)⟩
 show some _ = some _
 simp only [Addr.add_lit, Nat.zero_add]⟩
end
def NodeQ (w' : World) (b : Nat) (v : Value) (x : S40) : Prop := ∃ A c B d I ci L cl, v = .agg #[.bool x.f0, .int .i64 x.f1.f0, .slice A x.f1.f1.length c, .slice B x.f1.f2.length d, .slice I x.f2.length ci, .slice L x.f3.length cl] ∧
 FrL k98 98 w' b (Under w'.heap.size) A x.f1.f1.length c x.f1.f1 ∧ FrL kI 3 w' b (Under w'.heap.size) B x.f1.f2.length d x.f1.f2 ∧ FrL k48 48 w' b (Under w'.heap.size) I x.f2.length ci x.f2 ∧ LgL w' b (Under w'.heap.size) L x.f3.length cl x.f3
section
variable {ops : Array Oper} {rest : List Oper} {o : Oper} {a : Act} {Q : Exit → Act → World → Prop} {α : Type}
theorem app_gap {k : Kd α} {e b u : Nat} {W : World} {A B : Option Addr} {n c m d : Nat} {xs ys : List α} {s x : Operand} {t : Nat}
 (hgd : o.guard = none) (ho : o.op = .call { callee := .builtin .append, args := #[s, x], argTypes := #[t, t] }) (ht : Tryz.prog.underlying t = some (.slice e)) (hs : a.eval s = .slice A n c) (hx : a.eval x = .slice B m d)
 [he : ElT k e] [hf : Flat k] [h : Fr k e W b (Under u) A n c xs] [HR : Sr k W B m d ys] [hb : LeB b W.heap.size] (hl : n + m ≤ 1000000)
 (hk : ∀ A' c' w1, FrL k e w1 b (Gap u W.heap.size) A' (n + m) c' (xs ++ ys) → BbL b W w1 → GrL e W w1 → wpList Tryz.prog ops Q rest (a.put o.dst (.slice A' (n + m) c')) w1) : wpList Tryz.prog ops Q (o :: rest) a W := by
 obtain ⟨z, bytes, hi, hz, hs0, hb0, hb1⟩ := he.out
 have hlen := h.len
 have hm : ys.length = m := HR.C.1
 refine Kd.R_append_rows k (w0 := W) b hgd s x t e z bytes ho ht hi hz hs0 hb0 (.slice A n c) xs ys B m d (Gap u W.heap.size) (fun _ => False) hs hx (Kd.R_mono h.R (fun j hj => .inl hj)) HR.C (fun x cs hx => hf.out _ _ _ _ _ hx) (fun j hj => hj.elim) (fun j hj => .inr hj) (Below.mono (Below.refl _ _) hb.out) hb.out ?_ ?_
 ·have : (xs.length + m) * bytes ≤ 1000000 * 112 := Nat.mul_le_mul (by omega) hb1
  omega
 ·intro v1 w1 hR hB hg _
  obtain ⟨A', c', rfl, hc', _⟩ := Kd.R_reads hR
  have e1 : (xs ++ ys).length = n + m := by rw [List.length_append]; omega
  rw [e1] at hR hc' ⊢
  exact hk A' c' w1 ⟨e1, hc', hR⟩ (bb_of_grown h.any hb.out hg) ⟨_, hg, fun j hj => Kd.R_typed h.any j hj⟩
end
def noteT (key : Int) (i : S48) (has : Bool) : S77 := if has && !i.f3 then ⟨key, true, i.f2⟩ else ⟨key, false, 0⟩
def noteL (ls : List S77) (x : S77) : List S77 := (ls ++ [x]).drop (ls.length + 1 - 64)
theorem noteL_len (ls : List S77) (x : S77) : (noteL ls x).length = ls.length + 1 - (ls.length + 1 - 64) := by unfold noteL; rw [List.length_drop, List.length_append]; rfl
theorem run_max64 (a : Int) (ty : TypeId) (W : World) : (Builtin.max_ #[3, 3] ty #[.int .i64 a, .int .i64 0]).run Tryz.prog W = .ok (.int .i64 (max a 0)) W := by
 simp [Builtin.max_, Builtin.max2, go_sem]
 by_cases h : a < 0
 ·rw [if_pos h, Int.max_eq_right (by omega)]
 ·rw [if_neg h, Int.max_eq_left (by omega)]
set_option maxRecDepth 100000 in
set_option maxHeartbeats 8000000 in
theorem note_ {id k ik ic ix iv : Int} {ig q : Bool} {A B I L : Option Addr} {n c m d ni ci nl cl : Nat} {ps : List S98} {xs : List Int} {is : List S48} {ls : List S77} {w : World} [h1 : Sr k98 w A n c ps] [h2 : Sr kI w B m d xs] [h3 : Sr k48 w I ni ci is] [h4 : Sr k77 w L nl cl ls] (hn : nodeB ⟨true, ⟨id, ps, xs⟩, is, ls⟩ = true) :
 Calls Tryz.prog 173 #[.agg #[.bool true, .int .i64 id, .slice A n c, .slice B m d, .slice I ni ci, .slice L nl cl], .int .i64 k, .agg #[.int .i64 ik, .int .i64 ic, .int .i64 ix, .int .i64 iv, .bool ig], .bool q] w fun e w' => ∃ v', e = .returned v' ∧ NodeQ w' w.heap.size v' ⟨true, ⟨id, ps, xs⟩, is, noteL ls (noteT k ⟨ik, ⟨ic, ix⟩, iv, ig⟩ q)⟩ ∧ BelL w w' := by
 obtain rfl := h1.len
 obtain rfl := h2.len
 obtain rfl := h3.len
 obtain rfl := h4.len
 have s1 := sr_l h1
 have s2 := sr_l h2
 have s3 := sr_l h3
 have s4 := sr_l h4
 clear h1 h2 h3 h4
 have hb := nodeB_small hn
 have hl : ls.length ≤ 64 := by unfold nodeB at hn; simp only [Bool.and_eq_true, decide_eq_true_eq] at hn; exact hn.1.2
 have hT : ∃ T : S77, noteT k ⟨ik, ⟨ic, ix⟩, iv, ig⟩ q = T := ⟨_, rfl⟩
 obtain ⟨T, hT⟩ := hT
 rw [hT]
 have NL := Aside0.mk (noteL_len ls T)
 have e1 : IntKind.i64.wrap ((ls.length : Int) + 1 - 64) = (ls.length : Int) + 1 - 64 := by rw [IntKind.wrap_i64]; omega
 have hmax := fun ty W => run_max64 ((ls.length : Int) + 1 - 64) ty W
 by_cases h64 : ls.length = 64
 ·have e2 : max ((ls.length : Int) + 1 - 64) 0 = 1 := by omega
  have e3 : noteL ls T = (ls ++ [T]).drop 1 := by unfold noteL; rw [show ls.length + 1 - 64 = 1 by omega]
  rw [e2] at hmax
  have E3 := Aside0.mk e3
  clear e3 e2
  have l64 : 64 ≤ ls.length := by omega
  clear h64
  cases q
  ·have HT := Aside0.mk (show T = ⟨k, false, 0⟩ by rw [← hT]; rfl)
   clear hT
   go_enter Tryz.func173, Tryz.ntmps173
   go_upto_region 6 with (first | (with_reducible refine box_tc rfl (N := 4) rfl (cs := #[.bool true, .int .i64 id, .slice A ps.length c, .slice B xs.length d, .slice I is.length ci, .slice L ls.length cl]) (t := 40) ?hr ?_; (case hr => go_simp <;> rfl); intro g4 wg4 _ _ _) | (with_reducible refine box_tc rfl (N := 6) rfl (cs := #[.int .i64 ik, .int .i64 ic, .int .i64 ix, .int .i64 iv, .bool ig]) (t := 48) ?hr ?_; (case hr => go_simp <;> rfl); intro g6 wg6 _ _ _) | (with_reducible refine box_tc rfl (N := 8) rfl (cs := #[.bool false, .int .i64 0, .slice none 0 0, .slice none 0 0, .slice none 0 0, .slice none 0 0]) (t := 40) ?hr ?_; (case hr => go_simp <;> rfl); intro g8 wg8 _ _ _) | (with_reducible refine box_tc rfl (N := 9) rfl (cs := #[.bool false, .int .i64 0, .slice none 0 0, .slice none 0 0, .slice none 0 0, .slice none 0 0]) (t := 40) ?hr ?_; (case hr => go_simp <;> rfl); intro g9 wg9 _ _ _) | (with_reducible refine box_tc rfl (N := 10) rfl (cs := #[.int .i64 0, .bool false, .int .i64 0]) (t := 77) ?hr ?_; (case hr => go_simp <;> rfl); intro g10 wg10 _ _ _) | (go_at_call 58; (with_reducible refine cM (nodeCopy_ hb) ?_); rintro e w9 ⟨v9, rfl, ⟨A6, c6, B6, d6, I6, ci6, L6, cl6, rfl, hF6, hG6, hH6, hK6⟩, hb9⟩) | (with_reducible refine lit_tc rfl (N := 28) rfl (cs := #[.int .i64 k, .bool false, .int .i64 0]) (t := 77) (m := 1) ?hr ?_; (case hr => go_simp <;> rfl); intro g28 wg28 k28 hb28 hg28; have k9 : BlkL wg28 g9 #[.bool true, .int .i64 id, .slice A6 ps.length c6, .slice B6 xs.length d6, .slice I6 is.length ci6, .slice L6 ls.length cl6] 40 := blkL; have b9 : BelL w9 wg28 := belL; have hg28b : GEL w9 g28 := ⟨GE.out⟩; clear hb28 hg28) | ((with_reducible refine gate_dst (N := 29) rfl ?_); refine app_gap (k := k77) (u := w9.heap.size) (t := 38) (A := L6) (n := ls.length) (c := cl6) (B := some ⟨g28, 0, none⟩) (m := 1) (d := 1) (by rfl) (by rfl) Tryz.underlying38 (by rfl) (by rfl) (by omega) ?_; intro A8 c8 w8 hFE _ _))
   obtain ⟨ge, rfl, hrow, hgb⟩ := fr_form hFE (by omega)
   have hcap := hFE.le
   have hcap2 : 1 < c8 := by omega
   have hcap3 : (c8 == 1) = false := by simp; omega
   go_wp2
   have hLN := Aside0.mk (show (noteL ls T).length = ls.length + 1 - 1 by rw [NL.out]; omega)
   have hi1 : 1 ≤ ls.length + 1 := by omega
   have E4 := Aside0.mk (show noteL ls T = (ls ++ [(⟨k, false, 0⟩ : S77)]).drop 1 by rw [E3.out, HT.out])
   exact bodyPost_ret (v := .agg #[.bool true, .int .i64 id, .slice A6 ps.length c6, .slice B6 xs.length d6, .slice I6 is.length ci6, .slice (some ⟨ge, 3, none⟩) (ls.length + 1 - 1) (c8 - 1)]) (by simp [results, Tryz.results173, go_sem]) rfl ⟨_, rfl, ⟨A6, c6, B6, d6, I6, ci6, some ⟨ge, 3, none⟩, c8 - 1, by rw [hLN.out], frl, frl, frl, by rw [hLN.out, E4.out]; exact lgl_drop 1 hi1⟩, belL⟩
  ·cases ig
   ·have HT := Aside0.mk (show T = ⟨k, true, iv⟩ by rw [← hT]; rfl)
    clear hT
    go_enter Tryz.func173, Tryz.ntmps173
    go_upto_region 4 with (first | (with_reducible refine box_tc rfl (N := 4) rfl (cs := #[.bool true, .int .i64 id, .slice A ps.length c, .slice B xs.length d, .slice I is.length ci, .slice L ls.length cl]) (t := 40) ?hr ?_; (case hr => go_simp <;> rfl); intro g4 wg4 _ _ _) | (with_reducible refine box_tc rfl (N := 6) rfl (cs := #[.int .i64 ik, .int .i64 ic, .int .i64 ix, .int .i64 iv, .bool false]) (t := 48) ?hr ?_; (case hr => go_simp <;> rfl); intro g6 wg6 _ _ _) | (with_reducible refine box_tc rfl (N := 8) rfl (cs := #[.bool false, .int .i64 0, .slice none 0 0, .slice none 0 0, .slice none 0 0, .slice none 0 0]) (t := 40) ?hr ?_; (case hr => go_simp <;> rfl); intro g8 wg8 _ _ _) | (with_reducible refine box_tc rfl (N := 9) rfl (cs := #[.bool false, .int .i64 0, .slice none 0 0, .slice none 0 0, .slice none 0 0, .slice none 0 0]) (t := 40) ?hr ?_; (case hr => go_simp <;> rfl); intro g9 wg9 _ _ _) | (with_reducible refine box_tc rfl (N := 10) rfl (cs := #[.int .i64 0, .bool false, .int .i64 0]) (t := 77) ?hr ?_; (case hr => go_simp <;> rfl); intro g10 wg10 _ _ _) | (go_at_call 58; (with_reducible refine cM (nodeCopy_ hb) ?_); rintro e w9 ⟨v9, rfl, ⟨A6, c6, B6, d6, I6, ci6, L6, cl6, rfl, hF6, hG6, hH6, hK6⟩, hb9⟩) | (with_reducible refine lit_tc rfl (N := 28) rfl (cs := #[.int .i64 k, .bool true, .int .i64 iv]) (t := 77) (m := 1) ?hr ?_; (case hr => go_simp <;> rfl); intro g28 wg28 k28 hb28 hg28; have k9 : BlkL wg28 g9 #[.bool true, .int .i64 id, .slice A6 ps.length c6, .slice B6 xs.length d6, .slice I6 is.length ci6, .slice L6 ls.length cl6] 40 := blkL; have b9 : BelL w9 wg28 := belL; have hg28b : GEL w9 g28 := ⟨GE.out⟩; clear hb28 hg28) | ((with_reducible refine gate_dst (N := 29) rfl ?_); refine app_gap (k := k77) (u := w9.heap.size) (t := 38) (A := L6) (n := ls.length) (c := cl6) (B := some ⟨g28, 0, none⟩) (m := 1) (d := 1) (by rfl) (by rfl) Tryz.underlying38 (by rfl) (by rfl) (by omega) ?_; intro A8 c8 w8 hFE _ _))
    go_region_with fail
    all_goals
     go_upto_region 6 with (first | (with_reducible refine box_tc rfl (N := 4) rfl (cs := #[.bool true, .int .i64 id, .slice A ps.length c, .slice B xs.length d, .slice I is.length ci, .slice L ls.length cl]) (t := 40) ?hr ?_; (case hr => go_simp <;> rfl); intro g4 wg4 _ _ _) | (with_reducible refine box_tc rfl (N := 6) rfl (cs := #[.int .i64 ik, .int .i64 ic, .int .i64 ix, .int .i64 iv, .bool false]) (t := 48) ?hr ?_; (case hr => go_simp <;> rfl); intro g6 wg6 _ _ _) | (with_reducible refine box_tc rfl (N := 8) rfl (cs := #[.bool false, .int .i64 0, .slice none 0 0, .slice none 0 0, .slice none 0 0, .slice none 0 0]) (t := 40) ?hr ?_; (case hr => go_simp <;> rfl); intro g8 wg8 _ _ _) | (with_reducible refine box_tc rfl (N := 9) rfl (cs := #[.bool false, .int .i64 0, .slice none 0 0, .slice none 0 0, .slice none 0 0, .slice none 0 0]) (t := 40) ?hr ?_; (case hr => go_simp <;> rfl); intro g9 wg9 _ _ _) | (with_reducible refine box_tc rfl (N := 10) rfl (cs := #[.int .i64 0, .bool false, .int .i64 0]) (t := 77) ?hr ?_; (case hr => go_simp <;> rfl); intro g10 wg10 _ _ _) | (go_at_call 58; (with_reducible refine cM (nodeCopy_ hb) ?_); rintro e w9 ⟨v9, rfl, ⟨A6, c6, B6, d6, I6, ci6, L6, cl6, rfl, hF6, hG6, hH6, hK6⟩, hb9⟩) | (with_reducible refine lit_tc rfl (N := 28) rfl (cs := #[.int .i64 k, .bool true, .int .i64 iv]) (t := 77) (m := 1) ?hr ?_; (case hr => go_simp <;> rfl); intro g28 wg28 k28 hb28 hg28; have k9 : BlkL wg28 g9 #[.bool true, .int .i64 id, .slice A6 ps.length c6, .slice B6 xs.length d6, .slice I6 is.length ci6, .slice L6 ls.length cl6] 40 := blkL; have b9 : BelL w9 wg28 := belL; have hg28b : GEL w9 g28 := ⟨GE.out⟩; clear hb28 hg28) | ((with_reducible refine gate_dst (N := 29) rfl ?_); refine app_gap (k := k77) (u := w9.heap.size) (t := 38) (A := L6) (n := ls.length) (c := cl6) (B := some ⟨g28, 0, none⟩) (m := 1) (d := 1) (by rfl) (by rfl) Tryz.underlying38 (by rfl) (by rfl) (by omega) ?_; intro A8 c8 w8 hFE _ _))
     obtain ⟨ge, rfl, hrow, hgb⟩ := fr_form hFE (by omega)
     have hcap := hFE.le
     have hcap2 : 1 < c8 := by omega
     have hcap3 : (c8 == 1) = false := by simp; omega
     go_wp2
     have hLN := Aside0.mk (show (noteL ls T).length = ls.length + 1 - 1 by rw [NL.out]; omega)
     have hi1 : 1 ≤ ls.length + 1 := by omega
     have E4 := Aside0.mk (show noteL ls T = (ls ++ [(⟨k, true, iv⟩ : S77)]).drop 1 by rw [E3.out, HT.out])
     exact bodyPost_ret (v := .agg #[.bool true, .int .i64 id, .slice A6 ps.length c6, .slice B6 xs.length d6, .slice I6 is.length ci6, .slice (some ⟨ge, 3, none⟩) (ls.length + 1 - 1) (c8 - 1)]) (by simp [results, Tryz.results173, go_sem]) rfl ⟨_, rfl, ⟨A6, c6, B6, d6, I6, ci6, some ⟨ge, 3, none⟩, c8 - 1, by rw [hLN.out], frl, frl, frl, by rw [hLN.out, E4.out]; exact lgl_drop 1 hi1⟩, belL⟩
   ·have HT := Aside0.mk (show T = ⟨k, false, 0⟩ by rw [← hT]; rfl)
    clear hT
    go_enter Tryz.func173, Tryz.ntmps173
    go_upto_region 6 with (first | (with_reducible refine box_tc rfl (N := 4) rfl (cs := #[.bool true, .int .i64 id, .slice A ps.length c, .slice B xs.length d, .slice I is.length ci, .slice L ls.length cl]) (t := 40) ?hr ?_; (case hr => go_simp <;> rfl); intro g4 wg4 _ _ _) | (with_reducible refine box_tc rfl (N := 6) rfl (cs := #[.int .i64 ik, .int .i64 ic, .int .i64 ix, .int .i64 iv, .bool true]) (t := 48) ?hr ?_; (case hr => go_simp <;> rfl); intro g6 wg6 _ _ _) | (with_reducible refine box_tc rfl (N := 8) rfl (cs := #[.bool false, .int .i64 0, .slice none 0 0, .slice none 0 0, .slice none 0 0, .slice none 0 0]) (t := 40) ?hr ?_; (case hr => go_simp <;> rfl); intro g8 wg8 _ _ _) | (with_reducible refine box_tc rfl (N := 9) rfl (cs := #[.bool false, .int .i64 0, .slice none 0 0, .slice none 0 0, .slice none 0 0, .slice none 0 0]) (t := 40) ?hr ?_; (case hr => go_simp <;> rfl); intro g9 wg9 _ _ _) | (with_reducible refine box_tc rfl (N := 10) rfl (cs := #[.int .i64 0, .bool false, .int .i64 0]) (t := 77) ?hr ?_; (case hr => go_simp <;> rfl); intro g10 wg10 _ _ _) | (go_at_call 58; (with_reducible refine cM (nodeCopy_ hb) ?_); rintro e w9 ⟨v9, rfl, ⟨A6, c6, B6, d6, I6, ci6, L6, cl6, rfl, hF6, hG6, hH6, hK6⟩, hb9⟩) | (with_reducible refine lit_tc rfl (N := 28) rfl (cs := #[.int .i64 k, .bool false, .int .i64 0]) (t := 77) (m := 1) ?hr ?_; (case hr => go_simp <;> rfl); intro g28 wg28 k28 hb28 hg28; have k9 : BlkL wg28 g9 #[.bool true, .int .i64 id, .slice A6 ps.length c6, .slice B6 xs.length d6, .slice I6 is.length ci6, .slice L6 ls.length cl6] 40 := blkL; have b9 : BelL w9 wg28 := belL; have hg28b : GEL w9 g28 := ⟨GE.out⟩; clear hb28 hg28) | ((with_reducible refine gate_dst (N := 29) rfl ?_); refine app_gap (k := k77) (u := w9.heap.size) (t := 38) (A := L6) (n := ls.length) (c := cl6) (B := some ⟨g28, 0, none⟩) (m := 1) (d := 1) (by rfl) (by rfl) Tryz.underlying38 (by rfl) (by rfl) (by omega) ?_; intro A8 c8 w8 hFE _ _))
    obtain ⟨ge, rfl, hrow, hgb⟩ := fr_form hFE (by omega)
    have hcap := hFE.le
    have hcap2 : 1 < c8 := by omega
    have hcap3 : (c8 == 1) = false := by simp; omega
    go_wp2
    have hLN := Aside0.mk (show (noteL ls T).length = ls.length + 1 - 1 by rw [NL.out]; omega)
    have hi1 : 1 ≤ ls.length + 1 := by omega
    have E4 := Aside0.mk (show noteL ls T = (ls ++ [(⟨k, false, 0⟩ : S77)]).drop 1 by rw [E3.out, HT.out])
    exact bodyPost_ret (v := .agg #[.bool true, .int .i64 id, .slice A6 ps.length c6, .slice B6 xs.length d6, .slice I6 is.length ci6, .slice (some ⟨ge, 3, none⟩) (ls.length + 1 - 1) (c8 - 1)]) (by simp [results, Tryz.results173, go_sem]) rfl ⟨_, rfl, ⟨A6, c6, B6, d6, I6, ci6, some ⟨ge, 3, none⟩, c8 - 1, by rw [hLN.out], frl, frl, frl, by rw [hLN.out, E4.out]; exact lgl_drop 1 hi1⟩, belL⟩
 ·have e2 : max ((ls.length : Int) + 1 - 64) 0 = 0 := by omega
  have e3 : noteL ls T = ls ++ [T] := by unfold noteL; rw [show ls.length + 1 - 64 = 0 by omega]; rfl
  rw [e2] at hmax
  have E3 := Aside0.mk e3
  clear e3 e2
  cases q
  ·have HT := Aside0.mk (show T = ⟨k, false, 0⟩ by rw [← hT]; rfl)
   clear hT
   go_enter Tryz.func173, Tryz.ntmps173
   go_wp2_with (first | (with_reducible refine box_tc rfl (N := 4) rfl (cs := #[.bool true, .int .i64 id, .slice A ps.length c, .slice B xs.length d, .slice I is.length ci, .slice L ls.length cl]) (t := 40) ?hr ?_; (case hr => go_simp <;> rfl); intro g4 wg4 _ _ _) | (with_reducible refine box_tc rfl (N := 6) rfl (cs := #[.int .i64 ik, .int .i64 ic, .int .i64 ix, .int .i64 iv, .bool ig]) (t := 48) ?hr ?_; (case hr => go_simp <;> rfl); intro g6 wg6 _ _ _) | (with_reducible refine box_tc rfl (N := 8) rfl (cs := #[.bool false, .int .i64 0, .slice none 0 0, .slice none 0 0, .slice none 0 0, .slice none 0 0]) (t := 40) ?hr ?_; (case hr => go_simp <;> rfl); intro g8 wg8 _ _ _) | (with_reducible refine box_tc rfl (N := 9) rfl (cs := #[.bool false, .int .i64 0, .slice none 0 0, .slice none 0 0, .slice none 0 0, .slice none 0 0]) (t := 40) ?hr ?_; (case hr => go_simp <;> rfl); intro g9 wg9 _ _ _) | (with_reducible refine box_tc rfl (N := 10) rfl (cs := #[.int .i64 0, .bool false, .int .i64 0]) (t := 77) ?hr ?_; (case hr => go_simp <;> rfl); intro g10 wg10 _ _ _) | (go_at_call 58; (with_reducible refine cM (nodeCopy_ hb) ?_); rintro e w9 ⟨v9, rfl, ⟨A6, c6, B6, d6, I6, ci6, L6, cl6, rfl, hF6, hG6, hH6, hK6⟩, hb9⟩) | (with_reducible refine lit_tc rfl (N := 28) rfl (cs := #[.int .i64 k, .bool false, .int .i64 0]) (t := 77) (m := 1) ?hr ?_; (case hr => go_simp <;> rfl); intro g28 wg28 k28 hb28 hg28; have k9 : BlkL wg28 g9 #[.bool true, .int .i64 id, .slice A6 ps.length c6, .slice B6 xs.length d6, .slice I6 is.length ci6, .slice L6 ls.length cl6] 40 := blkL; have b9 : BelL w9 wg28 := belL; have hg28b : GEL w9 g28 := ⟨GE.out⟩; clear hb28 hg28) | ((with_reducible refine gate_dst (N := 29) rfl ?_); refine app_gap (k := k77) (u := w9.heap.size) (t := 38) (A := L6) (n := ls.length) (c := cl6) (B := some ⟨g28, 0, none⟩) (m := 1) (d := 1) (by rfl) (by rfl) Tryz.underlying38 (by rfl) (by rfl) (by omega) ?_; intro A8 c8 w8 _ _ _))
   exact bodyPost_ret (v := .agg #[.bool true, .int .i64 id, .slice A6 ps.length c6, .slice B6 xs.length d6, .slice I6 is.length ci6, .slice A8 (ls.length + 1) c8]) (by simp [results, Tryz.results173, go_sem]) rfl ⟨_, rfl, ⟨A6, c6, B6, d6, I6, ci6, A8, c8, by simp only [E3.out, List.length_append, List.length_singleton], frl, frl, frl, lgl_fr (n := ls.length + 1) (by simp only [E3.out, List.length_append, List.length_singleton]) (by rw [E3.out, HT.out])⟩, belL⟩
  ·cases ig
   ·have HT := Aside0.mk (show T = ⟨k, true, iv⟩ by rw [← hT]; rfl)
    clear hT
    go_enter Tryz.func173, Tryz.ntmps173
    go_upto_region 4 with (first | (with_reducible refine box_tc rfl (N := 4) rfl (cs := #[.bool true, .int .i64 id, .slice A ps.length c, .slice B xs.length d, .slice I is.length ci, .slice L ls.length cl]) (t := 40) ?hr ?_; (case hr => go_simp <;> rfl); intro g4 wg4 _ _ _) | (with_reducible refine box_tc rfl (N := 6) rfl (cs := #[.int .i64 ik, .int .i64 ic, .int .i64 ix, .int .i64 iv, .bool false]) (t := 48) ?hr ?_; (case hr => go_simp <;> rfl); intro g6 wg6 _ _ _) | (with_reducible refine box_tc rfl (N := 8) rfl (cs := #[.bool false, .int .i64 0, .slice none 0 0, .slice none 0 0, .slice none 0 0, .slice none 0 0]) (t := 40) ?hr ?_; (case hr => go_simp <;> rfl); intro g8 wg8 _ _ _) | (with_reducible refine box_tc rfl (N := 9) rfl (cs := #[.bool false, .int .i64 0, .slice none 0 0, .slice none 0 0, .slice none 0 0, .slice none 0 0]) (t := 40) ?hr ?_; (case hr => go_simp <;> rfl); intro g9 wg9 _ _ _) | (with_reducible refine box_tc rfl (N := 10) rfl (cs := #[.int .i64 0, .bool false, .int .i64 0]) (t := 77) ?hr ?_; (case hr => go_simp <;> rfl); intro g10 wg10 _ _ _) | (go_at_call 58; (with_reducible refine cM (nodeCopy_ hb) ?_); rintro e w9 ⟨v9, rfl, ⟨A6, c6, B6, d6, I6, ci6, L6, cl6, rfl, hF6, hG6, hH6, hK6⟩, hb9⟩) | (with_reducible refine lit_tc rfl (N := 28) rfl (cs := #[.int .i64 k, .bool true, .int .i64 iv]) (t := 77) (m := 1) ?hr ?_; (case hr => go_simp <;> rfl); intro g28 wg28 k28 hb28 hg28; have k9 : BlkL wg28 g9 #[.bool true, .int .i64 id, .slice A6 ps.length c6, .slice B6 xs.length d6, .slice I6 is.length ci6, .slice L6 ls.length cl6] 40 := blkL; have b9 : BelL w9 wg28 := belL; have hg28b : GEL w9 g28 := ⟨GE.out⟩; clear hb28 hg28) | ((with_reducible refine gate_dst (N := 29) rfl ?_); refine app_gap (k := k77) (u := w9.heap.size) (t := 38) (A := L6) (n := ls.length) (c := cl6) (B := some ⟨g28, 0, none⟩) (m := 1) (d := 1) (by rfl) (by rfl) Tryz.underlying38 (by rfl) (by rfl) (by omega) ?_; intro A8 c8 w8 _ _ _))
    go_region_with fail
    all_goals
     go_wp2_with (first | (with_reducible refine box_tc rfl (N := 4) rfl (cs := #[.bool true, .int .i64 id, .slice A ps.length c, .slice B xs.length d, .slice I is.length ci, .slice L ls.length cl]) (t := 40) ?hr ?_; (case hr => go_simp <;> rfl); intro g4 wg4 _ _ _) | (with_reducible refine box_tc rfl (N := 6) rfl (cs := #[.int .i64 ik, .int .i64 ic, .int .i64 ix, .int .i64 iv, .bool false]) (t := 48) ?hr ?_; (case hr => go_simp <;> rfl); intro g6 wg6 _ _ _) | (with_reducible refine box_tc rfl (N := 8) rfl (cs := #[.bool false, .int .i64 0, .slice none 0 0, .slice none 0 0, .slice none 0 0, .slice none 0 0]) (t := 40) ?hr ?_; (case hr => go_simp <;> rfl); intro g8 wg8 _ _ _) | (with_reducible refine box_tc rfl (N := 9) rfl (cs := #[.bool false, .int .i64 0, .slice none 0 0, .slice none 0 0, .slice none 0 0, .slice none 0 0]) (t := 40) ?hr ?_; (case hr => go_simp <;> rfl); intro g9 wg9 _ _ _) | (with_reducible refine box_tc rfl (N := 10) rfl (cs := #[.int .i64 0, .bool false, .int .i64 0]) (t := 77) ?hr ?_; (case hr => go_simp <;> rfl); intro g10 wg10 _ _ _) | (go_at_call 58; (with_reducible refine cM (nodeCopy_ hb) ?_); rintro e w9 ⟨v9, rfl, ⟨A6, c6, B6, d6, I6, ci6, L6, cl6, rfl, hF6, hG6, hH6, hK6⟩, hb9⟩) | (with_reducible refine lit_tc rfl (N := 28) rfl (cs := #[.int .i64 k, .bool true, .int .i64 iv]) (t := 77) (m := 1) ?hr ?_; (case hr => go_simp <;> rfl); intro g28 wg28 k28 hb28 hg28; have k9 : BlkL wg28 g9 #[.bool true, .int .i64 id, .slice A6 ps.length c6, .slice B6 xs.length d6, .slice I6 is.length ci6, .slice L6 ls.length cl6] 40 := blkL; have b9 : BelL w9 wg28 := belL; have hg28b : GEL w9 g28 := ⟨GE.out⟩; clear hb28 hg28) | ((with_reducible refine gate_dst (N := 29) rfl ?_); refine app_gap (k := k77) (u := w9.heap.size) (t := 38) (A := L6) (n := ls.length) (c := cl6) (B := some ⟨g28, 0, none⟩) (m := 1) (d := 1) (by rfl) (by rfl) Tryz.underlying38 (by rfl) (by rfl) (by omega) ?_; intro A8 c8 w8 _ _ _))
     exact bodyPost_ret (v := .agg #[.bool true, .int .i64 id, .slice A6 ps.length c6, .slice B6 xs.length d6, .slice I6 is.length ci6, .slice A8 (ls.length + 1) c8]) (by simp [results, Tryz.results173, go_sem]) rfl ⟨_, rfl, ⟨A6, c6, B6, d6, I6, ci6, A8, c8, by simp only [E3.out, List.length_append, List.length_singleton], frl, frl, frl, lgl_fr (n := ls.length + 1) (by simp only [E3.out, List.length_append, List.length_singleton]) (by rw [E3.out, HT.out])⟩, belL⟩
   ·have HT := Aside0.mk (show T = ⟨k, false, 0⟩ by rw [← hT]; rfl)
    clear hT
    go_enter Tryz.func173, Tryz.ntmps173
    go_wp2_with (first | (with_reducible refine box_tc rfl (N := 4) rfl (cs := #[.bool true, .int .i64 id, .slice A ps.length c, .slice B xs.length d, .slice I is.length ci, .slice L ls.length cl]) (t := 40) ?hr ?_; (case hr => go_simp <;> rfl); intro g4 wg4 _ _ _) | (with_reducible refine box_tc rfl (N := 6) rfl (cs := #[.int .i64 ik, .int .i64 ic, .int .i64 ix, .int .i64 iv, .bool true]) (t := 48) ?hr ?_; (case hr => go_simp <;> rfl); intro g6 wg6 _ _ _) | (with_reducible refine box_tc rfl (N := 8) rfl (cs := #[.bool false, .int .i64 0, .slice none 0 0, .slice none 0 0, .slice none 0 0, .slice none 0 0]) (t := 40) ?hr ?_; (case hr => go_simp <;> rfl); intro g8 wg8 _ _ _) | (with_reducible refine box_tc rfl (N := 9) rfl (cs := #[.bool false, .int .i64 0, .slice none 0 0, .slice none 0 0, .slice none 0 0, .slice none 0 0]) (t := 40) ?hr ?_; (case hr => go_simp <;> rfl); intro g9 wg9 _ _ _) | (with_reducible refine box_tc rfl (N := 10) rfl (cs := #[.int .i64 0, .bool false, .int .i64 0]) (t := 77) ?hr ?_; (case hr => go_simp <;> rfl); intro g10 wg10 _ _ _) | (go_at_call 58; (with_reducible refine cM (nodeCopy_ hb) ?_); rintro e w9 ⟨v9, rfl, ⟨A6, c6, B6, d6, I6, ci6, L6, cl6, rfl, hF6, hG6, hH6, hK6⟩, hb9⟩) | (with_reducible refine lit_tc rfl (N := 28) rfl (cs := #[.int .i64 k, .bool false, .int .i64 0]) (t := 77) (m := 1) ?hr ?_; (case hr => go_simp <;> rfl); intro g28 wg28 k28 hb28 hg28; have k9 : BlkL wg28 g9 #[.bool true, .int .i64 id, .slice A6 ps.length c6, .slice B6 xs.length d6, .slice I6 is.length ci6, .slice L6 ls.length cl6] 40 := blkL; have b9 : BelL w9 wg28 := belL; have hg28b : GEL w9 g28 := ⟨GE.out⟩; clear hb28 hg28) | ((with_reducible refine gate_dst (N := 29) rfl ?_); refine app_gap (k := k77) (u := w9.heap.size) (t := 38) (A := L6) (n := ls.length) (c := cl6) (B := some ⟨g28, 0, none⟩) (m := 1) (d := 1) (by rfl) (by rfl) Tryz.underlying38 (by rfl) (by rfl) (by omega) ?_; intro A8 c8 w8 _ _ _))
    exact bodyPost_ret (v := .agg #[.bool true, .int .i64 id, .slice A6 ps.length c6, .slice B6 xs.length d6, .slice I6 is.length ci6, .slice A8 (ls.length + 1) c8]) (by simp [results, Tryz.results173, go_sem]) rfl ⟨_, rfl, ⟨A6, c6, B6, d6, I6, ci6, A8, c8, by simp only [E3.out, List.length_append, List.length_singleton], frl, frl, frl, lgl_fr (n := ls.length + 1) (by simp only [E3.out, List.length_append, List.length_singleton]) (by rw [E3.out, HT.out])⟩, belL⟩
end
section
attribute [local go_sem] cell_tc2
set_option maxRecDepth 100000 in
set_option maxHeartbeats 4000000 in
theorem told_ {f1 f4 k cc x v id : Int} {g q : Bool} {ids : List Int} {A3 : Option Addr} {n3 c3 : Nat} {A B I L : Option Addr} {n c m d ni ci nl cl : Nat} {ps : List S98} {xs : List Int} {is : List S48} {ls : List S77} {w : World} [h1 : Sr k98 w A n c ps] [h2 : Sr kI w B m d xs] [h3 : Sr k48 w I ni ci is] [h4 : Sr k77 w L nl cl ls] [h5 : Sr kI w A3 n3 c3 ids] (hn : nodeB ⟨true, ⟨id, ps, xs⟩, is, ls⟩ = true) (hm : msgB ⟨3, f1, id, ids, f4, ⟨k, ⟨cc, x⟩, v, g⟩, q⟩ = true) (hi : ids.length ≤ 1000000) :
 Calls Tryz.prog 194 #[.agg #[.bool true, .int .i64 id, .slice A n c, .slice B m d, .slice I ni ci, .slice L nl cl], .agg #[.int .i64 3, .int .i64 f1, .int .i64 id, .slice A3 n3 c3, .int .i64 f4, .int .i64 k, .int .i64 cc, .int .i64 x, .int .i64 v, .bool g, .bool q]] w fun e w' => ∃ v', e = .returned (.tuple #[v', .int .i64 0]) ∧ NodeQ w' w.heap.size v' ⟨true, ⟨id, ps, xs⟩, is, noteL ls (noteT f4 ⟨k, ⟨cc, x⟩, v, g⟩ q)⟩ ∧ BelL w w' := by
 obtain rfl := h1.len
 obtain rfl := h2.len
 obtain rfl := h3.len
 obtain rfl := h4.len
 have s1 := sr_l h1
 have s2 := sr_l h2
 have s3 := sr_l h3
 have s4 := sr_l h4
 clear h1 h2 h3 h4
 have hsm := nodeB_small hn
 have hup : (true && nodeB ⟨true, ⟨id, ps, xs⟩, is, ls⟩) = true := by rw [hn]; rfl
 obtain rfl := h5.len
 have s5 := sr_l h5
 clear h5
 generalize hT : noteT f4 ⟨k, ⟨cc, x⟩, v, g⟩ q = T
 have HT := Aside0.mk hT
 clear hT
 go_enter Tryz.func194, Tryz.ntmps194
 go_wp2_with (first | (with_reducible refine box_tc rfl (N := 2) rfl (cs := #[.bool true, .int .i64 id, .slice A ps.length c, .slice B xs.length d, .slice I is.length ci, .slice L ls.length cl]) (t := 40) ?hr ?_; (case hr => go_simp <;> rfl); intro g2 wg2 _ _ _) | (with_reducible refine box_tc rfl (N := 3) rfl (cs := #[.int .i64 3, .int .i64 f1, .int .i64 id, .slice A3 ids.length c3, .int .i64 f4, .int .i64 k, .int .i64 cc, .int .i64 x, .int .i64 v, .bool g, .bool q]) (t := 126) ?hr ?_; (case hr => go_simp <;> rfl); intro g3 wg3 _ _ _) | (with_reducible refine box_tc rfl (N := 4) rfl (cs := #[.bool false, .int .i64 0, .slice none 0 0, .slice none 0 0, .slice none 0 0, .slice none 0 0]) (t := 40) ?hr ?_; (case hr => go_simp <;> rfl); intro g4 wg4 _ _ _) | (go_at_call 207; (with_reducible refine cM (askTo_ hn hm hi) ?_); rintro e wb ⟨rfl, hb5⟩; simp only [beq_self_eq_true, Bool.and_self]) | (go_at_call 173; (with_reducible refine cM (note_ hn) ?_); rw [HT.out]; rintro e w9 ⟨v9, rfl, ⟨A6, c6, B6, d6, I6, ci6, L6, cl6, rfl, hF6, hG6, hH6, hK6⟩, hb9⟩; simp only at hF6 hG6 hH6 hK6))
 exact bodyPost_ret (v := .tuple #[.agg #[.bool true, .int .i64 id, .slice A6 ps.length c6, .slice B6 xs.length d6, .slice I6 is.length ci6, .slice L6 (noteL ls T).length cl6], .int .i64 0]) (by simp [results, Tryz.results194, go_sem]) rfl ⟨_, rfl, ⟨_, _, _, _, _, _, _, _, rfl, frl, frl, frl, lgl⟩, belL⟩
def getN (x : S40) (key : Int) : S40 := if vownI x.f1 key == x.f1.f0 then ⟨x.f0, x.f1, x.f2, noteL x.f3 (noteT key ((getI x.f2 key).getD z48) (getI x.f2 key).isSome)⟩ else x
def getM (x : S40) (key : Int) : List S126 := if vownI x.f1 key == x.f1.f0 then [] else [⟨2, x.f1.f0, vownI x.f1 key, [], key, z48, false⟩]
set_option maxRecDepth 100000 in
set_option maxHeartbeats 4000000 in
theorem askGet_ {id k : Int} {A B I L : Option Addr} {n c m d ni ci nl cl : Nat} {ps : List S98} {xs : List Int} {is : List S48} {ls : List S77} {w : World} [h1 : Sr k98 w A n c ps] [h2 : Sr kI w B m d xs] [h3 : Sr k48 w I ni ci is] [h4 : Sr k77 w L nl cl ls] (hn : nodeB ⟨true, ⟨id, ps, xs⟩, is, ls⟩ = true) (hk : placeB k = true) :
 Calls Tryz.prog 131 #[.agg #[.bool true, .int .i64 id, .slice A n c, .slice B m d, .slice I ni ci, .slice L nl cl], .int .i64 k] w fun e w' => ∃ v' A' c', e = .returned (.tuple #[v', .slice A' (getM ⟨true, ⟨id, ps, xs⟩, is, ls⟩ k).length c', .int .i64 0]) ∧ NodeQ w' w.heap.size v' (getN ⟨true, ⟨id, ps, xs⟩, is, ls⟩ k) ∧ FrL k126 126 w' w.heap.size (Under w'.heap.size) A' (getM ⟨true, ⟨id, ps, xs⟩, is, ls⟩ k).length c' (getM ⟨true, ⟨id, ps, xs⟩, is, ls⟩ k) ∧ BelL w w' := by
 obtain rfl := h1.len
 obtain rfl := h2.len
 obtain rfl := h3.len
 obtain rfl := h4.len
 have s1 := sr_l h1
 have s2 := sr_l h2
 have s3 := sr_l h3
 have s4 := sr_l h4
 clear h1 h2 h3 h4
 have hsm := nodeB_small hn
 have hup : (true && nodeB ⟨true, ⟨id, ps, xs⟩, is, ls⟩) = true := by rw [hn]; rfl
 cases ho : (vownI ⟨id, ps, xs⟩ k == id)
 ·rw [show getN ⟨true, ⟨id, ps, xs⟩, is, ls⟩ k = ⟨true, ⟨id, ps, xs⟩, is, ls⟩ by simp [getN, ho], show getM ⟨true, ⟨id, ps, xs⟩, is, ls⟩ k = [⟨2, id, vownI ⟨id, ps, xs⟩ k, [], k, z48, false⟩] by simp [getM, ho]]
  go_enter Tryz.func131, Tryz.ntmps131
  go_wp2_with (first | (with_reducible refine box_tc rfl (N := 2) rfl (cs := #[.bool true, .int .i64 id, .slice A ps.length c, .slice B xs.length d, .slice I is.length ci, .slice L ls.length cl]) (t := 40) ?hr ?_; (case hr => go_simp <;> rfl); intro g2 wg2 _ _ _) | (with_reducible refine box_tc rfl (N := 4) rfl (cs := #[.bool false, .int .i64 0, .slice none 0 0, .slice none 0 0, .slice none 0 0, .slice none 0 0]) (t := 40) ?hr ?_; (case hr => go_simp <;> rfl); intro g4 wg4 _ _ _) | (go_at_call 56; (with_reducible refine cM (nodeUp_ (by omega)) ?_); rintro e wb ⟨rfl, hb5⟩; rw [hup]) | (go_at_call 35; (with_reducible refine cM (place k _) ?_); rintro e w' ⟨rfl, ⟨nd, rfl⟩⟩; rw [hk]) | (go_at_call 172; (with_reducible refine cM (viewOwner_) ?_); rintro e wd ⟨rfl, hb⟩) | (go_at_call 58; (with_reducible refine cM (nodeCopy_ hsm) ?_); rintro e w9 ⟨v9, rfl, ⟨A6, c6, B6, d6, I6, ci6, L6, cl6, rfl, hF6, hG6, hH6, hK6⟩, hb9⟩) | (with_reducible refine lit_tc rfl (N := 52) rfl (cs := #[.int .i64 2, .int .i64 id, .int .i64 (vownI ⟨id, ps, xs⟩ k), .slice none 0 0, .int .i64 k, .int .i64 0, .int .i64 0, .int .i64 0, .int .i64 0, .bool false, .bool false]) (t := 126) (m := 1) ?hr ?_; (case hr => go_simp <;> rfl); intro g52 wg52 _ hb52 hg52; have l2 : LtB g4 g52 := ⟨Nat.lt_of_lt_of_le (ltb_of hb52 (g := g4)).out hg52.out⟩))
  have l3 : LeB w.heap.size g52 := ⟨GE.out (w := w)⟩
  have hF : FrL k126 126 wg52 g52 Any (some ⟨g52, 0, none⟩) 1 1 [(⟨2, id, vownI ⟨id, ps, xs⟩ k, [], k, ⟨0, ⟨0, 0⟩, 0, false⟩, false⟩ : S126)] := lit_msg (W := wg52) (Nat.le_refl _)
  exact bodyPost_ret (v := .tuple #[.agg #[.bool true, .int .i64 id, .slice A6 ps.length c6, .slice B6 xs.length d6, .slice I6 is.length ci6, .slice L6 ls.length cl6], .slice (some ⟨g52, 0, none⟩) 1 1, .int .i64 0]) (by simp [results, Tryz.results131, go_sem]) rfl ⟨_, _, _, rfl, ⟨_, _, _, _, _, _, _, _, rfl, frl, frl, frl, lgl_fr rfl rfl⟩, frl, belL⟩
 ·rw [show getN ⟨true, ⟨id, ps, xs⟩, is, ls⟩ k = ⟨true, ⟨id, ps, xs⟩, is, noteL ls (noteT k ((getI is k).getD z48) (getI is k).isSome)⟩ by simp [getN, ho], show getM ⟨true, ⟨id, ps, xs⟩, is, ls⟩ k = [] by simp [getM, ho]]
  generalize hold : (getI is k).getD z48 = old
  generalize hT : noteT k old (getI is k).isSome = T
  have HT := Aside0.mk (show noteT k ⟨old.f0, ⟨old.f1.f0, old.f1.f1⟩, old.f2, old.f3⟩ (getI is k).isSome = T from hT)
  clear hT
  go_enter Tryz.func131, Tryz.ntmps131
  go_wp2_with (first | (with_reducible refine box_tc rfl (N := 2) rfl (cs := #[.bool true, .int .i64 id, .slice A ps.length c, .slice B xs.length d, .slice I is.length ci, .slice L ls.length cl]) (t := 40) ?hr ?_; (case hr => go_simp <;> rfl); intro g2 wg2 _ _ _) | (with_reducible refine box_tc rfl (N := 4) rfl (cs := #[.bool false, .int .i64 0, .slice none 0 0, .slice none 0 0, .slice none 0 0, .slice none 0 0]) (t := 40) ?hr ?_; (case hr => go_simp <;> rfl); intro g4 wg4 _ _ _) | (with_reducible refine box_tc rfl (N := 10) rfl (cs := #[.int .i64 0, .int .i64 0, .int .i64 0, .int .i64 0, .bool false]) (t := 48) ?hr ?_; (case hr => go_simp <;> rfl); intro g10 wg10 _ _ _) | (go_at_call 56; (with_reducible refine cM (nodeUp_ (by omega)) ?_); rintro e wb ⟨rfl, hb5⟩; rw [hup]) | (go_at_call 35; (with_reducible refine cM (place k _) ?_); rintro e w' ⟨rfl, ⟨nd, rfl⟩⟩; rw [hk]) | (go_at_call 172; (with_reducible refine cM (viewOwner_) ?_); rintro e wd ⟨rfl, hb⟩) | (go_at_call 18; (with_reducible refine Calls.mono get_ ?_); rintro e wg ⟨rfl, hb7⟩; rw [hold]; simp only [itemV]) | (go_at_call 173; (with_reducible refine cM (note_ hn) ?_); rw [HT.out]; rintro e w9 ⟨v9, rfl, ⟨A6, c6, B6, d6, I6, ci6, L6, cl6, rfl, hF6, hG6, hH6, hK6⟩, hb9⟩; simp only at hF6 hG6 hH6 hK6))
  exact bodyPost_ret (v := .tuple #[.agg #[.bool true, .int .i64 id, .slice A6 ps.length c6, .slice B6 xs.length d6, .slice I6 is.length ci6, .slice L6 (noteL ls T).length cl6], .slice none 0 0, .int .i64 0]) (by simp [results, Tryz.results131, go_sem]) rfl ⟨_, _, _, rfl, ⟨_, _, _, _, _, _, _, _, rfl, frl, frl, frl, lgl⟩, frl_nil, belL⟩
end
section
attribute [local go_sem] cell_tc2
def HandIs (w : World) (g b : Nat) (x : S40) (ms : List S126) : Prop := ∃ A c B d I ci L cl M cm, BlkL w g #[.bool x.f0, .int .i64 x.f1.f0, .slice A x.f1.f1.length c, .slice B x.f1.f2.length d, .slice I x.f2.length ci, .slice L x.f3.length cl, .slice M ms.length cm] 206 ∧
 FrL k98 98 w b (But g) A x.f1.f1.length c x.f1.f1 ∧ FrL kI 3 w b (But g) B x.f1.f2.length d x.f1.f2 ∧ FrL k48 48 w b (But g) I x.f2.length ci x.f2 ∧ LgL w b (But g) L x.f3.length cl x.f3 ∧ FrL k126 126 w b (But g) M ms.length cm ms
theorem lgl_but {W : World} {b b' g : Nat} {S : Nat → Prop} {A : Option Addr} {n c : Nat} {xs : List S77} [h : Lg W b S A n c xs] [l : LeB b' b] [q : Avoid g b S] : LgL W b' (But g) A n c xs := ⟨h.len, h.le, by
 obtain ⟨A0, n0, c0, ys, i, h1, h2, h3, h4⟩ := h.out
 exact ⟨A0, n0, c0, ys, i, h1, h2, h3, Kd.R_mono (Kd.R_lower (Kd.R_bound h4) l.out) (fun j hk => q.out j hk.2.1 hk.1)⟩⟩
instance lg_fr {W : World} {b : Nat} {S : Nat → Prop} {A : Option Addr} {n c : Nat} {xs : List S77} [h : Fr k77 77 W b S A n c xs] : Lg W b S A n c xs := ⟨h.len, h.le, (by
 refine ⟨A, n, c, xs, 0, ?_, rfl, Nat.zero_le _, h.R⟩
 rcases fr_nonzero h with ⟨rfl, _⟩ | ⟨g, rfl⟩
 ·rfl
 ·show some _ = some _
  simp only [Addr.add_lit, Nat.zero_mul, Nat.zero_add])⟩
instance lg_kb {W W1 : World} {g b : Nat} {S : Nat → Prop} {A : Option Addr} {n c : Nat} {xs : List S77} [q : KbL g W1 W] [h : Lg W1 b S A n c xs] [l : Avoid g b S] : Lg W b S A n c xs := ⟨h.len, h.le, by
 obtain ⟨A0, n0, c0, ys, i, h1, h2, h3, h4⟩ := h.out
 exact ⟨A0, n0, c0, ys, i, h1, h2, h3, Kd.R_mono (Kd.R_step (Kd.R_bound h4) (fun j hj hlt => q.out.2.2.2.2 j hlt (l.out j hj.2.1 hj.1))) (fun _ hk => hk.1)⟩⟩
set_option maxRecDepth 100000 in
set_option maxHeartbeats 4000000 in
theorem handHello_ {id : Int} {A B I L : Option Addr} {n c m d ni ci nl cl g b : Nat} {S1 S2 S3 S4 : Nat → Prop} {ps : List S98} {xs : List Int} {is : List S48} {ls : List S77} {w : World} [hB : Blk w g #[.bool true, .int .i64 id, .slice A n c, .slice B m d, .slice I ni ci, .slice L nl cl, .slice none 0 0] 206] [h1 : Fr k98 98 w b S1 A n c ps] [h2 : Fr kI 3 w b S2 B m d xs] [h3 : Fr k48 48 w b S3 I ni ci is] [h4 : Fr k77 77 w b S4 L nl cl ls] [a1 : Avoid g b S1] [a2 : Avoid g b S2] [a3 : Avoid g b S3] [a4 : Avoid g b S4] [lb : LeB b w.heap.size] {f0 f1 f2 f4 k cc x v : Int} {gn q : Bool} {ids : List Int} {A3 : Option Addr} {n3 c3 : Nat} [h5 : Sr kI w A3 n3 c3 ids]  :
 Calls Tryz.prog 165 #[.pointer (some ⟨g, 0, none⟩), .agg #[.int .i64 f0, .int .i64 f1, .int .i64 f2, .slice A3 n3 c3, .int .i64 f4, .int .i64 k, .int .i64 cc, .int .i64 x, .int .i64 v, .bool gn, .bool q]] w fun e w' => e = .returned (.tuple #[]) ∧ HandIs w' g b ⟨true, takeV ⟨id, ps, xs⟩ f1 ids, is, ls⟩ [] ∧ KbL g w w' := by
 obtain rfl := h1.len
 obtain rfl := h2.len
 obtain rfl := h3.len
 obtain rfl := h4.len
 obtain rfl := h5.len
 have s5 := sr_l h5
 clear h5
 generalize hy : takeV ⟨id, ps, xs⟩ f1 ids = y
 have HY := Aside0.mk hy
 clear hy
 go_enter Tryz.func165, Tryz.ntmps165
 go_upto_region 1 with (first | (with_reducible refine box_tc rfl (N := 3) rfl (cs := #[.int .i64 f0, .int .i64 f1, .int .i64 f2, .slice A3 ids.length c3, .int .i64 f4, .int .i64 k, .int .i64 cc, .int .i64 x, .int .i64 v, .bool gn, .bool q]) (t := 126) ?hr ?_; (case hr => go_simp <;> rfl); intro g3 wg3 _ _ _))
 go_region_with (first | (go_at_call 10; (with_reducible refine cM (take_) ?_); rw [HY.out]; rintro e w1 ⟨v1, rfl, ⟨A1, c1, B1, d1, rfl, hF1, hF2⟩, hb1⟩))
 all_goals
  go_wp2
  go_end0
  exact ⟨rfl, ⟨A1, c1, B1, d1, I, ci, L, cl, none, 0, blkL, frl_but, frl_but, frl_but, lgl_but, frl_nil⟩, kbL⟩
set_option maxRecDepth 100000 in
set_option maxHeartbeats 4000000 in
theorem handItem_ {id : Int} {A B I L : Option Addr} {n c m d ni ci nl cl g b : Nat} {S1 S2 S3 S4 : Nat → Prop} {ps : List S98} {xs : List Int} {is : List S48} {ls : List S77} {w : World} [hB : Blk w g #[.bool true, .int .i64 id, .slice A n c, .slice B m d, .slice I ni ci, .slice L nl cl, .slice none 0 0] 206] [h1 : Fr k98 98 w b S1 A n c ps] [h2 : Fr kI 3 w b S2 B m d xs] [h3 : Fr k48 48 w b S3 I ni ci is] [h4 : Fr k77 77 w b S4 L nl cl ls] [a1 : Avoid g b S1] [a2 : Avoid g b S2] [a3 : Avoid g b S3] [a4 : Avoid g b S4] [lb : LeB b w.heap.size] {f0 f1 f2 f4 k cc x v : Int} {gn q : Bool} {ids : List Int} {A3 : Option Addr} {n3 c3 : Nat} [h5 : Sr kI w A3 n3 c3 ids] (hn : nodeB ⟨true, ⟨id, ps, xs⟩, is, ls⟩ = true) (hi : itemB k cc x v gn = true) :
 Calls Tryz.prog 166 #[.pointer (some ⟨g, 0, none⟩), .agg #[.int .i64 f0, .int .i64 f1, .int .i64 f2, .slice A3 n3 c3, .int .i64 f4, .int .i64 k, .int .i64 cc, .int .i64 x, .int .i64 v, .bool gn, .bool q]] w fun e w' => e = .returned (.tuple #[]) ∧ HandIs w' g b ⟨true, ⟨id, ps, xs⟩, takeL is ⟨k, ⟨cc, x⟩, v, gn⟩, ls⟩ [] ∧ KbL g w w' := by
 obtain rfl := h1.len
 obtain rfl := h2.len
 obtain rfl := h3.len
 obtain rfl := h4.len
 obtain rfl := h5.len
 have s5 := sr_l h5
 clear h5
 go_enter Tryz.func166, Tryz.ntmps166
 go_upto_region 1 with (first | (with_reducible refine box_tc rfl (N := 3) rfl (cs := #[.int .i64 f0, .int .i64 f1, .int .i64 f2, .slice A3 ids.length c3, .int .i64 f4, .int .i64 k, .int .i64 cc, .int .i64 x, .int .i64 v, .bool gn, .bool q]) (t := 126) ?hr ?_; (case hr => go_simp <;> rfl); intro g3 wg3 _ _ _))
 go_region_with (first | (go_at_call 19; (with_reducible refine cM (takeItem_ hn hi) ?_); rintro e w1 ⟨v1, rfl, ⟨A6, c6, B6, d6, I6, ci6, L6, cl6, rfl, hF6, hG6, hH6, hK6⟩, hb1⟩; simp only at hF6 hG6 hH6 hK6))
 all_goals
  go_wp2
  go_end0
  exact ⟨rfl, ⟨A6, c6, B6, d6, I6, ci6, L6, cl6, none, 0, blkL, frl_but, frl_but, frl_but, lgl_but, frl_nil⟩, kbL⟩
set_option maxRecDepth 100000 in
set_option maxHeartbeats 4000000 in
theorem handAsk_ {id : Int} {A B I L : Option Addr} {n c m d ni ci nl cl g b : Nat} {S1 S2 S3 S4 : Nat → Prop} {ps : List S98} {xs : List Int} {is : List S48} {ls : List S77} {w : World} [hB : Blk w g #[.bool true, .int .i64 id, .slice A n c, .slice B m d, .slice I ni ci, .slice L nl cl, .slice none 0 0] 206] [h1 : Fr k98 98 w b S1 A n c ps] [h2 : Fr kI 3 w b S2 B m d xs] [h3 : Fr k48 48 w b S3 I ni ci is] [h4 : Fr k77 77 w b S4 L nl cl ls] [a1 : Avoid g b S1] [a2 : Avoid g b S2] [a3 : Avoid g b S3] [a4 : Avoid g b S4] [lb : LeB b w.heap.size] {f1 f4 k cc x v : Int} {gn q : Bool} {ids : List Int} {A3 : Option Addr} {n3 c3 : Nat} [h5 : Sr kI w A3 n3 c3 ids] (hn : nodeB ⟨true, ⟨id, ps, xs⟩, is, ls⟩ = true) (hm : msgB ⟨2, f1, id, ids, f4, ⟨k, ⟨cc, x⟩, v, gn⟩, q⟩ = true) (hi : ids.length ≤ 1000000) :
 Calls Tryz.prog 167 #[.pointer (some ⟨g, 0, none⟩), .agg #[.int .i64 2, .int .i64 f1, .int .i64 id, .slice A3 n3 c3, .int .i64 f4, .int .i64 k, .int .i64 cc, .int .i64 x, .int .i64 v, .bool gn, .bool q]] w fun e w' => e = .returned (.tuple #[]) ∧ HandIs w' g b ⟨true, ⟨id, ps, xs⟩, is, ls⟩ [(⟨3, id, f1, [], f4, (getI is f4).getD z48, (getI is f4).isSome⟩ : S126)] ∧ KbL g w w' := by
 obtain rfl := h1.len
 obtain rfl := h2.len
 obtain rfl := h3.len
 obtain rfl := h4.len
 obtain rfl := h5.len
 have s5 := sr_l h5
 clear h5
 go_enter Tryz.func167, Tryz.ntmps167
 go_upto_region 1 with (first | (with_reducible refine box_tc rfl (N := 3) rfl (cs := #[.int .i64 2, .int .i64 f1, .int .i64 id, .slice A3 ids.length c3, .int .i64 f4, .int .i64 k, .int .i64 cc, .int .i64 x, .int .i64 v, .bool gn, .bool q]) (t := 126) ?hr ?_; (case hr => go_simp <;> rfl); intro g3 wg3 _ _ _))
 go_region_with (first | (go_at_call 193; (with_reducible refine cM (answer_ hn hm hi) ?_); rintro e w1 ⟨A6, c6, rfl, hF6, hb1⟩))
 all_goals
  go_wp2
  go_end0
  exact ⟨rfl, ⟨A, c, B, d, I, ci, L, cl, A6, c6, blkL, frl_but, frl_but, frl_but, lgl_but, frl_but⟩, kbL⟩
set_option maxRecDepth 100000 in
set_option maxHeartbeats 4000000 in
theorem handTell_ {id : Int} {A B I L : Option Addr} {n c m d ni ci nl cl g b : Nat} {S1 S2 S3 S4 : Nat → Prop} {ps : List S98} {xs : List Int} {is : List S48} {ls : List S77} {w : World} [hB : Blk w g #[.bool true, .int .i64 id, .slice A n c, .slice B m d, .slice I ni ci, .slice L nl cl, .slice none 0 0] 206] [h1 : Fr k98 98 w b S1 A n c ps] [h2 : Fr kI 3 w b S2 B m d xs] [h3 : Fr k48 48 w b S3 I ni ci is] [h4 : Fr k77 77 w b S4 L nl cl ls] [a1 : Avoid g b S1] [a2 : Avoid g b S2] [a3 : Avoid g b S3] [a4 : Avoid g b S4] [lb : LeB b w.heap.size] {f1 f4 k cc x v : Int} {gn q : Bool} {ids : List Int} {A3 : Option Addr} {n3 c3 : Nat} [h5 : Sr kI w A3 n3 c3 ids] (hn : nodeB ⟨true, ⟨id, ps, xs⟩, is, ls⟩ = true) (hm : msgB ⟨3, f1, id, ids, f4, ⟨k, ⟨cc, x⟩, v, gn⟩, q⟩ = true) (hi : ids.length ≤ 1000000) :
 Calls Tryz.prog 168 #[.pointer (some ⟨g, 0, none⟩), .agg #[.int .i64 3, .int .i64 f1, .int .i64 id, .slice A3 n3 c3, .int .i64 f4, .int .i64 k, .int .i64 cc, .int .i64 x, .int .i64 v, .bool gn, .bool q]] w fun e w' => e = .returned (.tuple #[]) ∧ HandIs w' g b ⟨true, ⟨id, ps, xs⟩, is, noteL ls (noteT f4 ⟨k, ⟨cc, x⟩, v, gn⟩ q)⟩ [] ∧ KbL g w w' := by
 obtain rfl := h1.len
 obtain rfl := h2.len
 obtain rfl := h3.len
 obtain rfl := h4.len
 obtain rfl := h5.len
 have s5 := sr_l h5
 clear h5
 go_enter Tryz.func168, Tryz.ntmps168
 go_upto_region 1 with (first | (with_reducible refine box_tc rfl (N := 3) rfl (cs := #[.int .i64 3, .int .i64 f1, .int .i64 id, .slice A3 ids.length c3, .int .i64 f4, .int .i64 k, .int .i64 cc, .int .i64 x, .int .i64 v, .bool gn, .bool q]) (t := 126) ?hr ?_; (case hr => go_simp <;> rfl); intro g3 wg3 _ _ _))
 go_region_with (first | (go_at_call 194; (with_reducible refine cM (told_ hn hm hi) ?_); rintro e w1 ⟨v1, rfl, ⟨A6, c6, B6, d6, I6, ci6, L6, cl6, rfl, hF6, hG6, hH6, hK6⟩, hb1⟩; simp only at hF6 hG6 hH6 hK6))
 all_goals
  go_wp2
  go_end0
  exact ⟨rfl, ⟨A6, c6, B6, d6, I6, ci6, L6, cl6, none, 0, blkL, frl_but, frl_but, frl_but, lgl_but, frl_nil⟩, kbL⟩
end
section
attribute [local go_sem] cell_tc2
theorem run_store_fn {P : Program} {w : World} {a : Addr} {m : Mode} (fn : Fn) (first captured : Array Value) : (store a (.func fn first captured) m).run P w = stored P w a (.func fn first captured) m := run_store P w a _ m rfl
attribute [local go_sem] run_store_fn
def handN (x : S40) (m : S126) : S40 :=
 if m.f0 = 0 then ⟨x.f0, takeV x.f1 m.f1 m.f3, x.f2, x.f3⟩ else if m.f0 = 1 then ⟨x.f0, x.f1, takeL x.f2 m.f5, x.f3⟩ else if m.f0 = 2 then x else ⟨x.f0, x.f1, x.f2, noteL x.f3 (noteT m.f4 m.f5 m.f6)⟩
def handM (x : S40) (m : S126) : List S126 := if m.f0 = 2 then [⟨3, x.f1.f0, m.f1, [], m.f4, (getI x.f2 m.f4).getD z48, (getI x.f2 m.f4).isSome⟩] else []
set_option maxRecDepth 100000 in
set_option maxHeartbeats 8000000 in
theorem handleHello_ {id : Int} {A B I L : Option Addr} {n c m d ni ci nl cl : Nat} {ps : List S98} {xs : List Int} {is : List S48} {ls : List S77} {w : World} [h1 : Sr k98 w A n c ps] [h2 : Sr kI w B m d xs] [h3 : Sr k48 w I ni ci is] [h4 : Sr k77 w L nl cl ls] {f1 f4 k cc x v : Int} {gn q : Bool} {ids : List Int} {A3 : Option Addr} {n3 c3 : Nat} [h5 : Sr kI w A3 n3 c3 ids] (hn : nodeB ⟨true, ⟨id, ps, xs⟩, is, ls⟩ = true) (hm : msgB ⟨0, f1, id, ids, f4, ⟨k, ⟨cc, x⟩, v, gn⟩, q⟩ = true) (hi : ids.length ≤ 1000000)  :
 Calls Tryz.prog 127 #[.agg #[.bool true, .int .i64 id, .slice A n c, .slice B m d, .slice I ni ci, .slice L nl cl], .agg #[.int .i64 0, .int .i64 f1, .int .i64 id, .slice A3 n3 c3, .int .i64 f4, .int .i64 k, .int .i64 cc, .int .i64 x, .int .i64 v, .bool gn, .bool q]] w fun e w' => ∃ v' A' c', e = .returned (.tuple #[v', .slice A' ([] : List S126).length c', .int .i64 0]) ∧ NodeQ w' w.heap.size v' ⟨true, (takeV ⟨id, ps, xs⟩ f1 ids), is, ls⟩ ∧ FrL k126 126 w' w.heap.size (Under w'.heap.size) A' ([] : List S126).length c' ([] : List S126) ∧ BelL w w' := by
 obtain rfl := h1.len
 obtain rfl := h2.len
 obtain rfl := h3.len
 obtain rfl := h4.len
 obtain rfl := h5.len
 have s1 := sr_l h1
 have s2 := sr_l h2
 have s3 := sr_l h3
 have s4 := sr_l h4
 have s5 := sr_l h5
 clear h1 h2 h3 h4 h5
 have hsm := nodeB_small hn
 have hup : (true && nodeB ⟨true, ⟨id, ps, xs⟩, is, ls⟩) = true := by rw [hn]; rfl
 go_enter Tryz.func127, Tryz.ntmps127
 go_upto_region 5 with (first | (with_reducible refine box_tc rfl (N := 2) rfl (cs := #[.bool true, .int .i64 id, .slice A ps.length c, .slice B xs.length d, .slice I is.length ci, .slice L ls.length cl]) (t := 40) ?hr ?_; (case hr => go_simp <;> rfl); intro g2 wg2 _ _ _) | (with_reducible refine box_tc rfl (N := 3) rfl (cs := #[.int .i64 0, .int .i64 f1, .int .i64 id, .slice A3 ids.length c3, .int .i64 f4, .int .i64 k, .int .i64 cc, .int .i64 x, .int .i64 v, .bool gn, .bool q]) (t := 126) ?hr ?_; (case hr => go_simp <;> rfl); intro g3 wg3 _ _ _) | (with_reducible refine box_tc rfl (N := 4) rfl (cs := #[.bool false, .int .i64 0, .slice none 0 0, .slice none 0 0, .slice none 0 0, .slice none 0 0]) (t := 40) ?hr ?_; (case hr => go_simp <;> rfl); intro g4 wg4 _ _ _) | (with_reducible refine box_tc rfl (N := 8) rfl (cs := #[.nilFunc, .nilFunc, .nilFunc, .nilFunc]) (t := 208) ?hr ?_; (case hr => go_simp <;> rfl); intro g8 wg8 _ _ _) | (with_reducible refine box_tc rfl (N := 29) rfl (cs := #[.bool true, .int .i64 id, .slice A6 ps.length c6, .slice B6 xs.length d6, .slice I6 is.length ci6, .slice L6 ls.length cl6, .slice none 0 0]) (t := 206) ?hr ?_; (case hr => go_simp <;> rfl); intro g29 wg29 _ _ _) | (go_at_call 56; (with_reducible refine cM (nodeUp_ (by omega)) ?_); rintro e wb ⟨rfl, hb5⟩; rw [hup]) | (go_at_call 144; (with_reducible refine Calls.mono msgMay_ ?_); rintro e wc ⟨rfl, hb6⟩; rw [hm]) | (go_at_call 58; (with_reducible refine cM (nodeCopy_ hsm) ?_); rintro e w9 ⟨v9, rfl, ⟨A6, c6, B6, d6, I6, ci6, L6, cl6, rfl, hF6, hG6, hH6, hK6⟩, hb9⟩))
 go_region_with (first | (go_at_call 165; (with_reducible refine cM (handHello_) ?_); rintro e w1 ⟨rfl, ⟨A7, c7, B7, d7, I7, ci7, L7, cl7, M7, cm7, hB7, hF7, hG7, hH7, hK7, hM7⟩, hkb⟩; simp only at hB7 hF7 hG7 hH7 hK7 hM7))
 all_goals
  go_upto_region 6 with fail
  go_region_with fail
  all_goals
   go_wp2
   exact bodyPost_ret (v := .tuple #[.agg #[.bool true, .int .i64 (takeV ⟨id, ps, xs⟩ f1 ids).f0, .slice A7 (takeV ⟨id, ps, xs⟩ f1 ids).f1.length c7, .slice B7 (takeV ⟨id, ps, xs⟩ f1 ids).f2.length d7, .slice I7 is.length ci7, .slice L7 ls.length cl7], .slice M7 0 cm7, .int .i64 0]) (by simp [results, Tryz.results127, go_sem]) rfl ⟨_, _, _, rfl, ⟨_, _, _, _, _, _, _, _, rfl, frl, frl, frl, lgl⟩, frl, belL⟩
set_option maxRecDepth 100000 in
set_option maxHeartbeats 8000000 in
theorem handleItem_ {id : Int} {A B I L : Option Addr} {n c m d ni ci nl cl : Nat} {ps : List S98} {xs : List Int} {is : List S48} {ls : List S77} {w : World} [h1 : Sr k98 w A n c ps] [h2 : Sr kI w B m d xs] [h3 : Sr k48 w I ni ci is] [h4 : Sr k77 w L nl cl ls] {f1 f4 k cc x v : Int} {gn q : Bool} {ids : List Int} {A3 : Option Addr} {n3 c3 : Nat} [h5 : Sr kI w A3 n3 c3 ids] (hn : nodeB ⟨true, ⟨id, ps, xs⟩, is, ls⟩ = true) (hm : msgB ⟨1, f1, id, ids, f4, ⟨k, ⟨cc, x⟩, v, gn⟩, q⟩ = true) (hi : ids.length ≤ 1000000) (hk : itemB k cc x v gn = true) :
 Calls Tryz.prog 127 #[.agg #[.bool true, .int .i64 id, .slice A n c, .slice B m d, .slice I ni ci, .slice L nl cl], .agg #[.int .i64 1, .int .i64 f1, .int .i64 id, .slice A3 n3 c3, .int .i64 f4, .int .i64 k, .int .i64 cc, .int .i64 x, .int .i64 v, .bool gn, .bool q]] w fun e w' => ∃ v' A' c', e = .returned (.tuple #[v', .slice A' ([] : List S126).length c', .int .i64 0]) ∧ NodeQ w' w.heap.size v' ⟨true, ⟨id, ps, xs⟩, (takeL is ⟨k, ⟨cc, x⟩, v, gn⟩), ls⟩ ∧ FrL k126 126 w' w.heap.size (Under w'.heap.size) A' ([] : List S126).length c' ([] : List S126) ∧ BelL w w' := by
 obtain rfl := h1.len
 obtain rfl := h2.len
 obtain rfl := h3.len
 obtain rfl := h4.len
 obtain rfl := h5.len
 have s1 := sr_l h1
 have s2 := sr_l h2
 have s3 := sr_l h3
 have s4 := sr_l h4
 have s5 := sr_l h5
 clear h1 h2 h3 h4 h5
 have hsm := nodeB_small hn
 have hup : (true && nodeB ⟨true, ⟨id, ps, xs⟩, is, ls⟩) = true := by rw [hn]; rfl
 go_enter Tryz.func127, Tryz.ntmps127
 go_upto_region 5 with (first | (with_reducible refine box_tc rfl (N := 2) rfl (cs := #[.bool true, .int .i64 id, .slice A ps.length c, .slice B xs.length d, .slice I is.length ci, .slice L ls.length cl]) (t := 40) ?hr ?_; (case hr => go_simp <;> rfl); intro g2 wg2 _ _ _) | (with_reducible refine box_tc rfl (N := 3) rfl (cs := #[.int .i64 1, .int .i64 f1, .int .i64 id, .slice A3 ids.length c3, .int .i64 f4, .int .i64 k, .int .i64 cc, .int .i64 x, .int .i64 v, .bool gn, .bool q]) (t := 126) ?hr ?_; (case hr => go_simp <;> rfl); intro g3 wg3 _ _ _) | (with_reducible refine box_tc rfl (N := 4) rfl (cs := #[.bool false, .int .i64 0, .slice none 0 0, .slice none 0 0, .slice none 0 0, .slice none 0 0]) (t := 40) ?hr ?_; (case hr => go_simp <;> rfl); intro g4 wg4 _ _ _) | (with_reducible refine box_tc rfl (N := 8) rfl (cs := #[.nilFunc, .nilFunc, .nilFunc, .nilFunc]) (t := 208) ?hr ?_; (case hr => go_simp <;> rfl); intro g8 wg8 _ _ _) | (with_reducible refine box_tc rfl (N := 29) rfl (cs := #[.bool true, .int .i64 id, .slice A6 ps.length c6, .slice B6 xs.length d6, .slice I6 is.length ci6, .slice L6 ls.length cl6, .slice none 0 0]) (t := 206) ?hr ?_; (case hr => go_simp <;> rfl); intro g29 wg29 _ _ _) | (go_at_call 56; (with_reducible refine cM (nodeUp_ (by omega)) ?_); rintro e wb ⟨rfl, hb5⟩; rw [hup]) | (go_at_call 144; (with_reducible refine Calls.mono msgMay_ ?_); rintro e wc ⟨rfl, hb6⟩; rw [hm]) | (go_at_call 58; (with_reducible refine cM (nodeCopy_ hsm) ?_); rintro e w9 ⟨v9, rfl, ⟨A6, c6, B6, d6, I6, ci6, L6, cl6, rfl, hF6, hG6, hH6, hK6⟩, hb9⟩))
 go_region_with (first | (go_at_call 166; (with_reducible refine cM (handItem_ hn hk) ?_); rintro e w1 ⟨rfl, ⟨A7, c7, B7, d7, I7, ci7, L7, cl7, M7, cm7, hB7, hF7, hG7, hH7, hK7, hM7⟩, hkb⟩; simp only at hB7 hF7 hG7 hH7 hK7 hM7))
 all_goals
  go_upto_region 6 with fail
  go_region_with fail
  all_goals
   go_wp2
   exact bodyPost_ret (v := .tuple #[.agg #[.bool true, .int .i64 id, .slice A7 ps.length c7, .slice B7 xs.length d7, .slice I7 (takeL is ⟨k, ⟨cc, x⟩, v, gn⟩).length ci7, .slice L7 ls.length cl7], .slice M7 0 cm7, .int .i64 0]) (by simp [results, Tryz.results127, go_sem]) rfl ⟨_, _, _, rfl, ⟨_, _, _, _, _, _, _, _, rfl, frl, frl, frl, lgl⟩, frl, belL⟩
set_option maxRecDepth 100000 in
set_option maxHeartbeats 8000000 in
theorem handleAsk_ {id : Int} {A B I L : Option Addr} {n c m d ni ci nl cl : Nat} {ps : List S98} {xs : List Int} {is : List S48} {ls : List S77} {w : World} [h1 : Sr k98 w A n c ps] [h2 : Sr kI w B m d xs] [h3 : Sr k48 w I ni ci is] [h4 : Sr k77 w L nl cl ls] {f1 f4 k cc x v : Int} {gn q : Bool} {ids : List Int} {A3 : Option Addr} {n3 c3 : Nat} [h5 : Sr kI w A3 n3 c3 ids] (hn : nodeB ⟨true, ⟨id, ps, xs⟩, is, ls⟩ = true) (hm : msgB ⟨2, f1, id, ids, f4, ⟨k, ⟨cc, x⟩, v, gn⟩, q⟩ = true) (hi : ids.length ≤ 1000000)  :
 Calls Tryz.prog 127 #[.agg #[.bool true, .int .i64 id, .slice A n c, .slice B m d, .slice I ni ci, .slice L nl cl], .agg #[.int .i64 2, .int .i64 f1, .int .i64 id, .slice A3 n3 c3, .int .i64 f4, .int .i64 k, .int .i64 cc, .int .i64 x, .int .i64 v, .bool gn, .bool q]] w fun e w' => ∃ v' A' c', e = .returned (.tuple #[v', .slice A' [(⟨3, id, f1, [], f4, (getI is f4).getD z48, (getI is f4).isSome⟩ : S126)].length c', .int .i64 0]) ∧ NodeQ w' w.heap.size v' ⟨true, ⟨id, ps, xs⟩, is, ls⟩ ∧ FrL k126 126 w' w.heap.size (Under w'.heap.size) A' [(⟨3, id, f1, [], f4, (getI is f4).getD z48, (getI is f4).isSome⟩ : S126)].length c' [(⟨3, id, f1, [], f4, (getI is f4).getD z48, (getI is f4).isSome⟩ : S126)] ∧ BelL w w' := by
 obtain rfl := h1.len
 obtain rfl := h2.len
 obtain rfl := h3.len
 obtain rfl := h4.len
 obtain rfl := h5.len
 have s1 := sr_l h1
 have s2 := sr_l h2
 have s3 := sr_l h3
 have s4 := sr_l h4
 have s5 := sr_l h5
 clear h1 h2 h3 h4 h5
 have hsm := nodeB_small hn
 have hup : (true && nodeB ⟨true, ⟨id, ps, xs⟩, is, ls⟩) = true := by rw [hn]; rfl
 go_enter Tryz.func127, Tryz.ntmps127
 go_upto_region 5 with (first | (with_reducible refine box_tc rfl (N := 2) rfl (cs := #[.bool true, .int .i64 id, .slice A ps.length c, .slice B xs.length d, .slice I is.length ci, .slice L ls.length cl]) (t := 40) ?hr ?_; (case hr => go_simp <;> rfl); intro g2 wg2 _ _ _) | (with_reducible refine box_tc rfl (N := 3) rfl (cs := #[.int .i64 2, .int .i64 f1, .int .i64 id, .slice A3 ids.length c3, .int .i64 f4, .int .i64 k, .int .i64 cc, .int .i64 x, .int .i64 v, .bool gn, .bool q]) (t := 126) ?hr ?_; (case hr => go_simp <;> rfl); intro g3 wg3 _ _ _) | (with_reducible refine box_tc rfl (N := 4) rfl (cs := #[.bool false, .int .i64 0, .slice none 0 0, .slice none 0 0, .slice none 0 0, .slice none 0 0]) (t := 40) ?hr ?_; (case hr => go_simp <;> rfl); intro g4 wg4 _ _ _) | (with_reducible refine box_tc rfl (N := 8) rfl (cs := #[.nilFunc, .nilFunc, .nilFunc, .nilFunc]) (t := 208) ?hr ?_; (case hr => go_simp <;> rfl); intro g8 wg8 _ _ _) | (with_reducible refine box_tc rfl (N := 29) rfl (cs := #[.bool true, .int .i64 id, .slice A6 ps.length c6, .slice B6 xs.length d6, .slice I6 is.length ci6, .slice L6 ls.length cl6, .slice none 0 0]) (t := 206) ?hr ?_; (case hr => go_simp <;> rfl); intro g29 wg29 _ _ _) | (go_at_call 56; (with_reducible refine cM (nodeUp_ (by omega)) ?_); rintro e wb ⟨rfl, hb5⟩; rw [hup]) | (go_at_call 144; (with_reducible refine Calls.mono msgMay_ ?_); rintro e wc ⟨rfl, hb6⟩; rw [hm]) | (go_at_call 58; (with_reducible refine cM (nodeCopy_ hsm) ?_); rintro e w9 ⟨v9, rfl, ⟨A6, c6, B6, d6, I6, ci6, L6, cl6, rfl, hF6, hG6, hH6, hK6⟩, hb9⟩))
 go_region_with (first | (go_at_call 167; (with_reducible refine cM (handAsk_ hn hm hi) ?_); rintro e w1 ⟨rfl, ⟨A7, c7, B7, d7, I7, ci7, L7, cl7, M7, cm7, hB7, hF7, hG7, hH7, hK7, hM7⟩, hkb⟩; simp only at hB7 hF7 hG7 hH7 hK7 hM7))
 all_goals
  go_upto_region 6 with fail
  go_region_with fail
  all_goals
   go_wp2
   exact bodyPost_ret (v := .tuple #[.agg #[.bool true, .int .i64 id, .slice A7 ps.length c7, .slice B7 xs.length d7, .slice I7 is.length ci7, .slice L7 ls.length cl7], .slice M7 1 cm7, .int .i64 0]) (by simp [results, Tryz.results127, go_sem]) rfl ⟨_, _, _, rfl, ⟨_, _, _, _, _, _, _, _, rfl, frl, frl, frl, lgl⟩, frl, belL⟩
set_option maxRecDepth 100000 in
set_option maxHeartbeats 8000000 in
theorem handleTell_ {id : Int} {A B I L : Option Addr} {n c m d ni ci nl cl : Nat} {ps : List S98} {xs : List Int} {is : List S48} {ls : List S77} {w : World} [h1 : Sr k98 w A n c ps] [h2 : Sr kI w B m d xs] [h3 : Sr k48 w I ni ci is] [h4 : Sr k77 w L nl cl ls] {f1 f4 k cc x v : Int} {gn q : Bool} {ids : List Int} {A3 : Option Addr} {n3 c3 : Nat} [h5 : Sr kI w A3 n3 c3 ids] (hn : nodeB ⟨true, ⟨id, ps, xs⟩, is, ls⟩ = true) (hm : msgB ⟨3, f1, id, ids, f4, ⟨k, ⟨cc, x⟩, v, gn⟩, q⟩ = true) (hi : ids.length ≤ 1000000)  :
 Calls Tryz.prog 127 #[.agg #[.bool true, .int .i64 id, .slice A n c, .slice B m d, .slice I ni ci, .slice L nl cl], .agg #[.int .i64 3, .int .i64 f1, .int .i64 id, .slice A3 n3 c3, .int .i64 f4, .int .i64 k, .int .i64 cc, .int .i64 x, .int .i64 v, .bool gn, .bool q]] w fun e w' => ∃ v' A' c', e = .returned (.tuple #[v', .slice A' ([] : List S126).length c', .int .i64 0]) ∧ NodeQ w' w.heap.size v' ⟨true, ⟨id, ps, xs⟩, is, (noteL ls (noteT f4 ⟨k, ⟨cc, x⟩, v, gn⟩ q))⟩ ∧ FrL k126 126 w' w.heap.size (Under w'.heap.size) A' ([] : List S126).length c' ([] : List S126) ∧ BelL w w' := by
 obtain rfl := h1.len
 obtain rfl := h2.len
 obtain rfl := h3.len
 obtain rfl := h4.len
 obtain rfl := h5.len
 have s1 := sr_l h1
 have s2 := sr_l h2
 have s3 := sr_l h3
 have s4 := sr_l h4
 have s5 := sr_l h5
 clear h1 h2 h3 h4 h5
 have hsm := nodeB_small hn
 have hup : (true && nodeB ⟨true, ⟨id, ps, xs⟩, is, ls⟩) = true := by rw [hn]; rfl
 go_enter Tryz.func127, Tryz.ntmps127
 go_upto_region 5 with (first | (with_reducible refine box_tc rfl (N := 2) rfl (cs := #[.bool true, .int .i64 id, .slice A ps.length c, .slice B xs.length d, .slice I is.length ci, .slice L ls.length cl]) (t := 40) ?hr ?_; (case hr => go_simp <;> rfl); intro g2 wg2 _ _ _) | (with_reducible refine box_tc rfl (N := 3) rfl (cs := #[.int .i64 3, .int .i64 f1, .int .i64 id, .slice A3 ids.length c3, .int .i64 f4, .int .i64 k, .int .i64 cc, .int .i64 x, .int .i64 v, .bool gn, .bool q]) (t := 126) ?hr ?_; (case hr => go_simp <;> rfl); intro g3 wg3 _ _ _) | (with_reducible refine box_tc rfl (N := 4) rfl (cs := #[.bool false, .int .i64 0, .slice none 0 0, .slice none 0 0, .slice none 0 0, .slice none 0 0]) (t := 40) ?hr ?_; (case hr => go_simp <;> rfl); intro g4 wg4 _ _ _) | (with_reducible refine box_tc rfl (N := 8) rfl (cs := #[.nilFunc, .nilFunc, .nilFunc, .nilFunc]) (t := 208) ?hr ?_; (case hr => go_simp <;> rfl); intro g8 wg8 _ _ _) | (with_reducible refine box_tc rfl (N := 29) rfl (cs := #[.bool true, .int .i64 id, .slice A6 ps.length c6, .slice B6 xs.length d6, .slice I6 is.length ci6, .slice L6 ls.length cl6, .slice none 0 0]) (t := 206) ?hr ?_; (case hr => go_simp <;> rfl); intro g29 wg29 _ _ _) | (go_at_call 56; (with_reducible refine cM (nodeUp_ (by omega)) ?_); rintro e wb ⟨rfl, hb5⟩; rw [hup]) | (go_at_call 144; (with_reducible refine Calls.mono msgMay_ ?_); rintro e wc ⟨rfl, hb6⟩; rw [hm]) | (go_at_call 58; (with_reducible refine cM (nodeCopy_ hsm) ?_); rintro e w9 ⟨v9, rfl, ⟨A6, c6, B6, d6, I6, ci6, L6, cl6, rfl, hF6, hG6, hH6, hK6⟩, hb9⟩))
 go_region_with (first | (go_at_call 168; (with_reducible refine cM (handTell_ hn hm hi) ?_); rintro e w1 ⟨rfl, ⟨A7, c7, B7, d7, I7, ci7, L7, cl7, M7, cm7, hB7, hF7, hG7, hH7, hK7, hM7⟩, hkb⟩; simp only at hB7 hF7 hG7 hH7 hK7 hM7))
 all_goals
  go_upto_region 6 with fail
  go_region_with fail
  all_goals
   go_wp2
   exact bodyPost_ret (v := .tuple #[.agg #[.bool true, .int .i64 id, .slice A7 ps.length c7, .slice B7 xs.length d7, .slice I7 is.length ci7, .slice L7 (noteL ls (noteT f4 ⟨k, ⟨cc, x⟩, v, gn⟩ q)).length cl7], .slice M7 0 cm7, .int .i64 0]) (by simp [results, Tryz.results127, go_sem]) rfl ⟨_, _, _, rfl, ⟨_, _, _, _, _, _, _, _, rfl, frl, frl, frl, lgl⟩, frl, belL⟩
end
section
attribute [local go_sem] cell_tc2
theorem bsCut0_ {a b : Int} {A : Option Addr} {c : Nat} {w : World} :
 Calls Tryz.prog 192 #[.slice A 0 c, .agg #[.int .i64 a, .int .i64 b], .func (.func 142) #[] #[]] w fun e w' => e = .returned (.tuple #[.int .i64 0, .bool false]) ∧ BelL w w' := by
 go_enter Tryz.func192, Tryz.ntmps192
 go_wp2
 go_loopg [9, 10] 0 (fun kx v6 v7 w_ => v6 = .int .i64 0 ∧ v7 = .int .i64 0 ∧ BelL w w_)
 case atStart => exact ⟨rfl, rfl, belL⟩
 case round =>
  obtain ⟨rfl, rfl, hbr⟩ := hrel
  go_wp2
  go_quiet (fail)
  go_wp2
  go_ret2
  exact ⟨rfl, belL⟩
set_option maxHeartbeats 1000000 in
theorem cutsAsk0_ {a b : Int} {A : Option Addr} {c : Nat} {w : World} (pa : placeB a = true) (pb : placeB b = true) (hn : (a == b) = false) :
 Calls Tryz.prog 164 #[.slice A 0 c, .int .i64 a, .int .i64 b] w fun e w' => ∃ B d, e = .returned (.tuple #[.agg #[.slice B 0 d, .int .i64 (min a b), .int .i64 (max a b), .int .i64 0, .bool false], .bool true]) ∧ BelL w w' := by
 go_enter Tryz.func164, Tryz.ntmps164
 go_upto_region 5 with (first | (with_reducible refine box_tc rfl (N := 6) rfl (cs := #[.slice none 0 0, .int .i64 0, .int .i64 0, .int .i64 0, .bool false]) (t := 201) ?hr ?_; (case hr => go_simp <;> rfl); intro g6 wg6 _ _ _) | (with_reducible refine box_tc rfl (N := 8) rfl (cs := #[.int .i64 0, .int .i64 0]) (t := 157) ?hr ?_; (case hr => go_simp <;> rfl); intro g8 wg8 _ _ _) | (go_at_call 91; (with_reducible refine cM (cutsMay0_) ?_); rintro e wb ⟨rfl, hb⟩) | (go_at_call 35; first | ((with_reducible refine cM (place a _) ?_); rintro e w' ⟨rfl, ⟨nd, rfl⟩⟩; rw [pa]) | ((with_reducible refine cM (place b _) ?_); rintro e w' ⟨rfl, ⟨nd, rfl⟩⟩; rw [pb])) | (go_at_call 192; (with_reducible refine cM (bsCut0_) ?_); rintro e wc ⟨rfl, hb⟩))
 go_region_with (first | (go_at_call 118; (with_reducible refine cM (cloneCut0_) ?_); rintro e w2 ⟨B2, d2, rfl, hb2⟩))
 all_goals
  go_wp2
  exact bodyPost_ret (v := .tuple #[.agg #[.slice B2 0 d2, .int .i64 (min a b), .int .i64 (max a b), .int .i64 0, .bool false], .bool true]) (by simp [results, Tryz.results164, go_sem]) rfl ⟨_, _, rfl, belL⟩
theorem cutsIs0_ {a b : Int} {A : Option Addr} {c : Nat} {w : World} (pa : placeB a = true) (pb : placeB b = true) (hn : (a == b) = false) :
 Calls Tryz.prog 126 #[.slice A 0 c, .int .i64 a, .int .i64 b] w fun e w' => e = .returned (.tuple #[.bool false, .int .i64 0]) ∧ BelL w w' := by
 go_enter Tryz.func126, Tryz.ntmps126
 go_wp2_with (first | (with_reducible refine box_tc rfl (N := 8) rfl (cs := #[.slice none 0 0, .int .i64 0, .int .i64 0, .int .i64 0, .bool false]) (t := 201) ?hr ?_; (case hr => go_simp <;> rfl); intro g8 wg8 _ _ _) | (go_at_call 164; (with_reducible refine cM (cutsAsk0_ pa pb hn) ?_); rintro e w2 ⟨B2, d2, rfl, hb2⟩))
 go_ret2
 exact ⟨rfl, belL⟩
end
section
attribute [local go_sem] cell_tc2 frozen_row
class GeB (b g : Nat) : Prop where out : b ≤ g
class Bb (b : Nat) (w W : World) : Prop where out : b ≤ w.heap.size ∧ Below b w W
theorem bbL {b : Nat} {w W : World} [h : Bb b w W] : BbL b w W := ⟨h.out⟩
theorem bb_size {b : Nat} {w W : World} (h : b ≤ w.heap.size ∧ Below b w W) : b ≤ W.heap.size := Nat.le_trans h.1 h.2.size
instance bb_refl {b : Nat} {w : World} [h : LeB b w.heap.size] : Bb b w w := ⟨h.out, Below.refl _ _⟩
theorem bb_then {b : Nat} {w W1 W : World} (h : Bb b w W1) (k : Below W1.heap.size W1 W) : Bb b w W :=
 ⟨h.out.1, h.out.2.trans ⟨k.os, k.tape, k.output, k.size, fun i hi => k.block i (Nat.lt_of_lt_of_le hi (bb_size h.out))⟩⟩
instance bb_alloc {b : Nat} {w W : World} {o : Obj} [h : Bb b w W] : Bb b w (W.alloc o) := bb_then h (below_alloc (Below.refl _ _) o)
instance bb_drewN {b n : Nat} {w W : World} [h : Bb b w W] : Bb b w (W.drewN n) := bb_then h (pw_below_drewN (Below.refl _ _) n)
instance bb_drew {b : Nat} {w W : World} [h : Bb b w W] : Bb b w W.drew := bb_then h (below_drew1 (Below.refl _ _))
instance bb_step {b : Nat} {w W1 W : World} [q : BelL W1 W] [h : Bb b w W1] : Bb b w W := bb_then h q.out
instance bb_bb {b : Nat} {w W1 W : World} [q : BbL b W1 W] [h : Bb b w W1] : Bb b w W := ⟨h.out.1, h.out.2.trans q.out.2⟩
instance bb_set {b g j : Nat} {w W : World} {v : Value} [h : Bb b w W] [k : GeB b g] : Bb b w (W.setCell ⟨g, j, none⟩ v) :=
 ⟨h.out.1, h.out.2.trans ⟨rfl, rfl, rfl, by simp [World.setCell, Array.size_modify], fun i hi => Below.heap_setCell W ⟨g, j, none⟩ v i (by have := k.out; show i ≠ g; omega)⟩⟩
instance bb_kb {b g : Nat} {w W1 W : World} [q : KbL g W1 W] [h : Bb b w W1] [k : GeB b g] : Bb b w W :=
 ⟨h.out.1, h.out.2.trans ⟨q.out.1.symm, q.out.2.1.symm, q.out.2.2.1.symm, q.out.2.2.2.1, fun i hi => q.out.2.2.2.2 i (Nat.lt_of_lt_of_le hi (bb_size h.out)) (by have := k.out; omega)⟩⟩
instance geb_gel {b g : Nat} {w : World} [k : GEL w g] [h : LeB b w.heap.size] : GeB b g := ⟨Nat.le_trans h.out k.out⟩
def DoerIs (w : World) (g b : Nat) (ns : List S40) (ms : List S126) : Prop := ∃ A c B d C f, BlkL w g #[.slice A ns.length c, .slice B 0 d, .slice C ms.length f] 119 ∧ FrL k40 40 w b (But g) A ns.length c ns ∧ FrL k126 126 w b (But g) C ms.length f ms
set_option maxHeartbeats 1000000 in
theorem there_ {g t : Nat} {key : Int} {A B C : Option Addr} {n c m d k f : Nat} {l : List S40} {w : World} [hg : Blk w g #[.slice A n c, .slice B m d, .slice C k f] t] [h : Sr k40 w A n c l] (hs : nodesB l = true) :
 Calls Tryz.prog 120 #[.pointer (some ⟨g, 0, none⟩), .int .i64 key] w fun e w' => e = .returned (.bool (isNode l key)) ∧ BelL w w' := by
 have s1 := sr_l h
 have k1 : BlkL w g #[.slice A n c, .slice B m d, .slice C k f] t := blkL
 clear h hg
 go_enter Tryz.func120, Tryz.ntmps120
 go_wp2_with (first | (go_at_call 96; (with_reducible refine cM (find_ hs) ?_); rintro e wf ⟨rfl, hbf⟩))
 go_ret
 exact ⟨rfl, belL⟩
set_option maxHeartbeats 1000000 in
theorem doerNode_ {g ga gr t ta ne ce : Nat} {a0 a1 a2 a3 a5 a6 : Int} {B C E : Option Addr} {n c m d k f : Nat} {l : List S40} {w : World} [hg : Blk w g #[.slice (some ⟨gr, 0, none⟩) n c, .slice B m d, .slice C k f] t] [ha : Blk w ga #[.int .i64 a0, .int .i64 a1, .int .i64 a2, .int .i64 a3, .slice E ne ce, .int .i64 a5, .int .i64 a6] ta] [h : Sr k40 w (some ⟨gr, 0, none⟩) n c l] (hs : nodesB l = true) (hk : isNode l a1 = true) :
 Calls Tryz.prog 122 #[.pointer (some ⟨g, 0, none⟩), .pointer (some ⟨ga, 0, none⟩)] w fun e w' => e = .returned (.pointer (some ⟨gr, placeN l a1 * 6, none⟩)) ∧ BelL w w' := by
 have s1 := sr_l h
 have hl := h.len
 have k1 : BlkL w g #[.slice (some ⟨gr, 0, none⟩) n c, .slice B m d, .slice C k f] t := blkL
 have k2 : BlkL w ga #[.int .i64 a0, .int .i64 a1, .int .i64 a2, .int .i64 a3, .slice E ne ce, .int .i64 a5, .int .i64 a6] ta := blkL
 have hp : placeN l a1 < l.length := (placeN_at hs hk).1
 have hp1 : (placeN l a1 : Int) < (n : Int) := by omega
 generalize hpl : placeN l a1 = q at hp1 ⊢
 have HPL := Aside0.mk hpl
 clear h hg ha hp hpl
 go_enter Tryz.func122, Tryz.ntmps122
 go_upto_region 1 with fail
 go_region_with (first | (go_at_call 96; (with_reducible refine cM (find_ hs) ?_); rintro e wf ⟨rfl, hbf⟩; rw [HPL.out]))
 all_goals
  go_wp2
  go_ret
  exact ⟨rfl, belL⟩
set_option maxHeartbeats 2000000 in
theorem send_ {g n c d k f m cm : Nat} {A B C D : Option Addr} {ns : List S40} {ps ms : List S126} {w : World} [hg : Blk w g #[.slice A n c, .slice B 0 d, .slice C k f] 119] [h : Sr k40 w A n c ns] [q : Sr k126 w C k f ps] [r : Sr k126 w D m cm ms] (h0 : nodesSz ns) (h1 : mayB ns ps = true) (h2 : mayB ns ms = true) :
 Calls Tryz.prog 124 #[.pointer (some ⟨g, 0, none⟩), .slice D m cm] w fun e w' => e = .returned (.tuple #[]) ∧ DoerIs w' g w.heap.size ns (sendQ ps ms) ∧ KbL g w w' := by
 have s1 := sr_l h
 have s2 := sr_l q
 have s3 := sr_l r
 have k1 : BlkL w g #[.slice A n c, .slice B 0 d, .slice C k f] 119 := blkL
 have hlt : LtB g w.heap.size := inferInstance
 generalize hS : sendQ ps ms = S
 have HS := Aside0.mk hS
 clear h q r hg hS
 go_enter Tryz.func124, Tryz.ntmps124
 go_wp2_with (first | (go_at_call 162; (with_reducible refine cM (worldSend_ h0 h1 h2) ?_); rintro e w2 ⟨v2, rfl, ⟨A2, c2, B2, d2, C2, f2, rfl, hF2, hG2⟩, hb2⟩; rw [HS.out] at hG2 ⊢))
 go_end0
 exact ⟨rfl, ⟨_, _, _, _, _, _, blkL, frl_but, frl_but⟩, kbL⟩
end
theorem LogIs.reads {W : World} {b : Nat} {S : Nat → Prop} {A : Option Addr} {xs : List S77} (h : LogIs W b S A xs) : k77.C W A xs.length xs := by
 obtain ⟨A0, n0, c0, ys, i, rfl, rfl, hi, hR⟩ := h
 obtain ⟨e1, e2, hC⟩ := Kd.R_reads' hR
 refine ⟨rfl, by have := hC.2.1; rw [List.length_drop]; omega, fun hp => ?_⟩
 rw [List.length_drop] at hp
 obtain ⟨ad, rfl, hc⟩ := hC.2.2 (by omega)
 refine ⟨_, rfl, fun j p hj => ?_⟩
 rw [List.getElem?_drop] at hj
 obtain ⟨c, h1, h2, h3⟩ := hc (i + j) p hj
 refine ⟨c, h1, h2, fun q u hu => ?_⟩
 have := h3 q u hu
 have e : (ad.add (i * 3)).add (j * k77.sz + q) = ad.add ((i + j) * k77.sz + q) := by
  rw [show k77.sz = 3 from rfl]
  rw [show ∀ (a : Addr) (m n : Nat), (a.add m).add n = a.add (m + n) from fun a m n => add_add a m n, show i * 3 + (j * 3 + q) = (i + j) * 3 + q by omega]
 rw [e]
 exact this
def lk77 : Kd (List S77) where
 sz := 1
 E := 77 :: k77.E
 K := fun w xs cs => ∃ A c, cs = [.slice A xs.length c] ∧ xs.length ≤ c ∧ k77.C w A xs.length xs
 M := fun w b ok xs cs => ∃ A c, cs = [.slice A xs.length c] ∧ xs.length ≤ c ∧ LogIs w b ok A xs
 K_len := by
  rintro w x cs ⟨A, c, rfl, _⟩
  rfl
 K_one := by
  rintro w x cs ⟨A, c, rfl, _⟩ u hu
  rw [List.mem_singleton.1 hu]
  rfl
 K_below := by
  rintro w w1 x cs hb ⟨A, c, rfl, hl, hr⟩
  exact ⟨A, c, rfl, hl, Kd.C_below hr hb⟩
 K_of_M := by
  rintro w base ok x cs ⟨A, c, rfl, hl, h⟩
  exact ⟨A, c, rfl, hl, h.reads⟩
 M_mono := by
  rintro w base ok ok' x cs hok ⟨A, c, rfl, hl, A0, n0, c0, ys, i, h1, h2, h3, h4⟩
  exact ⟨A, c, rfl, hl, A0, n0, c0, ys, i, h1, h2, h3, Kd.R_mono h4 hok⟩
 M_bound := by
  rintro w base ok x cs ⟨A, c, rfl, hl, A0, n0, c0, ys, i, h1, h2, h3, h4⟩
  exact ⟨A, c, rfl, hl, A0, n0, c0, ys, i, h1, h2, h3, Kd.R_bound h4⟩
 M_move := by
  rintro w w1 base ok x cs hm ⟨A, c, rfl, hl, A0, n0, c0, ys, i, h1, h2, h3, h4⟩
  exact ⟨A, c, rfl, hl, A0, n0, c0, ys, i, h1, h2, h3, Kd.R_move h4 hm⟩
 M_lower := by
  rintro w base base' ok x cs hb ⟨A, c, rfl, hl, A0, n0, c0, ys, i, h1, h2, h3, h4⟩
  exact ⟨A, c, rfl, hl, A0, n0, c0, ys, i, h1, h2, h3, Kd.R_lower h4 hb⟩
def lk40 : Kd S40 := Kd.iso (Kd.pair Kd.bool (Kd.pair k25 (Kd.pair (Kd.slice 48 k48) lk77))) (fun x : S40 => (x.f0, x.f1, x.f2, x.f3))
theorem log_of {W : World} {b : Nat} {S : Nat → Prop} {v : Value} {xs : List S77} (h : k77.R 77 W b S v xs) : ∃ A c, v = .slice A xs.length c ∧ xs.length ≤ c ∧ LogIs W b S A xs := by
 obtain ⟨A, c, rfl, hl, _⟩ := Kd.R_reads h
 have hfr : Fr k77 77 W b S A xs.length c xs := ⟨rfl, hl, h⟩
 exact ⟨A, c, rfl, hl, (lg_fr (h := hfr)).out⟩
theorem lk40_of {W : World} {b : Nat} {S : Nat → Prop} {v : Value} {xs : List S40} (h : k40.R 40 W b S v xs) : lk40.R 40 W b S v xs := by
 obtain ⟨h0, h1⟩ := h
 refine ⟨h0, h1.imp_ fun x cs hx => ?_⟩
 obtain ⟨v2, v3, v4, v5, rfl, g2, g3, g4, g5⟩ := k40_openM hx
 obtain ⟨A5, c5, rfl, l5, q5⟩ := log_of g5
 exact ⟨[.bool x.f0], [.int .i64 x.f1.f0, v2, v3, v4, _], rfl, rfl, ⟨[.int .i64 x.f1.f0, v2, v3], [v4, _], rfl, k25_mkM W b _ x.f1 g2 g3, ⟨[v4], [_], rfl, ⟨v4, rfl, g4⟩, ⟨A5, c5, rfl, l5, q5⟩⟩⟩⟩
theorem node_put {W : World} {b b2 : Nat} {S S1 S2 S3 S4 : Nat → Prop} {g n c n1 c1 n2 c2 n3 c3 n4 c4 : Nat} {A1 A2 A3 A4 : Option Addr} {l : List S40} {x : S40} (h : Fr k40 40 W b S (some ⟨g, 0, none⟩) n c l) (i : Nat) (hi : i < l.length)
 (h1 : Fr k98 98 W b2 S1 A1 n1 c1 x.f1.f1) (h2 : Fr kI 3 W b2 S2 A2 n2 c2 x.f1.f2) (h3 : Fr k48 48 W b2 S3 A3 n3 c3 x.f2) (h4 : Lg W b2 S4 A4 n4 c4 x.f3) (hb2 : b ≤ b2) (hg2 : g < b2) :
 SrL k40 ((((((W.setCell ⟨g, i * 6, none⟩ (.bool x.f0)).setCell ⟨g, i * 6 + 1, none⟩ (.int .i64 x.f1.f0)).setCell ⟨g, i * 6 + 2, none⟩ (.slice A1 n1 c1)).setCell ⟨g, i * 6 + 3, none⟩ (.slice A2 n2 c2)).setCell ⟨g, i * 6 + 4, none⟩ (.slice A3 n3 c3)).setCell ⟨g, i * 6 + 5, none⟩ (.slice A4 n4 c4)) (some ⟨g, 0, none⟩) n c (l.set i x) := by
 have hl := h.len
 obtain ⟨ad, cs, q0, q1, _, q3⟩ := Kd.C_get (Kd.R_reads' h.R).2.2 z40 (i : Int) (by omega) (by omega)
 injection q0 with q0
 subst q0
 have e1 := h1.len
 have e2 := h2.len
 have e3 := h3.len
 have e4 := h4.len
 subst e1 e2 e3 e4
 have hR4 : LogIs W b (fun j => b2 ≤ j) A4 x.f3 := by
  obtain ⟨A0, n0, c0, ys, k, w1, w2, w3, w4⟩ := h4.out
  exact ⟨A0, n0, c0, ys, k, w1, w2, w3, Kd.R_mono (Kd.R_lower (Kd.R_bound w4) hb2) (fun j hj => hj.2.1)⟩
 have hs := Kd.R_seg (d := lk40) (okp := fun j => b2 ≤ j) (lk40_of h.any) (i : Int) (by omega) (by omega) (j := 0) (seg := [.bool x.f0, .int .i64 x.f1.f0, .slice A1 x.f1.f1.length c1, .slice A2 x.f1.f2.length c2, .slice A3 x.f2.length c3, .slice A4 x.f3.length c4]) q1 (fun j u hj => by have := q3 j u hj; rwa [Addr.add_lit, Nat.zero_add] at this) (Nat.le_refl 6) (x' := x)
  (by
   have e6 : cs.drop (0 + 6) = [] := List.drop_eq_nil_of_le (by rw [q1]; exact Nat.le_refl 6)
   show lk40.M W b (fun j => b2 ≤ j) x (cs.take 0 ++ [.bool x.f0, .int .i64 x.f1.f0, .slice A1 x.f1.f1.length c1, .slice A2 x.f1.f2.length c2, .slice A3 x.f2.length c3, .slice A4 x.f3.length c4] ++ cs.drop (0 + 6))
   rw [e6, List.take_zero, List.nil_append, List.append_nil]
   exact ⟨[.bool x.f0], [.int .i64 x.f1.f0, _, _, _, _], rfl, rfl, ⟨[.int .i64 x.f1.f0, _, _], [_, _], rfl, k25_mkM W b _ x.f1 (R_at h1 hb2) (R_at h2 hb2), ⟨[_], [_], rfl, ⟨_, rfl, R_at h3 hb2⟩, ⟨A4, c4, rfl, h4.le, hR4⟩⟩⟩⟩) (fun j hj => ⟨trivial, by omega⟩)
 have hr := (Kd.R_reads' hs.1).2.2
 rw [List.length_set, hl] at hr
 exact ⟨by rw [List.length_set]; exact hl, h.le, hr⟩
theorem node_own {W : World} {b b2 gd : Nat} {S1 S2 S3 S4 : Nat → Prop} {g n c n1 c1 n2 c2 n3 c3 n4 c4 : Nat} {A1 A2 A3 A4 : Option Addr} {l : List S40} {x : S40} (h : Fr k40 40 W b (But gd) (some ⟨g, 0, none⟩) n c l) (i : Nat) (hi : i < l.length)
 (h1 : Fr k98 98 W b2 S1 A1 n1 c1 x.f1.f1) (h2 : Fr kI 3 W b2 S2 A2 n2 c2 x.f1.f2) (h3 : Fr k48 48 W b2 S3 A3 n3 c3 x.f2) (h4 : Fr k77 77 W b2 S4 A4 n4 c4 x.f3) (hb2 : b ≤ b2) (hg2 : g < b2) (hgd : gd < b2) :
 FrL k40 40 ((((((W.setCell ⟨g, i * 6, none⟩ (.bool x.f0)).setCell ⟨g, i * 6 + 1, none⟩ (.int .i64 x.f1.f0)).setCell ⟨g, i * 6 + 2, none⟩ (.slice A1 n1 c1)).setCell ⟨g, i * 6 + 3, none⟩ (.slice A2 n2 c2)).setCell ⟨g, i * 6 + 4, none⟩ (.slice A3 n3 c3)).setCell ⟨g, i * 6 + 5, none⟩ (.slice A4 n4 c4)) b (But gd) (some ⟨g, 0, none⟩) n c (l.set i x) := by
 have hl := h.len
 obtain ⟨ad, cs, q0, q1, _, q3⟩ := Kd.C_get (Kd.R_reads' h.R).2.2 z40 (i : Int) (by omega) (by omega)
 injection q0 with q0
 subst q0
 have e1 := h1.len
 have e2 := h2.len
 have e3 := h3.len
 have e4 := h4.len
 subst e1 e2 e3 e4
 have hs := Kd.R_seg (d := k40) (okp := fun j => b2 ≤ j) h.R (i : Int) (by omega) (by omega) (j := 0) (seg := [.bool x.f0, .int .i64 x.f1.f0, .slice A1 x.f1.f1.length c1, .slice A2 x.f1.f2.length c2, .slice A3 x.f2.length c3, .slice A4 x.f3.length c4]) q1 (fun j u hj => by have := q3 j u hj; rwa [Addr.add_lit, Nat.zero_add] at this) (Nat.le_refl 6) (x' := x)
  (by
   have e6 : cs.drop (0 + 6) = [] := List.drop_eq_nil_of_le (by rw [q1]; exact Nat.le_refl 6)
   show k40.M W b (fun j => b2 ≤ j) x (cs.take 0 ++ [.bool x.f0, .int .i64 x.f1.f0, .slice A1 x.f1.f1.length c1, .slice A2 x.f1.f2.length c2, .slice A3 x.f2.length c3, .slice A4 x.f3.length c4] ++ cs.drop (0 + 6))
   rw [e6, List.take_zero, List.nil_append, List.append_nil]
   exact k40_mkM W b _ x (R_at h1 hb2) (R_at h2 hb2) (R_at h3 hb2) (R_at h4 hb2)) (fun j hj => ⟨by show j ≠ gd; omega, by omega⟩)
 exact ⟨by rw [List.length_set]; exact hl, h.le, hs.1⟩
section
attribute [local go_sem] cell_tc2 frozen_row
def Three (u g g' : Nat) : Nat → Prop := fun k => k < u ∧ k ≠ g ∧ k ≠ g'
instance avoid_three_a {w : World} {g g' g2 b : Nat} [h : GE w g2] : Avoid g2 b (Three w.heap.size g g') := ⟨fun k _ hs => by have := h.out; have := hs.1; omega⟩
instance avoid_three_b {u g g' b : Nat} : Avoid g b (Three u g g') := ⟨fun k _ hs => hs.2.1⟩
instance avoid_three_c {u g g' b : Nat} : Avoid g' b (Three u g g') := ⟨fun k _ hs => hs.2.2⟩
theorem frl_three {α : Type} {k : Kd α} {W : World} {A : Option Addr} {n c e b g g' : Nat} {S : Nat → Prop} {xs : List α} [h : Fr k e W b S A n c xs] {b' : Nat} [l : LeB b' b] [q : Avoid g b S] [q' : Avoid g' b S] : FrL k e W b' (Three W.heap.size g g') A n c xs := ⟨h.len, h.le, Kd.R_mono (Kd.R_lower (Kd.R_bound h.R) l.out) (fun j hk => ⟨hk.2.2.1, q.out j hk.2.1 hk.1, q'.out j hk.2.1 hk.1⟩)⟩
theorem Fr.ge_row {α : Type} {k : Kd α} {W : World} {g n c e b : Nat} {S : Nat → Prop} {xs : List α} (h : Fr k e W b S (some ⟨g, 0, none⟩) n c xs) : b ≤ g := Kd.R_base h.R g rfl
theorem own_el40 {W : World} {g n c : Nat} {l : List S40} [h : Sr k40 W (some ⟨g, 0, none⟩) n c l] (i : Nat) (hi : i < l.length) :
 ∃ A2 c2 A3 c3 A4 c4 A5 c5, CellL W ⟨g, i * 6, none⟩ (.bool l[i].f0) ∧ CellL W ⟨g, i * 6 + 1, none⟩ (.int .i64 l[i].f1.f0) ∧ CellL W ⟨g, i * 6 + 2, none⟩ (.slice A2 l[i].f1.f1.length c2) ∧ CellL W ⟨g, i * 6 + 3, none⟩ (.slice A3 l[i].f1.f2.length c3) ∧ CellL W ⟨g, i * 6 + 4, none⟩ (.slice A4 l[i].f2.length c4) ∧ CellL W ⟨g, i * 6 + 5, none⟩ (.slice A5 l[i].f3.length c5) ∧
   SrL k98 W A2 l[i].f1.f1.length c2 l[i].f1.f1 ∧ SrL kI W A3 l[i].f1.f2.length c3 l[i].f1.f2 ∧ SrL k48 W A4 l[i].f2.length c4 l[i].f2 ∧ SrL k77 W A5 l[i].f3.length c5 l[i].f3 := by
 have hl := h.len
 obtain ⟨ad, cs, q0, q1, q2, q3⟩ := Kd.C_get h.C z40 (i : Int) (by omega) (by omega)
 injection q0 with q0
 subst q0
 rw [show (i : Int).toNat = i from rfl, getD40 hi] at q2
 have hc : ∀ j u, cs[j]? = some u → W.cell? ⟨g, i * 6 + j, none⟩ = some u := fun j u hj => by have := q3 j u hj; rwa [Addr.add_lit, Nat.zero_add] at this
 obtain ⟨A2, c2, A3, c3, A4, c4, A5, c5, rfl, l2, r2, l3, r3, l4, r4, l5, r5⟩ := k40_open q2
 exact ⟨A2, c2, A3, c3, A4, c4, A5, c5, ⟨hc 0 _ rfl⟩, ⟨hc 1 _ rfl⟩, ⟨hc 2 _ rfl⟩, ⟨hc 3 _ rfl⟩, ⟨hc 4 _ rfl⟩, ⟨hc 5 _ rfl⟩, ⟨rfl, l2, r2⟩, ⟨rfl, l3, r3⟩, ⟨rfl, l4, r4⟩, ⟨rfl, l5, r5⟩⟩
theorem doer_lower {w : World} {g b b' : Nat} {ns : List S40} {ms : List S126} (h : DoerIs w g b' ns ms) (hb : b ≤ b') : DoerIs w g b ns ms := by
 obtain ⟨A, c, B, d, C, f, h1, h2, h3⟩ := h
 exact ⟨A, c, B, d, C, f, h1, ⟨h2.len, h2.le, Kd.R_lower h2.R hb⟩, ⟨h3.len, h3.le, Kd.R_lower h3.R hb⟩⟩
theorem stepDown_ {id : Int} {A B I L : Option Addr} {n c m d ni ci nl cl : Nat} {ps : List S98} {xs : List Int} {is : List S48} {ls : List S77} {w : World} [h1 : Sr k98 w A n c ps] [h2 : Sr kI w B m d xs] [h3 : Sr k48 w I ni ci is] [h4 : Sr k77 w L nl cl ls] (hz : n + m + ni + nl ≤ 1000000000000000) :
 Calls Tryz.prog 123 #[.agg #[.bool false, .int .i64 id, .slice A n c, .slice B m d, .slice I ni ci, .slice L nl cl]] w fun e w' => e = .returned (.tuple #[.agg #[.bool false, .int .i64 0, .slice none 0 0, .slice none 0 0, .slice none 0 0, .slice none 0 0], .slice none 0 0, .int .i64 1900]) ∧ BelL w w' := by
 have s1 := sr_l h1
 have s2 := sr_l h2
 have s3 := sr_l h3
 have s4 := sr_l h4
 clear h1 h2 h3 h4
 go_enter Tryz.func123, Tryz.ntmps123
 go_wp2_with (first | (with_reducible refine box_tc rfl (N := 1) rfl (cs := #[.bool false, .int .i64 id, .slice A n c, .slice B m d, .slice I ni ci, .slice L nl cl]) (t := 40) ?hr ?_; (case hr => go_simp <;> rfl); intro g1 wg1 _ _ _) | (with_reducible refine box_tc rfl (N := 2) rfl (cs := #[.bool false, .int .i64 0, .slice none 0 0, .slice none 0 0, .slice none 0 0, .slice none 0 0]) (t := 40) ?hr ?_; (case hr => go_simp <;> rfl); intro g2 wg2 _ _ _) | (go_at_call 56; (with_reducible refine cM (nodeUp_ (by omega)) ?_); rintro e wb ⟨rfl, hb5⟩; rw [Bool.false_and]))
 exact bodyPost_ret (v := .tuple #[.agg #[.bool false, .int .i64 0, .slice none 0 0, .slice none 0 0, .slice none 0 0, .slice none 0 0], .slice none 0 0, .int .i64 1900]) (by simp [results, Tryz.results123, go_sem]) rfl ⟨rfl, belL⟩
set_option maxRecDepth 100000 in
set_option maxHeartbeats 8000000 in
theorem doerTick_ {g ga gr n c d k f ta ne ce b : Nat} {a0 a1 a2 a3 a5 a6 : Int} {B C E : Option Addr} {ns : List S40} {ps : List S126} {w : World} {S1 S2 : Nat → Prop} [hg : Blk w g #[.slice (some ⟨gr, 0, none⟩) n c, .slice B 0 d, .slice C k f] 119] [ha : Blk w ga #[.int .i64 a0, .int .i64 a1, .int .i64 a2, .int .i64 a3, .slice E ne ce, .int .i64 a5, .int .i64 a6] ta] [h : Fr k40 40 w b S1 (some ⟨gr, 0, none⟩) n c ns] [q : Fr k126 126 w b S2 C k f ps] [av1 : Avoid g b S1] [av2 : Avoid g b S2] [av3 : Avoid gr b S2] [row : Row w gr] [ge1 : GeB b g] [ge2 : GeB b gr] [lb : LeB b w.heap.size] (hs : nodesB ns = true) (hk : isNode ns a1 = true) (hx : ∃ x, ns[placeN ns a1]? = some x ∧ x.f0 = true ∧ nodesSz (ns.set (placeN ns a1) (stepN x)) ∧ mayB (ns.set (placeN ns a1) (stepN x)) ps = true ∧ mayB (ns.set (placeN ns a1) (stepN x)) (stepM x) = true) :
 Calls Tryz.prog 67 #[.pointer (some ⟨g, 0, none⟩), .pointer (some ⟨ga, 0, none⟩)] w fun e w' => ∃ x, ns[placeN ns a1]? = some x ∧ e = .returned (.tuple #[]) ∧ DoerIs w' g b (ns.set (placeN ns a1) (stepN x)) (sendQ ps (stepM x)) ∧ BbL b w w' := by
 have hlen := h.len
 have s1 : FrL k40 40 w b (Both w.heap.size g) (some ⟨gr, 0, none⟩) n c ns := frl_both
 have s2 : FrL k126 126 w b (Three w.heap.size g gr) C k f ps := frl_three
 have kne : NeB g gr := ⟨fun e => av1.out gr (Fr.ge_row h) (h.R.1 gr rfl) e.symm⟩
 have kne2 : NeB gr g := ⟨fun e => kne.out e.symm⟩
 have s3 : SrL k40 w (some ⟨gr, 0, none⟩) n c ns := sr_l sr_fr
 have k1 : BlkL w g #[.slice (some ⟨gr, 0, none⟩) n c, .slice B 0 d, .slice C k f] 119 := blkL
 have k2 : BlkL w ga #[.int .i64 a0, .int .i64 a1, .int .i64 a2, .int .i64 a3, .slice E ne ce, .int .i64 a5, .int .i64 a6] ta := blkL
 have k3 : RowL w gr := ⟨row.out⟩
 have k4 : LtB gr w.heap.size := inferInstance
 have k5 : LtB g w.heap.size := inferInstance
 have hp : placeN ns a1 < ns.length := (placeN_at hs hk).1
 clear h q hg ha row av1 av2 av3
 have HNode := Aside0.mk (doerNode_ (g := g) (ga := ga) (w := w) (l := ns) hs hk)
 obtain ⟨x, hx1, hx2, hx3, hx4, hx5⟩ := hx
 have hn1 : nodeB x = true := by
  obtain ⟨hq, e⟩ := List.getElem?_eq_some_iff.1 hx1
  rw [← e]; exact (nodesB_at hs _ hq).1
 have hn2 : nodeB (stepN x) = true := by
  have := (nodesB_at (mayB_parts hx4).1 (placeN ns a1) (by rw [List.length_set]; exact hp)).1
  rwa [List.getElem_set_self] at this
 generalize placeN ns a1 = q at *
 obtain ⟨hq, he⟩ := List.getElem?_eq_some_iff.1 hx1
 obtain ⟨A2, c2, A3, c3, A4, c4, A5, c5, x0, x1, x2, x3, x4, x5, r2, r3, r4, r5⟩ := own_el40 (W := w) (g := gr) (n := n) (c := c) (l := ns) q hq
 rw [he] at x0 x1 x2 x3 x4 x5 r2 r3 r4 r5
 obtain ⟨up, ⟨id, vs, ys⟩, is, ls⟩ := x
 simp only at x0 x1 x2 x3 x4 x5 r2 r3 r4 r5 hx2
 subst hx2
 have HX1 := Aside0.mk hx1
 clear hx1 he
 have hy1 : (stepN ⟨true, ⟨id, vs, ys⟩, is, ls⟩).f0 = true := rfl
 generalize hy : stepN ⟨true, ⟨id, vs, ys⟩, is, ls⟩ = y at hx3 hx4 hx5 hy1
 generalize hm : stepM ⟨true, ⟨id, vs, ys⟩, is, ls⟩ = sm at hx5
 have HY := Aside0.mk hy
 have HM := Aside0.mk hm
 have HN2 := Aside0.mk hn2
 clear hy hm hy1 hn2
 go_enter Tryz.func67, Tryz.ntmps67
 go_upto_region 3 with (first | (go_at_call 122; (with_reducible refine Calls.mono HNode.out ?_); rintro e wn ⟨rfl, hbn⟩) | (go_at_call 123; (with_reducible refine cM (step_ hn1 HN2.out) ?_); rw [HY.out, HM.out]; rintro e w1 ⟨v1, M1, cm1, rfl, ⟨A6, c6, B6, d6, I6, ci6, L6, cl6, rfl, hF6, hG6, hH6, hK6⟩, hM1, hb1⟩) | (with_reducible refine box_tc rfl (N := 5) rfl (cs := #[.bool false, .int .i64 0, .slice none 0 0, .slice none 0 0, .slice none 0 0, .slice none 0 0]) (t := 40) ?hr ?_; (case hr => go_simp <;> rfl); intro g5 wg5 _ _ _))
 refine wp_letter ?_
 intro w3 hb3
 have f1 : Fr k98 98 w3 _ _ A6 y.f1.f1.length c6 y.f1.f1 := inferInstance
 have f2 : Fr kI 3 w3 _ _ B6 y.f1.f2.length d6 y.f1.f2 := inferInstance
 have f3 : Fr k48 48 w3 _ _ I6 y.f2.length ci6 y.f2 := inferInstance
 have f4 : Lg w3 _ _ L6 y.f3.length cl6 y.f3 := inferInstance
 have f0 : Fr k40 40 w3 _ _ (some ⟨gr, 0, none⟩) n c ns := inferInstance
 have hput := node_put (x := y) f0 q hq f1 f2 f3 f4 LeB.out LtB.out
 clear f0 f1 f2 f3 f4
 go_wp2_with (first | (go_at_call 124; (with_reducible refine cM (send_ hx3 hx4 hx5) ?_); rintro e w5 ⟨rfl, hD, hkb⟩))
 go_end0
 exact ⟨_, HX1.out, rfl, by rw [HY.out, HM.out]; exact doer_lower hD LeB.out, bbL⟩
end
section
attribute [local go_sem] cell_tc2 frozen_row
instance ge_size {w W : World} [h : Bel w W] : GE w W.heap.size := ⟨below_size h.out⟩
instance ne_size1 {g : Nat} {W : World} [h : LtB g W.heap.size] : NeB g W.heap.size := ⟨Nat.ne_of_lt h.out⟩
instance ne_size2 {g : Nat} {W : World} [h : LtB g W.heap.size] : NeB W.heap.size g := ⟨Nat.ne_of_gt h.out⟩
instance geb_size {b : Nat} {W : World} [h : LeB b W.heap.size] : GeB b W.heap.size := ⟨h.out⟩
theorem doer_mk {w : World} {g b c d f n k gr : Nat} {B C : Option Addr} {ns : List S40} {ms : List S126} [h : Blk w g #[.slice (some ⟨gr, 0, none⟩) n c, .slice B 0 d, .slice C k f] 119] (h1 : FrL k40 40 w b (But g) (some ⟨gr, 0, none⟩) n c ns) {b2 : Nat} {S2 : Nat → Prop} [h2 : Fr k126 126 w b2 S2 C k f ms] [l : LeB b b2] [a : Avoid g b2 S2] : DoerIs w g b ns ms := by
 have e1 := h1.len
 have e2 := h2.len
 subst e1 e2
 exact ⟨_, _, _, _, _, _, blkL, h1, frl_but⟩
set_option maxRecDepth 100000 in
set_option maxHeartbeats 8000000 in
theorem doerTickDown_ {g ga gr n c d k f ta ne ce b : Nat} {a0 a1 a2 a3 a5 a6 : Int} {B C E : Option Addr} {ns : List S40} {ps : List S126} {w : World} {S1 S2 : Nat → Prop} [hg : Blk w g #[.slice (some ⟨gr, 0, none⟩) n c, .slice B 0 d, .slice C k f] 119] [ha : Blk w ga #[.int .i64 a0, .int .i64 a1, .int .i64 a2, .int .i64 a3, .slice E ne ce, .int .i64 a5, .int .i64 a6] ta] [h : Fr k40 40 w b S1 (some ⟨gr, 0, none⟩) n c ns] [q : Fr k126 126 w b S2 C k f ps] [av1 : Avoid g b S1] [av2 : Avoid g b S2] [av3 : Avoid gr b S2] [row : Row w gr] [ge1 : GeB b g] [ge2 : GeB b gr] [lb : LeB b w.heap.size] (hs : nodesB ns = true) (hk : isNode ns a1 = true) {x : S40} (hx1 : ns[placeN ns a1]? = some x) (hx2 : x.f0 = false) :
 Calls Tryz.prog 67 #[.pointer (some ⟨g, 0, none⟩), .pointer (some ⟨ga, 0, none⟩)] w fun e w' => e = .returned (.tuple #[]) ∧ DoerIs w' g b ns ps ∧ BbL b w w' := by
 have hlen := h.len
 have s1 : FrL k40 40 w b (Both w.heap.size g) (some ⟨gr, 0, none⟩) n c ns := frl_both
 have s2 : FrL k126 126 w b (Three w.heap.size g gr) C k f ps := frl_three
 have kne : NeB g gr := ⟨fun e => av1.out gr (Fr.ge_row h) (h.R.1 gr rfl) e.symm⟩
 have kne2 : NeB gr g := ⟨fun e => kne.out e.symm⟩
 have s3 : SrL k40 w (some ⟨gr, 0, none⟩) n c ns := sr_l sr_fr
 have k1 : BlkL w g #[.slice (some ⟨gr, 0, none⟩) n c, .slice B 0 d, .slice C k f] 119 := blkL
 have k2 : BlkL w ga #[.int .i64 a0, .int .i64 a1, .int .i64 a2, .int .i64 a3, .slice E ne ce, .int .i64 a5, .int .i64 a6] ta := blkL
 have k3 : RowL w gr := ⟨row.out⟩
 have k4 : LtB gr w.heap.size := inferInstance
 have k5 : LtB g w.heap.size := inferInstance
 have hp : placeN ns a1 < ns.length := (placeN_at hs hk).1
 clear h q hg ha row av1 av2 av3
 have hn1 : nodeB x = true := by
  obtain ⟨hq, e⟩ := List.getElem?_eq_some_iff.1 hx1
  rw [← e]; exact (nodesB_at hs _ hq).1
 generalize hpl : placeN ns a1 = q at *
 have HPL := Aside0.mk hpl
 clear hpl
 obtain ⟨hq, he⟩ := List.getElem?_eq_some_iff.1 hx1
 obtain ⟨A2, c2, A3, c3, A4, c4, A5, c5, x0, x1, x2, x3, x4, x5, r2, r3, r4, r5⟩ := own_el40 (W := w) (g := gr) (n := n) (c := c) (l := ns) q hq
 rw [he] at x0 x1 x2 x3 x4 x5 r2 r3 r4 r5
 have hsm := nodeB_small hn1
 obtain ⟨up, ⟨id, vs, ys⟩, is, ls⟩ := x
 simp only at x0 x1 x2 x3 x4 x5 r2 r3 r4 r5 hx2 hsm
 subst hx2
 have HX1 := Aside0.mk hx1
 clear hx1 he
 obtain rfl := hlen
 have hlp := s2.len
 obtain rfl := hlp
 go_enter Tryz.func67, Tryz.ntmps67
 go_wp2_with (first | (go_at_call 122; (with_reducible refine cM (doerNode_ hs hk) ?_); rw [HPL.out]; rintro e wn ⟨rfl, hbn⟩) | (go_at_call 123; (with_reducible refine cM (stepDown_ (by omega)) ?_); rintro e w1 ⟨rfl, hb1⟩) | (with_reducible refine box_tc rfl (N := 5) rfl (cs := #[.bool false, .int .i64 0, .slice none 0 0, .slice none 0 0, .slice none 0 0, .slice none 0 0]) (t := 40) ?hr ?_; (case hr => go_simp <;> rfl); intro g5 wg5 _ _ _))
 go_end0
 exact ⟨rfl, ⟨_, _, _, _, _, _, blkL, frl_but, frl_but⟩, bbL⟩
def putNd (x : S40) (k v : Int) : S40 := if writeB x.f1.f0 x.f2 k v false then ⟨x.f0, x.f1, putL x.f2 (writeI x.f1.f0 x.f2 k v false), x.f3⟩ else x
theorem set_same {α : Type} {l : List α} {i : Nat} {x : α} (h : l[i]? = some x) : l.set i x = l := by
 obtain ⟨hi, rfl⟩ := List.getElem?_eq_some_iff.1 h
 exact List.set_getElem_self hi
set_option maxRecDepth 100000 in
set_option maxHeartbeats 8000000 in
theorem doerPut_ {g ga gr n c d k f ta ne ce b : Nat} {a0 a1 a2 a3 a5 a6 : Int} {B C E : Option Addr} {ns : List S40} {ps : List S126} {w : World} {S1 S2 : Nat → Prop} [hg : Blk w g #[.slice (some ⟨gr, 0, none⟩) n c, .slice B 0 d, .slice C k f] 119] [ha : Blk w ga #[.int .i64 a0, .int .i64 a1, .int .i64 a2, .int .i64 a3, .slice E ne ce, .int .i64 a5, .int .i64 a6] ta] [h : Fr k40 40 w b S1 (some ⟨gr, 0, none⟩) n c ns] [q : Fr k126 126 w b S2 C k f ps] [av1 : Avoid g b S1] [av2 : Avoid g b S2] [av3 : Avoid gr b S2] [row : Row w gr] [ge1 : GeB b g] [ge2 : GeB b gr] [lb : LeB b w.heap.size] (hs : nodesB ns = true) (hk : isNode ns a1 = true) {x : S40} (hx1 : ns[placeN ns a1]? = some x) (hx2 : x.f0 = true) (p5 : placeB a5 = true) (p6 : placeB a6 = true) (ho : 0 ≤ ((getI x.f2 a5).getD z48).f1.f0) (ho2 : ((getI x.f2 a5).getD z48).f1.f0 ≤ 65535) :
 Calls Tryz.prog 75 #[.pointer (some ⟨g, 0, none⟩), .pointer (some ⟨ga, 0, none⟩)] w fun e w' => e = .returned (.tuple #[]) ∧ DoerIs w' g b (ns.set (placeN ns a1) (putNd x a5 a6)) ps ∧ BbL b w w' := by
 have hlen := h.len
 have s1 : FrL k40 40 w b (Both w.heap.size g) (some ⟨gr, 0, none⟩) n c ns := frl_both
 have s2 : FrL k126 126 w b (Three w.heap.size g gr) C k f ps := frl_three
 have kne : NeB g gr := ⟨fun e => av1.out gr (Fr.ge_row h) (h.R.1 gr rfl) e.symm⟩
 have kne2 : NeB gr g := ⟨fun e => kne.out e.symm⟩
 have s3 : SrL k40 w (some ⟨gr, 0, none⟩) n c ns := sr_l sr_fr
 have k1 : BlkL w g #[.slice (some ⟨gr, 0, none⟩) n c, .slice B 0 d, .slice C k f] 119 := blkL
 have k2 : BlkL w ga #[.int .i64 a0, .int .i64 a1, .int .i64 a2, .int .i64 a3, .slice E ne ce, .int .i64 a5, .int .i64 a6] ta := blkL
 have k3 : RowL w gr := ⟨row.out⟩
 have k4 : LtB gr w.heap.size := inferInstance
 have k5 : LtB g w.heap.size := inferInstance
 have hp : placeN ns a1 < ns.length := (placeN_at hs hk).1
 clear h q hg ha row av1 av2 av3
 have hn1 : nodeB x = true := by
  obtain ⟨hq, e⟩ := List.getElem?_eq_some_iff.1 hx1
  rw [← e]; exact (nodesB_at hs _ hq).1
 generalize hpl : placeN ns a1 = q at *
 have HPL := Aside0.mk hpl
 clear hpl
 obtain ⟨hq, he⟩ := List.getElem?_eq_some_iff.1 hx1
 obtain ⟨A2, c2, A3, c3, A4, c4, A5, c5, x0, x1, x2, x3, x4, x5, r2, r3, r4, r5⟩ := own_el40 (W := w) (g := gr) (n := n) (c := c) (l := ns) q hq
 rw [he] at x0 x1 x2 x3 x4 x5 r2 r3 r4 r5
 have hsm := nodeB_small hn1
 obtain ⟨up, ⟨id, vs, ys⟩, is, ls⟩ := x
 simp only at x0 x1 x2 x3 x4 x5 r2 r3 r4 r5 hx2 hsm
 subst hx2
 have HX1 := Aside0.mk hx1
 clear hx1 he
 simp only at ho ho2
 cases hw : writeB id is a5 a6 false
 ·have HS := Aside0.mk (show ns.set q (putNd ⟨true, ⟨id, vs, ys⟩, is, ls⟩ a5 a6) = ns by
   rw [show putNd ⟨true, ⟨id, vs, ys⟩, is, ls⟩ a5 a6 = ⟨true, ⟨id, vs, ys⟩, is, ls⟩ by simp [putNd, hw]]
   exact set_same HX1.out)
  have hlp := s2.len
  subst hlp
  subst hlen
  go_enter Tryz.func75, Tryz.ntmps75
  go_upto_region 1 with (first | (go_at_call 122; (with_reducible refine cM (doerNode_ hs hk) ?_); rw [HPL.out]; rintro e wn ⟨rfl, hbn⟩))
  refine wp_letter fun w6 hb6 => ?_
  go_region_held3 (fun w' => BelL w6 w') (first | exact belL) (first | (go_at_call 16; (with_reducible refine cM (put16Full_ hn1 p5 p6 hw ho ho2) ?_); rintro e w1 ⟨rfl, hb1⟩))
  all_goals
   go_wp2
   go_end0
   exact ⟨rfl, by rw [HS.out]; exact ⟨_, _, _, _, _, _, blkL, frl_but, frl_but⟩, bbL⟩
 ·have HS := Aside0.mk (show putNd ⟨true, ⟨id, vs, ys⟩, is, ls⟩ a5 a6 = ⟨true, ⟨id, vs, ys⟩, putL is (writeI id is a5 a6 false), ls⟩ by simp [putNd, hw])
  generalize hpi : putL is (writeI id is a5 a6 false) = pis at HS
  have HP := Aside0.mk hpi
  clear hpi
  go_enter Tryz.func75, Tryz.ntmps75
  go_upto_region 1 with (first | (go_at_call 122; (with_reducible refine cM (doerNode_ hs hk) ?_); rw [HPL.out]; rintro e wn ⟨rfl, hbn⟩))
  refine wp_letter fun w6 hb6 => ?_
  go_region_held3 (fun w' => BelL w6 w') (first | exact belL) (first | (go_at_call 16; (with_reducible refine cM (put16_ hn1 p5 p6 hw ho) ?_); rw [HP.out]; rintro e w1 ⟨v1, rfl, ⟨A6, c6, B6, d6, I6, ci6, L6, cl6, rfl, hF6, hG6, hH6, hK6⟩, hb1⟩; simp only at hF6 hG6 hH6 hK6))
  all_goals
   go_upto_region 3 with fail
   refine wp_letter ?_
   intro w3 hb3
   have f1 : Fr k98 98 w3 _ _ A6 vs.length c6 vs := inferInstance
   have f2 : Fr kI 3 w3 _ _ B6 ys.length d6 ys := inferInstance
   have f3 : Fr k48 48 w3 _ _ I6 pis.length ci6 pis := inferInstance
   have f4 : Fr k77 77 w3 _ _ L6 ls.length cl6 ls := inferInstance
   have f0 : FrL k40 40 w3 b (But g) (some ⟨gr, 0, none⟩) n c ns := frl_but
   have hrow2 := node_own (x := ⟨true, ⟨id, vs, ys⟩, pis, ls⟩) (fr_here (h := f0)) q hq f1 f2 f3 f4 LeB.out LtB.out LtB.out
   clear f0 f1 f2 f3 f4
   go_wp2
   go_end0
   exact ⟨rfl, by rw [HS.out]; exact doer_mk hrow2, bbL⟩
set_option maxRecDepth 100000 in
set_option maxHeartbeats 8000000 in
theorem doerGet_ {g ga gr n c d k f ta ne ce b : Nat} {a0 a1 a2 a3 a5 a6 : Int} {B C E : Option Addr} {ns : List S40} {ps : List S126} {w : World} {S1 S2 : Nat → Prop} [hg : Blk w g #[.slice (some ⟨gr, 0, none⟩) n c, .slice B 0 d, .slice C k f] 119] [ha : Blk w ga #[.int .i64 a0, .int .i64 a1, .int .i64 a2, .int .i64 a3, .slice E ne ce, .int .i64 a5, .int .i64 a6] ta] [h : Fr k40 40 w b S1 (some ⟨gr, 0, none⟩) n c ns] [q : Fr k126 126 w b S2 C k f ps] [av1 : Avoid g b S1] [av2 : Avoid g b S2] [av3 : Avoid gr b S2] [row : Row w gr] [ge1 : GeB b g] [ge2 : GeB b gr] [lb : LeB b w.heap.size] (hs : nodesB ns = true) (hk : isNode ns a1 = true) {x : S40} (hx1 : ns[placeN ns a1]? = some x) (hx2 : x.f0 = true) (p5 : placeB a5 = true) (hx3 : nodesSz (ns.set (placeN ns a1) (getN x a5))) (hx4 : mayB (ns.set (placeN ns a1) (getN x a5)) ps = true) (hx5 : mayB (ns.set (placeN ns a1) (getN x a5)) (getM x a5) = true) :
 Calls Tryz.prog 77 #[.pointer (some ⟨g, 0, none⟩), .pointer (some ⟨ga, 0, none⟩)] w fun e w' => e = .returned (.tuple #[]) ∧ DoerIs w' g b (ns.set (placeN ns a1) (getN x a5)) (sendQ ps (getM x a5)) ∧ BbL b w w' := by
 have hlen := h.len
 have s1 : FrL k40 40 w b (Both w.heap.size g) (some ⟨gr, 0, none⟩) n c ns := frl_both
 have s2 : FrL k126 126 w b (Three w.heap.size g gr) C k f ps := frl_three
 have kne : NeB g gr := ⟨fun e => av1.out gr (Fr.ge_row h) (h.R.1 gr rfl) e.symm⟩
 have kne2 : NeB gr g := ⟨fun e => kne.out e.symm⟩
 have s3 : SrL k40 w (some ⟨gr, 0, none⟩) n c ns := sr_l sr_fr
 have k1 : BlkL w g #[.slice (some ⟨gr, 0, none⟩) n c, .slice B 0 d, .slice C k f] 119 := blkL
 have k2 : BlkL w ga #[.int .i64 a0, .int .i64 a1, .int .i64 a2, .int .i64 a3, .slice E ne ce, .int .i64 a5, .int .i64 a6] ta := blkL
 have k3 : RowL w gr := ⟨row.out⟩
 have k4 : LtB gr w.heap.size := inferInstance
 have k5 : LtB g w.heap.size := inferInstance
 have hp : placeN ns a1 < ns.length := (placeN_at hs hk).1
 clear h q hg ha row av1 av2 av3
 have hn1 : nodeB x = true := by
  obtain ⟨hq, e⟩ := List.getElem?_eq_some_iff.1 hx1
  rw [← e]; exact (nodesB_at hs _ hq).1
 generalize hpl : placeN ns a1 = q at *
 have HPL := Aside0.mk hpl
 clear hpl
 obtain ⟨hq, he⟩ := List.getElem?_eq_some_iff.1 hx1
 obtain ⟨A2, c2, A3, c3, A4, c4, A5, c5, x0, x1, x2, x3, x4, x5, r2, r3, r4, r5⟩ := own_el40 (W := w) (g := gr) (n := n) (c := c) (l := ns) q hq
 rw [he] at x0 x1 x2 x3 x4 x5 r2 r3 r4 r5
 have hsm := nodeB_small hn1
 obtain ⟨up, ⟨id, vs, ys⟩, is, ls⟩ := x
 simp only at x0 x1 x2 x3 x4 x5 r2 r3 r4 r5 hx2 hsm
 subst hx2
 have HX1 := Aside0.mk hx1
 clear hx1 he
 generalize hy : getN ⟨true, ⟨id, vs, ys⟩, is, ls⟩ a5 = y at hx3 hx4 hx5 ⊢
 generalize hm : getM ⟨true, ⟨id, vs, ys⟩, is, ls⟩ a5 = sm at hx5 ⊢
 have HY := Aside0.mk hy
 have HM := Aside0.mk hm
 clear hy hm
 go_enter Tryz.func77, Tryz.ntmps77
 go_upto_region 1 with (first | (go_at_call 122; (with_reducible refine cM (doerNode_ hs hk) ?_); rw [HPL.out]; rintro e wn ⟨rfl, hbn⟩))
 refine wp_letter fun w6 hb6 => ?_
 go_region_held3 (fun w' => BelL w6 w') (first | exact belL) (first | (go_at_call 131; (with_reducible refine cM (askGet_ hn1 p5) ?_); rw [HY.out, HM.out]; rintro e w1 ⟨v1, M1, cm1, rfl, ⟨A6, c6, B6, d6, I6, ci6, L6, cl6, rfl, hF6, hG6, hH6, hK6⟩, hM1, hb1⟩))
 all_goals
  go_upto_region 3 with fail
  refine wp_letter ?_
  intro w3 hb3
  have f1 : Fr k98 98 w3 _ _ A6 y.f1.f1.length c6 y.f1.f1 := inferInstance
  have f2 : Fr kI 3 w3 _ _ B6 y.f1.f2.length d6 y.f1.f2 := inferInstance
  have f3 : Fr k48 48 w3 _ _ I6 y.f2.length ci6 y.f2 := inferInstance
  have f4 : Lg w3 _ _ L6 y.f3.length cl6 y.f3 := inferInstance
  have f0 : Fr k40 40 w3 _ _ (some ⟨gr, 0, none⟩) n c ns := inferInstance
  have hput := node_put (x := y) f0 q hq f1 f2 f3 f4 LeB.out LtB.out
  clear f0 f1 f2 f3 f4
  go_wp2_with (first | (go_at_call 124; (with_reducible refine cM (send_ hx3 hx4 hx5) ?_); rintro e w5 ⟨rfl, hD, hkb⟩))
  go_end0
  exact ⟨rfl, doer_lower hD LeB.out, bbL⟩
end
section
attribute [local go_sem] cell_tc2
theorem msgB_kind {m : S126} (h : msgB m = true) : (m.f0 = 0 ∨ m.f0 = 1 ∨ m.f0 = 2 ∨ m.f0 = 3) ∧ placeB m.f1 = true ∧ placeB m.f2 = true ∧ m.f1 ≠ m.f2 ∧ (m.f0 = 1 → itemOk m.f5 = true) := by
 unfold msgB at h
 simp only [Bool.and_eq_true, Bool.not_eq_true', beq_eq_false_iff_ne] at h
 obtain ⟨⟨⟨h1, h2⟩, h3⟩, h4⟩ := h
 unfold kindB at h4
 refine ⟨?_, h1, h2, h3, fun e => ?_⟩
 ·by_cases k0 : m.f0 = 0
  ·exact .inl k0
  by_cases k1 : m.f0 = 1
  ·exact .inr (.inl k1)
  by_cases k2 : m.f0 = 2
  ·exact .inr (.inr (.inl k2))
  by_cases k3 : m.f0 = 3
  ·exact .inr (.inr (.inr k3))
  rw [if_neg k0, if_neg k1, if_neg k2, if_neg k3] at h4
  cases h4
 ·rw [if_neg (by omega), if_pos e, Bool.and_eq_true] at h4
  exact h4.2
theorem handle_ {id : Int} {A B I L : Option Addr} {n c m d ni ci nl cl : Nat} {ps : List S98} {xs : List Int} {is : List S48} {ls : List S77} {w : World} {mo : S126} {A3 : Option Addr} {n3 c3 : Nat} [h1 : Sr k98 w A n c ps] [h2 : Sr kI w B m d xs] [h3 : Sr k48 w I ni ci is] [h4 : Sr k77 w L nl cl ls] [h5 : Sr kI w A3 n3 c3 mo.f3] (hn : nodeB ⟨true, ⟨id, ps, xs⟩, is, ls⟩ = true) (hm : msgB mo = true) (hto : mo.f2 = id) :
 Calls Tryz.prog 127 #[.agg #[.bool true, .int .i64 id, .slice A n c, .slice B m d, .slice I ni ci, .slice L nl cl], .agg #[.int .i64 mo.f0, .int .i64 mo.f1, .int .i64 mo.f2, .slice A3 n3 c3, .int .i64 mo.f4, .int .i64 mo.f5.f0, .int .i64 mo.f5.f1.f0, .int .i64 mo.f5.f1.f1, .int .i64 mo.f5.f2, .bool mo.f5.f3, .bool mo.f6]] w fun e w' => ∃ v' A' c', e = .returned (.tuple #[v', .slice A' (handM ⟨true, ⟨id, ps, xs⟩, is, ls⟩ mo).length c', .int .i64 0]) ∧ NodeQ w' w.heap.size v' (handN ⟨true, ⟨id, ps, xs⟩, is, ls⟩ mo) ∧ FrL k126 126 w' w.heap.size (Under w'.heap.size) A' (handM ⟨true, ⟨id, ps, xs⟩, is, ls⟩ mo).length c' (handM ⟨true, ⟨id, ps, xs⟩, is, ls⟩ mo) ∧ BelL w w' := by
 obtain ⟨hk, _, _, _, hit⟩ := msgB_kind hm
 have hi : mo.f3.length ≤ 16 := msgB_ids hm
 obtain ⟨f0, f1, f2, ids, f4, ⟨k, ⟨cc, x⟩, v, gn⟩, q⟩ := mo
 simp only at *
 subst hto
 rcases hk with rfl | rfl | rfl | rfl
 ·exact handleHello_ hn hm (Nat.le_trans hi (by decide))
 ·exact handleItem_ hn hm (Nat.le_trans hi (by decide)) (hit rfl)
 ·exact handleAsk_ hn hm (Nat.le_trans hi (by decide))
 ·exact handleTell_ hn hm (Nat.le_trans hi (by decide))
set_option maxRecDepth 100000 in
set_option maxHeartbeats 4000000 in
theorem handleDown_ {id : Int} {f0 f1 f2 f4 k cc x v : Int} {gn q : Bool} {A3 : Option Addr} {n3 c3 : Nat} {A B I L : Option Addr} {n c m d ni ci nl cl : Nat} {ps : List S98} {xs : List Int} {is : List S48} {ls : List S77} {w : World} [h1 : Sr k98 w A n c ps] [h2 : Sr kI w B m d xs] [h3 : Sr k48 w I ni ci is] [h4 : Sr k77 w L nl cl ls] (hz : n + m + ni + nl ≤ 1000000000000000) :
 Calls Tryz.prog 127 #[.agg #[.bool false, .int .i64 id, .slice A n c, .slice B m d, .slice I ni ci, .slice L nl cl], .agg #[.int .i64 f0, .int .i64 f1, .int .i64 f2, .slice A3 n3 c3, .int .i64 f4, .int .i64 k, .int .i64 cc, .int .i64 x, .int .i64 v, .bool gn, .bool q]] w fun e w' => e = .returned (.tuple #[.agg #[.bool false, .int .i64 0, .slice none 0 0, .slice none 0 0, .slice none 0 0, .slice none 0 0], .slice none 0 0, .int .i64 2200]) ∧ BelL w w' := by
 have s1 := sr_l h1
 have s2 := sr_l h2
 have s3 := sr_l h3
 have s4 := sr_l h4
 clear h1 h2 h3 h4
 go_enter Tryz.func127, Tryz.ntmps127
 go_wp2_with (first | (with_reducible refine box_tc rfl (N := 2) rfl (cs := #[.bool false, .int .i64 id, .slice A n c, .slice B m d, .slice I ni ci, .slice L nl cl]) (t := 40) ?hr ?_; (case hr => go_simp <;> rfl); intro g2 wg2 _ _ _) | (with_reducible refine box_tc rfl (N := 3) rfl (cs := #[.int .i64 f0, .int .i64 f1, .int .i64 f2, .slice A3 n3 c3, .int .i64 f4, .int .i64 k, .int .i64 cc, .int .i64 x, .int .i64 v, .bool gn, .bool q]) (t := 126) ?hr ?_; (case hr => go_simp <;> rfl); intro g3 wg3 _ _ _) | (with_reducible refine box_tc rfl (N := 4) rfl (cs := #[.bool false, .int .i64 0, .slice none 0 0, .slice none 0 0, .slice none 0 0, .slice none 0 0]) (t := 40) ?hr ?_; (case hr => go_simp <;> rfl); intro g4 wg4 _ _ _) | (go_at_call 56; (with_reducible refine cM (nodeUp_ (by omega)) ?_); rintro e wb ⟨rfl, hb5⟩; rw [Bool.false_and]))
 exact bodyPost_ret (v := .tuple #[.agg #[.bool false, .int .i64 0, .slice none 0 0, .slice none 0 0, .slice none 0 0, .slice none 0 0], .slice none 0 0, .int .i64 2200]) (by simp [results, Tryz.results127, go_sem]) rfl ⟨rfl, belL⟩
set_option maxRecDepth 100000 in
set_option maxHeartbeats 4000000 in
theorem picked0_ {g t n c n2 d f : Nat} {a : Value} {A B C : Option Addr} {w : World} [hg : Blk w g #[.slice A n c, .slice B n2 d, .slice C 0 f] t] :
 Calls Tryz.prog 125 #[.pointer (some ⟨g, 0, none⟩), a] w fun e w' => e = .returned (.tuple #[.agg #[.int .i64 0, .int .i64 0, .int .i64 0, .slice none 0 0, .int .i64 0, .int .i64 0, .int .i64 0, .int .i64 0, .int .i64 0, .bool false, .bool false], .slice none 0 0, .bool false]) ∧ BelL w w' := by
 have k1 : BlkL w g #[.slice A n c, .slice B n2 d, .slice C 0 f] t := blkL
 clear hg
 go_enter Tryz.func125, Tryz.ntmps125
 go_wp2_with (first | (with_reducible refine box_tc rfl (N := 4) rfl (cs := #[.int .i64 0, .int .i64 0, .int .i64 0, .slice none 0 0, .int .i64 0, .int .i64 0, .int .i64 0, .int .i64 0, .int .i64 0, .bool false, .bool false]) (t := 126) ?hr ?_; (case hr => go_simp <;> rfl); intro g4 wg4 _ _ _))
 exact bodyPost_ret (v := .tuple #[.agg #[.int .i64 0, .int .i64 0, .int .i64 0, .slice none 0 0, .int .i64 0, .int .i64 0, .int .i64 0, .int .i64 0, .int .i64 0, .bool false, .bool false], .slice none 0 0, .bool false]) (by simp [results, Tryz.results125, go_sem]) rfl ⟨rfl, belL⟩
set_option maxRecDepth 100000 in
set_option maxHeartbeats 8000000 in
theorem picked_ {g ga t ta ne ce n c n2 d k f p : Nat} {a0 a1 a2 a5 a6 : Int} {A B C E : Option Addr} {ms : List S126} {w : World} [hg : Blk w g #[.slice A n c, .slice B n2 d, .slice C k f] t] [ha : Blk w ga #[.int .i64 a0, .int .i64 a1, .int .i64 a2, .int .i64 (p : Nat), .slice E ne ce, .int .i64 a5, .int .i64 a6] ta] [q : Sr k126 w C k f ms] (h1 : queueB ms = true) (hk : 0 < k) :
 Calls Tryz.prog 125 #[.pointer (some ⟨g, 0, none⟩), .pointer (some ⟨ga, 0, none⟩)] w fun e w' => ∃ mo, ms[p % k]? = some mo ∧ ∃ A3 c3 A' c', e = .returned (.tuple #[.agg #[.int .i64 mo.f0, .int .i64 mo.f1, .int .i64 mo.f2, .slice A3 mo.f3.length c3, .int .i64 mo.f4, .int .i64 mo.f5.f0, .int .i64 mo.f5.f1.f0, .int .i64 mo.f5.f1.f1, .int .i64 mo.f5.f2, .bool mo.f5.f3, .bool mo.f6], .slice A' (k - 1) c', .bool true]) ∧ FrL kI 3 w' w.heap.size (Under w'.heap.size) A3 mo.f3.length c3 mo.f3 ∧ FrL k126 126 w' w.heap.size (Under w'.heap.size) A' (k - 1) c' (ms.eraseIdx (p % k)) ∧ BelL w w' := by
 have e1 : Int.tmod (p : Int) (k : Int) = ((p % k : Nat) : Int) := by rw [Int.tmod_eq_emod_of_nonneg (by omega)]; rfl
 have e2 : (p : Int) % (k : Int) = ((p % k : Nat) : Int) := rfl
 have e3 : ¬ ((k : Int) = 0) := by omega
 have hlt : p % k < ms.length := by rw [q.len]; exact Nat.mod_lt _ hk
 have e4 : ((k : Int) == 0) = false := by simpa using e3
 have E2 := Aside0.mk e2
 clear e2
 obtain rfl := q.len
 have s1 := sr_l q
 have k1 : BlkL w g #[.slice A n c, .slice B n2 d, .slice C ms.length f] t := blkL
 have k2 : BlkL w ga #[.int .i64 a0, .int .i64 a1, .int .i64 a2, .int .i64 (p : Nat), .slice E ne ce, .int .i64 a5, .int .i64 a6] ta := blkL
 have L := queueB_len h1
 clear hg ha q
 have e5 : ¬ ms.length = 0 := by omega
 have e6 : ms.length ≠ 0 := e5
 have e7 : ¬ ms = [] := fun e => e5 (by rw [e]; rfl)
 have e8 : (ms.length == 0) = false := by simpa using e5
 generalize hi : p % ms.length = i at hlt e1 E2
 have HI := Aside0.mk hi
 clear hi
 go_enter Tryz.func125, Tryz.ntmps125
 go_upto_region 3 with (first | (with_reducible refine box_tc rfl (N := 4) rfl (cs := #[.int .i64 0, .int .i64 0, .int .i64 0, .slice none 0 0, .int .i64 0, .int .i64 0, .int .i64 0, .int .i64 0, .int .i64 0, .bool false, .bool false]) (t := 126) ?hr ?_; (case hr => go_simp <;> rfl); intro g4 wg4 _ _ _))
 refine wp_letter fun w6 hb6 => ?_
 go_region_held3 (fun w' => BelL w6 w') (first | exact belL) (first | (go_at_call 163; (with_reducible refine cM (queueTake_ h1 hlt) ?_); rintro e w1 ⟨m1, hm1, A3, c3, A1, c1, rfl, hF1, hG1, hb1⟩))
 all_goals
  go_wp2
  exact bodyPost_ret (v := .tuple #[.agg #[.int .i64 m1.f0, .int .i64 m1.f1, .int .i64 m1.f2, .slice A3 m1.f3.length c3, .int .i64 m1.f4, .int .i64 m1.f5.f0, .int .i64 m1.f5.f1.f0, .int .i64 m1.f5.f1.f1, .int .i64 m1.f5.f2, .bool m1.f5.f3, .bool m1.f6], .slice A1 (ms.length - 1) c1, .bool true]) (by simp [results, Tryz.results125, go_sem]) rfl ⟨m1, hm1, _, _, _, _, rfl, frl, frl, belL⟩
end
end Go.Proofs.YtljipbmmgcccnaaGreat.T
end
