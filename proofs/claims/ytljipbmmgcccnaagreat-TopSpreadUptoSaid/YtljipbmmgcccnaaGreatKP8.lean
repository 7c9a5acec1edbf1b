/- Words and lemmas that the claim's proof names, part 8: what the program's functions answer, at the inputs that each theorem's premises name. Conditions: each theorem's own premises. -/
import Derived.Test.YtljipbmmgcccnaaGreatKP7
section
namespace Go.Proofs.YtljipbmmgcccnaaGreat.T
open Go.RowKit Go.Proofs.YtljipbmmgcccnaaGreatW.PrintWords Go.Proofs.YtljipbmmgcccnaaGreatW.PrintLast Go.Proofs.YtljipbmmgcccnaaGreatW.PrintMore
attribute [local go_sem] cell_tc frozen_tc max2_int min2_int
attribute [local go_sem ↓] Go.wp_at_zero Go.wp_at_succ
set_option linter.unusedVariables false
set_option linter.unusedSimpArgs false
attribute [local go_sem] cell_tc2
class RowL (W : outParam World) (g : Nat) : Prop where out : ∃ cells t, W.heap[g]? = some (.cells cells t (0, 0))
class Row (W : World) (g : Nat) : Prop where out : ∃ cells t, W.heap[g]? = some (.cells cells t (0, 0))
instance row_here {W : World} {g : Nat} [h : RowL W g] : Row W g := ⟨h.out⟩
instance row_alloc {W : World} {g : Nat} {o : Obj} [h : Row W g] : Row (W.alloc o) g := ⟨by obtain ⟨a, b, e⟩ := h.out; exact ⟨a, b, blk_alloc e o⟩⟩
instance row_drewN {W : World} {g n : Nat} [h : Row W g] : Row (W.drewN n) g := ⟨h.out⟩
instance row_drew {W : World} {g : Nat} [h : Row W g] : Row W.drew g := ⟨h.out⟩
instance row_set {W : World} {g g' j : Nat} {v : Value} [h : Row W g] : Row (W.setCell ⟨g', j, none⟩ v) g := ⟨by
 obtain ⟨a, b, e⟩ := h.out
 by_cases hg : g = g'
 ·subst hg; exact ⟨_, b, blk_set e j v⟩
 ·exact ⟨a, b, blk_far e hg v⟩⟩
instance row_step {W1 W : World} {g : Nat} [k : BelL W1 W] [h : Row W1 g] : Row W g := ⟨by obtain ⟨a, b, e⟩ := h.out; exact ⟨a, b, blk_below e k.out⟩⟩
theorem frozen_row {W : World} {g i : Nat} [h : Row W g] : W.frozen? ⟨g, i, none⟩ = false := by obtain ⟨a, b, e⟩ := h.out; exact blk_frozen e i
theorem fr_form {α : Type} {k : Kd α} {W : World} {A : Option Addr} {n c e b : Nat} {S : Nat → Prop} {xs : List α} (h : FrL k e W b S A n c xs) (hp : 0 < n) : ∃ g, A = some ⟨g, 0, none⟩ ∧ RowL W g ∧ b ≤ g := by
 have hp' : 0 < xs.length := by rw [h.len]; exact hp
 obtain ⟨g, cap, hv, hbg, hgl, cells, hcells⟩ := Kd.R_form (Kd.R_mono h.R (fun _ _ => trivial)) hp'
 injection hv with hv1 hv2 hv3
 exact ⟨g, hv1, ⟨cells, _, hcells⟩, hbg⟩
theorem own_el48 {W : World} {g n c : Nat} {l : List S48} [h : Sr k48 W (some ⟨g, 0, none⟩) n c l] (j : Nat) (hj : j < l.length) :
 CellL W ⟨g, j * 5, none⟩ (.int .i64 l[j].f0) ∧ CellL W ⟨g, j * 5 + 1, none⟩ (.int .i64 l[j].f1.f0) ∧ CellL W ⟨g, j * 5 + 2, none⟩ (.int .i64 l[j].f1.f1) ∧ CellL W ⟨g, j * 5 + 3, none⟩ (.int .i64 l[j].f2) ∧ CellL W ⟨g, j * 5 + 4, none⟩ (.bool l[j].f3) := by
 obtain ⟨ad, e, h0, h1, h2, h3, h4⟩ := el_T48 (W := W) (A := some ⟨g, 0, none⟩) (n := n) (c := c) (l := l) j hj
 obtain rfl := Option.some.inj e
 simp only [Addr.add_lit, Nat.zero_add] at h0 h1 h2 h3 h4
 exact ⟨h0, h1, h2, h3, h4⟩
theorem item_set {W : World} {g n c b : Nat} {S : Nat → Prop} {l : List S48} (h : Fr k48 48 W b S (some ⟨g, 0, none⟩) n c l) (i : Nat) (hi : i < n) (x : S48) (hb : b ≤ W.heap.size) :
 FrL k48 48 (((((W.setCell ⟨g, i * 5, none⟩ (.int .i64 x.f0)).setCell ⟨g, i * 5 + 1, none⟩ (.int .i64 x.f1.f0)).setCell ⟨g, i * 5 + 2, none⟩ (.int .i64 x.f1.f1)).setCell ⟨g, i * 5 + 3, none⟩ (.int .i64 x.f2)).setCell ⟨g, i * 5 + 4, none⟩ (.bool x.f3)) b (fun _ => True) (some ⟨g, 0, none⟩) n c (l.set i x) ∧
 BbL b W (((((W.setCell ⟨g, i * 5, none⟩ (.int .i64 x.f0)).setCell ⟨g, i * 5 + 1, none⟩ (.int .i64 x.f1.f0)).setCell ⟨g, i * 5 + 2, none⟩ (.int .i64 x.f1.f1)).setCell ⟨g, i * 5 + 3, none⟩ (.int .i64 x.f2)).setCell ⟨g, i * 5 + 4, none⟩ (.bool x.f3)) := by
 have hl := h.len
 have hj : i < l.length := by omega
 have hR := h.any
 obtain ⟨q0, q1, q2, q3, q4⟩ := own_el48 (W := W) (g := g) (n := n) (c := c) (l := l) i hj
 have hs := Kd.R_seg (d := k48) (okp := fun _ => False) hR (i : Int) (by omega) (by omega) (c := [.int .i64 l[i].f0, .int .i64 l[i].f1.f0, .int .i64 l[i].f1.f1, .int .i64 l[i].f2, .bool l[i].f3]) (j := 0)
  (seg := [.int .i64 x.f0, .int .i64 x.f1.f0, .int .i64 x.f1.f1, .int .i64 x.f2, .bool x.f3]) rfl (by
   intro j u hu
   match j, hu with
   | 0, hu => obtain rfl := Option.some.inj hu; exact q0.out
   | 1, hu => obtain rfl := Option.some.inj hu; exact q1.out
   | 2, hu => obtain rfl := Option.some.inj hu; exact q2.out
   | 3, hu => obtain rfl := Option.some.inj hu; exact q3.out
   | 4, hu => obtain rfl := Option.some.inj hu; exact q4.out) (Nat.le_refl 5) (x' := x) (k48_mkM _ _ _ x) (fun _ h => h.elim)
 have hg : b ≤ g := Kd.R_base hR g rfl
 refine ⟨⟨by rw [List.length_set]; exact hl, h.le, hs.1⟩, ⟨hb, ?_⟩⟩
 have hgr := hs.2
 exact ⟨hgr.os, hgr.tape, hgr.output, hgr.size, fun k hk => hgr.block k (by omega) (fun e => by injection e with e; omega)⟩
class LtN (i n : Nat) : Prop where out : i < n
instance fr_set48 {W : World} {g n c b i : Nat} {S : Nat → Prop} {l : List S48} {x : S48} [h : Fr k48 48 W b S (some ⟨g, 0, none⟩) n c l] [hi : LtN i n] [hb : LeB b W.heap.size] :
 Fr k48 48 (((((W.setCell ⟨g, i * 5, none⟩ (.int .i64 x.f0)).setCell ⟨g, i * 5 + 1, none⟩ (.int .i64 x.f1.f0)).setCell ⟨g, i * 5 + 2, none⟩ (.int .i64 x.f1.f1)).setCell ⟨g, i * 5 + 3, none⟩ (.int .i64 x.f2)).setCell ⟨g, i * 5 + 4, none⟩ (.bool x.f3)) b (fun _ => True) (some ⟨g, 0, none⟩) n c (l.set i x) :=
 fr_here (h := (item_set h i hi.out x hb.out).1)
section
variable {P : Program} {ops : Array Oper} {rest : List Oper} {o : Oper} {a : Act} {Q : Exit → Act → World → Prop}
theorem lit_tc {W : World} (hgd : o.guard = none) {N : Tmp} (_hd : o.dst = some N) {cs : Array Value} {t : TypeId} {m : Nat}
 (hrun : (execOp a.eval o).run P W = .ok (.value (.slice (some ⟨W.heap.size, 0, none⟩) m m)) (W.alloc (.cells cs t (0, 0))))
 (h : ∀ g w1, BlkL w1 g cs t → BelL W w1 → GEL W g → wpList P ops Q rest (a.put o.dst (.slice (some ⟨g, 0, none⟩) m m)) w1) : wpList P ops Q (o :: rest) a W :=
 Kd.event_run hgd hrun (h _ _ ⟨blk_new W _⟩ ⟨below_alloc (Below.refl _ _) _⟩ ⟨Nat.le_refl _⟩)
end
theorem cloneItem_ {A : Option Addr} {n c : Nat} {l : List S48} {w : World} [h : Sr k48 w A n c l] (hn : n ≤ 1000000) :
 Calls Tryz.prog 109 #[.slice A n c] w fun e w' => ∃ A' c', e = .returned (.slice A' l.length c') ∧ FrL k48 48 w' w.heap.size (Under w'.heap.size) A' l.length c' l ∧ BelL w w' := by
 have := h.len; subst this
 refine (cloneItem A c l w h.C h.le (by omega)).mono ?_
 rintro e w' ⟨v, rfl, hR, hb⟩
 obtain ⟨A', c', rfl, hF⟩ := frl_of hR
 exact ⟨A', c', rfl, hF, ⟨hb⟩⟩
theorem insertItem_ {i vb b : Nat} {S : Nat → Prop} {A : Option Addr} {n c : Nat} {l : List S48} {k cc x v : Int} {g : Bool} {w : World} [h : Fr k48 48 w b S A n c l] [hv : Blk w vb #[.int .i64 k, .int .i64 cc, .int .i64 x, .int .i64 v, .bool g] 48] [av : Avoid vb b S] [lb : LeB b w.heap.size] (hi : i ≤ n) (hn : n ≤ 1000000) :
 Calls Tryz.prog 111 #[.slice A n c, .int .i64 i, .slice (some ⟨vb, 0, none⟩) 1 1] w fun e w' => ∃ A' c', e = .returned (.slice A' (n + 1) c') ∧ FrL k48 48 w' b (fun _ => True) A' (n + 1) c' (l.take i ++ (⟨k, ⟨cc, x⟩, v, g⟩ : S48) :: l.drop i) ∧ BbL b w w' := by
 have hb := lb.out
 have hl := h.len
 have hR := h.R
 obtain ⟨h0, inner, ho, hr⟩ := hR
 have h1x : ∀ u ∈ inner, u.oneCell' = true := by
  intro u hu
  obtain ⟨j, hj, rfl⟩ := List.getElem_of_mem hu
  have hl := hr.1
  have hd : j / 5 < l.length := by rw [Nat.div_lt_iff_lt_mul (by decide)]; rw [show l.length * 5 = inner.length from hl.symm]; exact hj
  have h2 := k48_openM (hr.2 (j / 5) l[j / 5] (List.getElem?_eq_getElem hd))
  have h3 : ((inner.drop (j / 5 * 5)).take 5)[j % 5]? = some inner[j] := by
   rw [List.getElem?_take, if_pos (Nat.mod_lt _ (by decide)), List.getElem?_drop, show j / 5 * 5 + j % 5 = j by omega, List.getElem?_eq_getElem hj]
  rw [show k48.sz = 5 from rfl] at h2
  rw [h2] at h3
  have h4 : j % 5 = 0 ∨ j % 5 = 1 ∨ j % 5 = 2 ∨ j % 5 = 3 ∨ j % 5 = 4 := by omega
  rcases h4 with h4 | h4 | h4 | h4 | h4 <;> rw [h4] at h3 <;> simp at h3 <;> rw [← h3] <;> rfl
 have ho' : w.ownsRow b 48 5 (.slice A n c) n inner := by rw [hl] at ho; exact ho
 refine (insertItem (.slice A n c) n i inner [.int .i64 k, .int .i64 cc, .int .i64 x, .int .i64 v, .bool g] w b vb ho' h1x hv.out rfl (by intro u hu; simp at hu; rcases hu with rfl | rfl | rfl | rfl | rfl <;> rfl) (fun e => av.out vb (by have := Kd.R_base h.R vb e; exact this) (h0 vb e) rfl) hi hn hb).mono ?_
 rintro e w' ⟨v', rfl, ho2, hg⟩
 have hR2 : k48.R 48 w' b (fun _ => True) v' (l.take i ++ (⟨k, ⟨cc, x⟩, v, g⟩ : S48) :: l.drop i) := by
  refine ⟨fun _ _ => trivial, _, ?_, Reps.ins_ (hr.imp_ (fun q c hq => ?_)) i (by omega) (k48_mkM _ _ _ ⟨k, ⟨cc, x⟩, v, g⟩) rfl⟩
  ·rw [show (l.take i ++ (⟨k, ⟨cc, x⟩, v, g⟩ : S48) :: l.drop i).length = n + 1 by rw [List.length_append, List.length_cons, List.length_take, List.length_drop]; omega]
   exact ho2
  ·rw [k48_openM hq]; exact k48_mkM _ _ _ q
 obtain ⟨A', c', rfl, hc', _⟩ := Kd.R_reads hR2
 have e1 : (l.take i ++ (⟨k, ⟨cc, x⟩, v, g⟩ : S48) :: l.drop i).length = n + 1 := by rw [List.length_append, List.length_cons, List.length_take, List.length_drop]; omega
 rw [e1] at hR2 hc'
 exact ⟨A', c', by rw [e1], ⟨e1, hc', hR2⟩, bb_of_grown h.any hb hg⟩
end Go.Proofs.YtljipbmmgcccnaaGreat.T
end
section
namespace Go.Proofs.YtljipbmmgcccnaaGreat.T
open Go.RowKit Go.Proofs.YtljipbmmgcccnaaGreatW.PrintWords Go.Proofs.YtljipbmmgcccnaaGreatW.PrintLast Go.Proofs.YtljipbmmgcccnaaGreatW.PrintMore
attribute [local go_sem] cell_tc frozen_tc max2_int min2_int
attribute [local go_sem ↓] Go.wp_at_zero Go.wp_at_succ
set_option linter.unusedVariables false
set_option linter.unusedSimpArgs false
attribute [local go_sem] cell_tc2 frozen_row itemV
def putOk (l : List S48) (i : S48) : Bool := storeB l && itemOk i
def putN (l : List S48) (key : Int) : Nat := cnt (itemC l key) l.length
def putH (l : List S48) (key : Int) : Bool := hit (itemC l key) l.length
def putL (l : List S48) (i : S48) : List S48 :=
 if putOk l i then (if putH l i.f0 then l.set (putN l i.f0) (bestI (l.getD (putN l i.f0) z48) i) else if l.length = 16 then [] else l.take (putN l i.f0) ++ i :: l.drop (putN l i.f0)) else []
def putE (l : List S48) (i : S48) : Int := if putOk l i then (if putH l i.f0 then 0 else if l.length = 16 then 501 else 0) else 500
theorem bsItemP_ {key : Int} {A : Option Addr} {n c : Nat} {l : List S48} {w : World} [h : Sr k48 w A n c l] (hl : n ≤ 1000000) (hs : storeB l = true) :
 Calls Tryz.prog 54 #[.slice A n c, .int .i64 key, .func (.func 55) #[] #[]] w fun e w' => e = .returned (.tuple #[.int .i64 (putN l key : Nat), .bool (putH l key)]) ∧ BelL w w' := bsItemC_ hl hs
theorem putN_le {l : List S48} (h : storeB l = true) (key : Int) : putN l key ≤ l.length := (cnt_spec (itemC l key) l.length (itemC_mono h key)).1
theorem putH_lt {l : List S48} {key : Int} (h : putH l key = true) : putN l key < l.length := by
 unfold putH hit at h; simp only [Bool.and_eq_true, decide_eq_true_eq] at h; exact h.1
set_option maxHeartbeats 2000000 in
theorem put_ {k cc x v : Int} {g : Bool} {A : Option Addr} {n c : Nat} {l : List S48} {w : World} [h : Sr k48 w A n c l] :
 Calls Tryz.prog 59 #[.slice A n c, .agg #[.int .i64 k, .int .i64 cc, .int .i64 x, .int .i64 v, .bool g]] w fun e w' => ∃ A' c', e = .returned (.tuple #[.slice A' (putL l ⟨k, ⟨cc, x⟩, v, g⟩).length c', .int .i64 (putE l ⟨k, ⟨cc, x⟩, v, g⟩)]) ∧ FrL k48 48 w' w.heap.size (Under w'.heap.size) A' (putL l ⟨k, ⟨cc, x⟩, v, g⟩).length c' (putL l ⟨k, ⟨cc, x⟩, v, g⟩) ∧ BelL w w' := by
 obtain rfl := h.len
 have HS := sr_l h
 clear h
 cases h1 : storeB l
 ·rw [show putL l ⟨k, ⟨cc, x⟩, v, g⟩ = [] by simp [putL, putOk, h1], show putE l ⟨k, ⟨cc, x⟩, v, g⟩ = 500 by simp [putE, putOk, h1]]
  go_enter Tryz.func59, Tryz.ntmps59
  go_wp2_with (first | (with_reducible refine box_tc rfl (N := 3) rfl (cs := #[.int .i64 k, .int .i64 cc, .int .i64 x, .int .i64 v, .bool g]) (t := 48) ?hr ?_; (case hr => go_simp <;> rfl); intro g1 wg1 _ _ _) | (go_at_call 53; (with_reducible refine cM (storeMay_) ?_); rintro e wb ⟨rfl, hb⟩) | (go_at_call 57; (with_reducible refine cM (itemMay_) ?_); rintro e wb ⟨rfl, hb⟩) | (go_at_call 109; (with_reducible refine cM (cloneItem_ (by omega)) ?_); rintro e w1 ⟨A1, c1, rfl, hF, hb⟩) | (go_at_call 54; (with_reducible refine cM (bsItemP_ (by omega) h1) ?_); rintro e wb ⟨rfl, hb⟩) | (with_reducible refine lit_tc rfl (N := 29) rfl (cs := #[.int .i64 k, .int .i64 cc, .int .i64 x, .int .i64 v, .bool g]) (t := 48) (m := 1) ?hr ?_; (case hr => go_simp <;> rfl); intro g2 wg2 _ _ _) | (go_at_call 111; (with_reducible refine cM (insertItem_ hNl (by omega)) ?_); rintro e w2 ⟨A2, c2, rfl, hF2, hb2⟩))
  go_ret2
  exact ⟨_, _, rfl, frl_nil, belL⟩
 ·have h16 := storeB_len h1
  have hNl := putN_le h1 k
  cases h2 : itemB k cc x v g
  ·rw [show putL l ⟨k, ⟨cc, x⟩, v, g⟩ = [] by simp [putL, putOk, itemOk, h2], show putE l ⟨k, ⟨cc, x⟩, v, g⟩ = 500 by simp [putE, putOk, itemOk, h2]]
   go_enter Tryz.func59, Tryz.ntmps59
   go_wp2_with (first | (with_reducible refine box_tc rfl (N := 3) rfl (cs := #[.int .i64 k, .int .i64 cc, .int .i64 x, .int .i64 v, .bool g]) (t := 48) ?hr ?_; (case hr => go_simp <;> rfl); intro g1 wg1 _ _ _) | (go_at_call 53; (with_reducible refine cM (storeMay_) ?_); rintro e wb ⟨rfl, hb⟩) | (go_at_call 57; (with_reducible refine cM (itemMay_) ?_); rintro e wb ⟨rfl, hb⟩) | (go_at_call 109; (with_reducible refine cM (cloneItem_ (by omega)) ?_); rintro e w1 ⟨A1, c1, rfl, hF, hb⟩) | (go_at_call 54; (with_reducible refine cM (bsItemP_ (by omega) h1) ?_); rintro e wb ⟨rfl, hb⟩) | (with_reducible refine lit_tc rfl (N := 29) rfl (cs := #[.int .i64 k, .int .i64 cc, .int .i64 x, .int .i64 v, .bool g]) (t := 48) (m := 1) ?hr ?_; (case hr => go_simp <;> rfl); intro g2 wg2 _ _ _) | (go_at_call 111; (with_reducible refine cM (insertItem_ hNl (by omega)) ?_); rintro e w2 ⟨A2, c2, rfl, hF2, hb2⟩))
   go_ret2
   exact ⟨_, _, rfl, frl_nil, belL⟩
  ·have hok : putOk l ⟨k, ⟨cc, x⟩, v, g⟩ = true := by simp [putOk, itemOk, h1, h2]
   cases h3 : putH l k
   ·by_cases h4 : l.length = 16
    ·rw [show putL l ⟨k, ⟨cc, x⟩, v, g⟩ = [] by simp [putL, hok, h3, h4], show putE l ⟨k, ⟨cc, x⟩, v, g⟩ = 501 by simp [putE, hok, h3, h4]]
     have h4a : ((l.length : Int) == 16) = true := by rw [h4]; rfl
     clear h4
     go_enter Tryz.func59, Tryz.ntmps59
     go_wp2_with (first | (with_reducible refine box_tc rfl (N := 3) rfl (cs := #[.int .i64 k, .int .i64 cc, .int .i64 x, .int .i64 v, .bool g]) (t := 48) ?hr ?_; (case hr => go_simp <;> rfl); intro g1 wg1 _ _ _) | (go_at_call 53; (with_reducible refine cM (storeMay_) ?_); rintro e wb ⟨rfl, hb⟩) | (go_at_call 57; (with_reducible refine cM (itemMay_) ?_); rintro e wb ⟨rfl, hb⟩) | (go_at_call 109; (with_reducible refine cM (cloneItem_ (by omega)) ?_); rintro e w1 ⟨A1, c1, rfl, hF, hb⟩) | (go_at_call 54; (with_reducible refine cM (bsItemP_ (by omega) h1) ?_); rintro e wb ⟨rfl, hb⟩) | (with_reducible refine lit_tc rfl (N := 29) rfl (cs := #[.int .i64 k, .int .i64 cc, .int .i64 x, .int .i64 v, .bool g]) (t := 48) (m := 1) ?hr ?_; (case hr => go_simp <;> rfl); intro g2 wg2 _ _ _) | (go_at_call 111; (with_reducible refine cM (insertItem_ hNl (by omega)) ?_); rintro e w2 ⟨A2, c2, rfl, hF2, hb2⟩))
     go_ret2
     exact ⟨_, _, rfl, frl_nil, belL⟩
    ·have HE : Aside0 ((l.take (putN l k) ++ (⟨k, ⟨cc, x⟩, v, g⟩ : S48) :: l.drop (putN l k)).length = l.length + 1) := ⟨by rw [List.length_append, List.length_cons, List.length_take, List.length_drop]; omega⟩
     rw [show putL l ⟨k, ⟨cc, x⟩, v, g⟩ = l.take (putN l k) ++ (⟨k, ⟨cc, x⟩, v, g⟩ : S48) :: l.drop (putN l k) by simp [putL, hok, h3, h4], show putE l ⟨k, ⟨cc, x⟩, v, g⟩ = 0 by simp [putE, hok, h3, h4]]
     have h4a : ((l.length : Int) == 16) = false := by simpa using (by omega : (l.length : Int) ≠ 16)
     clear h4
     rw [HE.out]
     go_enter Tryz.func59, Tryz.ntmps59
     go_wp2_with (first | (with_reducible refine box_tc rfl (N := 3) rfl (cs := #[.int .i64 k, .int .i64 cc, .int .i64 x, .int .i64 v, .bool g]) (t := 48) ?hr ?_; (case hr => go_simp <;> rfl); intro g1 wg1 _ _ _) | (go_at_call 53; (with_reducible refine cM (storeMay_) ?_); rintro e wb ⟨rfl, hb⟩) | (go_at_call 57; (with_reducible refine cM (itemMay_) ?_); rintro e wb ⟨rfl, hb⟩) | (go_at_call 109; (with_reducible refine cM (cloneItem_ (by omega)) ?_); rintro e w1 ⟨A1, c1, rfl, hF, hb⟩) | (go_at_call 54; (with_reducible refine cM (bsItemP_ (by omega) h1) ?_); rintro e wb ⟨rfl, hb⟩) | (with_reducible refine lit_tc rfl (N := 29) rfl (cs := #[.int .i64 k, .int .i64 cc, .int .i64 x, .int .i64 v, .bool g]) (t := 48) (m := 1) ?hr ?_; (case hr => go_simp <;> rfl); intro g2 wg2 _ _ _) | (go_at_call 111; (with_reducible refine cM (insertItem_ hNl (by omega)) ?_); rintro e w2 ⟨A2, c2, rfl, hF2, hb2⟩))
     go_ret2
     exact ⟨_, _, rfl, frl, belL⟩
   ·have hlt := putH_lt h3
    have hln : LtN (putN l k) l.length := ⟨hlt⟩
    have HE : Aside0 ((l.set (putN l k) (bestI l[putN l k] ⟨k, ⟨cc, x⟩, v, g⟩)).length = l.length) := ⟨List.length_set⟩
    rw [show putL l ⟨k, ⟨cc, x⟩, v, g⟩ = l.set (putN l k) (bestI l[putN l k] ⟨k, ⟨cc, x⟩, v, g⟩) by simp only [putL, hok, h3, if_true, getD48 hlt], show putE l ⟨k, ⟨cc, x⟩, v, g⟩ = 0 by simp [putE, hok, h3]]
    rw [HE.out]
    go_enter Tryz.func59, Tryz.ntmps59
    go_upto_region 7 with (first | (with_reducible refine box_tc rfl (N := 3) rfl (cs := #[.int .i64 k, .int .i64 cc, .int .i64 x, .int .i64 v, .bool g]) (t := 48) ?hr ?_; (case hr => go_simp <;> rfl); intro g1 wg1 _ _ _) | (go_at_call 53; (with_reducible refine cM (storeMay_) ?_); rintro e wb ⟨rfl, hb⟩) | (go_at_call 57; (with_reducible refine cM (itemMay_) ?_); rintro e wb ⟨rfl, hb⟩) | (go_at_call 109; (with_reducible refine cM (cloneItem_ (by omega)) ?_); rintro e w1 ⟨A1, c1, rfl, hF, hb⟩; obtain ⟨gr, rfl, hrow, hgr⟩ := fr_form hF (by omega); have hge : GEL _ gr := ⟨hgr⟩; obtain ⟨q0, q1, q2, q3, q4⟩ := own_el48 (W := w1) (g := gr) (n := l.length) (c := c1) (l := l) (putN l k) (by omega)) | (go_at_call 54; (with_reducible refine cM (bsItemP_ (by omega) h1) ?_); rintro e wb ⟨rfl, hb⟩))
    go_region_with (first | (go_at_call 20; (with_reducible refine cM (best_) ?_); rintro e wb ⟨rfl, hb⟩))
    all_goals
     go_wp2
     go_ret2
     exact ⟨_, _, rfl, frl, belL⟩
end Go.Proofs.YtljipbmmgcccnaaGreat.T
end
section
namespace Go.Proofs.YtljipbmmgcccnaaGreat.T
open Go.RowKit Go.Proofs.YtljipbmmgcccnaaGreatW.PrintWords Go.Proofs.YtljipbmmgcccnaaGreatW.PrintLast Go.Proofs.YtljipbmmgcccnaaGreatW.PrintMore
attribute [local go_sem] cell_tc frozen_tc max2_int min2_int
attribute [local go_sem ↓] Go.wp_at_zero Go.wp_at_succ
set_option linter.unusedVariables false
set_option linter.unusedSimpArgs false
set_option synthInstance.maxHeartbeats 400000
set_option synthInstance.maxSize 512
section
class Flat {α : Type} (k : Kd α) : Prop where out : ∀ (W : World) (base : Nat) (ok : Nat → Prop) (x : α) (cs : List Value), k.K W x cs → k.M W base ok x cs
instance : Flat kI := ⟨fun _ _ _ _ _ h => h⟩
instance : Flat k98 := ⟨fun W b ok x cs h => by rw [k98_open h]; exact k98_mkM _ _ _ x⟩
instance : Flat k48 := ⟨fun W b ok x cs h => by rw [k48_open h]; exact k48_mkM _ _ _ x⟩
instance : Flat k77 := ⟨fun W b ok x cs h => by rw [k77_open h]; exact k77_mkM _ _ _ x⟩
instance : Flat k157 := ⟨fun W b ok x cs h => by rw [k157_open h]; exact k157_mkM _ _ _ x⟩
class ElT {α : Type} (k : Kd α) (e : outParam Nat) : Prop where
 out : ∃ z bytes, (Tryz.prog.info? e).map (fun i => (i.zero, i.size, i.bytes)) = some (some z, k.sz, bytes) ∧ z.cells.size = k.sz ∧ 0 < k.sz ∧ 0 < bytes ∧ bytes ≤ 112
instance : ElT kI 3 := ⟨.int .i64 0, 8, by kernel_rfl, rfl, by decide, by decide, by decide⟩
instance : ElT k98 98 := ⟨.agg #[.int .i64 0, .int .i64 0], 16, by kernel_rfl, rfl, by decide, by decide, by decide⟩
instance : ElT k48 48 := ⟨.agg #[.int .i64 0, .int .i64 0, .int .i64 0, .int .i64 0, .bool false], 40, by kernel_rfl, rfl, by decide, by decide, by decide⟩
instance : ElT k77 77 := ⟨.agg #[.int .i64 0, .bool false, .int .i64 0], 24, by kernel_rfl, rfl, by decide, by decide, by decide⟩
instance : ElT k157 157 := ⟨.agg #[.int .i64 0, .int .i64 0], 16, by kernel_rfl, rfl, by decide, by decide, by decide⟩
instance : ElT k40 40 := ⟨.agg #[.bool false, .int .i64 0, .slice none 0 0, .slice none 0 0, .slice none 0 0, .slice none 0 0], 112, by kernel_rfl, rfl, by decide, by decide, by decide⟩
instance : ElT k126 126 := ⟨.agg #[.int .i64 0, .int .i64 0, .int .i64 0, .slice none 0 0, .int .i64 0, .int .i64 0, .int .i64 0, .int .i64 0, .int .i64 0, .bool false, .bool false], 104, by kernel_rfl, rfl, by decide, by decide, by decide⟩
def Any : Nat → Prop := fun _ => True
instance fr_nil {α : Type} {k : Kd α} {e : Nat} {W : World} [h : ElT k e] : Fr k e W W.heap.size Any none 0 0 [] := ⟨rfl, Nat.le_refl 0, Kd.R_nil _ _ _ _ _⟩
theorem reads_lit {α : Type} {k : Kd α} {W : World} {g t : Nat} {cs : List Value} {ys : List α} (h : W.heap[g]? = some (.cells cs.toArray t (0, 0))) (hl : ys.length ≤ 1000000) (hr : Reps (k.K W) k.sz ys cs) : k.C W (some ⟨g, 0, none⟩) ys.length ys := by
 refine ⟨rfl, by omega, fun _ => ⟨_, rfl, fun j p hj => ⟨(cs.drop (j * k.sz)).take k.sz, ?_, hr.2 j p hj, fun i u hu => ?_⟩⟩⟩
 ·rw [List.length_take, List.length_drop, hr.1]
  have hjl : j < ys.length := (List.getElem?_eq_some_iff.1 hj).1
  have : j * k.sz + k.sz ≤ ys.length * k.sz := by rw [← Nat.succ_mul]; exact Nat.mul_le_mul_right _ hjl
  omega
 ·rw [Addr.add_lit, Nat.zero_add, blk_cell h]
  rw [List.getElem?_take] at hu
  split at hu
  ·rw [List.getElem?_drop] at hu; simpa using hu
  ·simp at hu
theorem reps1 {α : Type} {R : α → List Value → Prop} {s : Nat} {x : α} {cs : List Value} (h : R x cs) (hl : cs.length = s) : Reps R s [x] cs := ⟨by simp [hl], fun j p hj => by
 cases j with
 | zero => simp at hj; subst hj; simpa [← hl] using h
 | succ j => simp at hj⟩
instance sr_lit1 {W : World} {g : Nat} {a : Int} {t : Nat} [h : Blk W g #[.int .i64 a] t] : Sr kI W (some ⟨g, 0, none⟩) 1 1 [a] := ⟨rfl, Nat.le_refl 1, reads_lit (cs := [.int .i64 a]) h.out (by simp) (reps1 (R := kI.K W) (show kI.K W a [.int .i64 a] from rfl) rfl)⟩
instance sr_lit2 {W : World} {g : Nat} {a b : Int} {t : Nat} [h : Blk W g #[.int .i64 a, .int .i64 b] t] : Sr kI W (some ⟨g, 0, none⟩) 2 2 [a, b] := ⟨rfl, Nat.le_refl 2, reads_lit (cs := [.int .i64 a, .int .i64 b]) h.out (by simp) ⟨rfl, fun j p hj => by
 match j, hj with
 | 0, hj => obtain rfl := Option.some.inj hj; rfl
 | 1, hj => obtain rfl := Option.some.inj hj; rfl⟩⟩
instance sr_lit98 {W : World} {g : Nat} {a b : Int} [h : Blk W g #[.int .i64 a, .int .i64 b] 98] : Sr k98 W (some ⟨g, 0, none⟩) 1 1 [⟨a, b⟩] := ⟨rfl, Nat.le_refl 1, reads_lit (cs := [.int .i64 a, .int .i64 b]) h.out (by simp) (reps1 (k98_mk W ⟨a, b⟩) rfl)⟩
instance sr_lit48 {W : World} {g : Nat} {a b c d : Int} {f : Bool} [h : Blk W g #[.int .i64 a, .int .i64 b, .int .i64 c, .int .i64 d, .bool f] 48] : Sr k48 W (some ⟨g, 0, none⟩) 1 1 [⟨a, ⟨b, c⟩, d, f⟩] := ⟨rfl, Nat.le_refl 1, reads_lit (cs := [.int .i64 a, .int .i64 b, .int .i64 c, .int .i64 d, .bool f]) h.out (by simp) (reps1 (k48_mk W ⟨a, ⟨b, c⟩, d, f⟩) rfl)⟩
instance sr_lit77 {W : World} {g : Nat} {a b : Int} {f : Bool} [h : Blk W g #[.int .i64 a, .bool f, .int .i64 b] 77] : Sr k77 W (some ⟨g, 0, none⟩) 1 1 [⟨a, f, b⟩] := ⟨rfl, Nat.le_refl 1, reads_lit (cs := [.int .i64 a, .bool f, .int .i64 b]) h.out (by simp) (reps1 (k77_mk W ⟨a, f, b⟩) rfl)⟩
class GrL (t : outParam Nat) (w : outParam World) (W : World) : Prop where out : ∃ row, w.grownBy W row ∧ ∀ k, row = some k → ∃ cells, w.heap[k]? = some (.cells cells t (0, 0))
class NotTy {α : Type} (t : Nat) (k : Kd α) (e : Nat) : Prop where out : ∀ q, q ∈ e :: k.E → q ≠ t
instance nt_3_98 : NotTy 3 k98 98 := ⟨by decide⟩
instance nt_98_3 : NotTy 98 kI 3 := ⟨by decide⟩
instance nt_3_48 : NotTy 3 k48 48 := ⟨by decide⟩
instance nt_48_3 : NotTy 48 kI 3 := ⟨by decide⟩
instance nt_126_3 : NotTy 126 kI 3 := ⟨by decide⟩
instance nt_126_98 : NotTy 126 k98 98 := ⟨by decide⟩
instance nt_126_48 : NotTy 126 k48 48 := ⟨by decide⟩
instance nt_126_77 : NotTy 126 k77 77 := ⟨by decide⟩
instance nt_77_3 : NotTy 77 kI 3 := ⟨by decide⟩
instance nt_77_98 : NotTy 77 k98 98 := ⟨by decide⟩
instance nt_77_48 : NotTy 77 k48 48 := ⟨by decide⟩
instance nt_40_3 : NotTy 40 kI 3 := ⟨by decide⟩
instance nt_40_98 : NotTy 40 k98 98 := ⟨by decide⟩
instance nt_40_48 : NotTy 40 k48 48 := ⟨by decide⟩
instance nt_40_77 : NotTy 40 k77 77 := ⟨by decide⟩
instance nt_40_157 : NotTy 40 k157 157 := ⟨by decide⟩
instance nt_126_157 : NotTy 126 k157 157 := ⟨by decide⟩
instance fr_gr {α : Type} {k : Kd α} {e t b : Nat} {w W : World} {S : Nat → Prop} {A : Option Addr} {n c : Nat} {xs : List α} [q : GrL t w W] [h : Fr k e w b S A n c xs] [nt : NotTy t k e] : Fr k e W b S A n c xs := ⟨h.len, h.le, by
 obtain ⟨row, hg, hty⟩ := q.out
 exact Kd.R_step (Kd.R_mono (Kd.R_bound h.R) (fun j hj => (⟨hj.1, hj.2.2.2⟩ : S j ∧ ∃ q, q ∈ e :: k.E ∧ ∃ cells, w.heap[j]? = some (.cells cells q (0, 0)))) ) (fun j hj hlt => hg.block j hlt (fun e1 => by
  obtain ⟨cells, hc⟩ := hty j e1.symm
  obtain ⟨q, hq, cells2, hc2⟩ := hj.2
  rw [hc] at hc2
  have := Option.some.inj hc2
  injection this with _ h2 _
  exact nt.out q hq h2.symm)) |> fun h => Kd.R_mono h (fun _ hk => hk.1)⟩
class NeT (a b : Nat) : Prop where out : a ≠ b
instance : NeT 126 3 := ⟨by decide⟩
instance : NeT 98 3 := ⟨by decide⟩
instance : NeT 48 3 := ⟨by decide⟩
instance : NeT 25 3 := ⟨by decide⟩
instance : NeT 40 3 := ⟨by decide⟩
instance : NeT 61 3 := ⟨by decide⟩
instance : NeT 157 3 := ⟨by decide⟩
instance : NeT 25 98 := ⟨by decide⟩
instance : NeT 25 126 := ⟨by decide⟩
instance : NeT 40 126 := ⟨by decide⟩
instance : NeT 48 126 := ⟨by decide⟩
instance : NeT 61 126 := ⟨by decide⟩
instance : NeT 119 126 := ⟨by decide⟩
instance : NeT 40 77 := ⟨by decide⟩
instance : NeT 77 126 := ⟨by decide⟩
instance : NeT 206 126 := ⟨by decide⟩
instance : NeT 61 40 := ⟨by decide⟩
instance blk_gr {t t' : Nat} {w W : World} {g : Nat} {cs : Array Value} [q : GrL t w W] [h : Blk w g cs t'] [nt : NeT t' t] : Blk W g cs t' := ⟨by
 obtain ⟨row, hg, hty⟩ := q.out
 refine (hg.block g (blk_lt h.out) (fun e => ?_)).trans h.out
 obtain ⟨cells, hc⟩ := hty g e.symm
 rw [h.out] at hc
 have := Option.some.inj hc
 injection this with _ h2 _
 exact nt.out h2⟩
section
variable {ops : Array Oper} {rest : List Oper} {o : Oper} {a : Act} {Q : Exit → Act → World → Prop} {α : Type}
theorem app_gen {k : Kd α} {e b : Nat} {S : Nat → Prop} {W : World} {A B : Option Addr} {n c m d : Nat} {xs ys : List α} {s x : Operand} {t : Nat} {okp : Nat → Prop} {Rr : α → List Value → Prop}
 (hgd : o.guard = none) (ho : o.op = .call { callee := .builtin .append, args := #[s, x], argTypes := #[t, t] }) (ht : Tryz.prog.underlying t = some (.slice e)) (hs : a.eval s = .slice A n c) (hx : a.eval x = .slice B m d)
 (he : ElT k e) (h : Fr k e W b S A n c xs) (HR : ReadsRow Rr k.sz W B m ys) (hKM : ∀ x cs, Rr x cs → k.M W b okp x cs) (hokp : ∀ j, okp j → some j ≠ (Value.slice A n c).ownBlock) (hb : b ≤ W.heap.size) (hl : n + m ≤ 1000000)
 (hk : ∀ A' c' w1, FrL k e w1 b Any A' (n + m) c' (xs ++ ys) → BbL b W w1 → GrL e W w1 → wpList Tryz.prog ops Q rest (a.put o.dst (.slice A' (n + m) c')) w1) : wpList Tryz.prog ops Q (o :: rest) a W := by
 obtain ⟨z, bytes, hi, hz, hs0, hb0, hb1⟩ := he.out
 have hlen := h.len
 have hm : ys.length = m := HR.1
 refine Kd.R_append_rows k (w0 := W) b hgd s x t e z bytes ho ht hi hz hs0 hb0 (.slice A n c) xs ys B m d (fun _ => True) okp hs hx h.any HR hKM (fun j hj => ⟨trivial, hokp j hj⟩) (fun _ _ => trivial) (Below.mono (Below.refl _ _) hb) hb ?_ ?_
 ·have : (xs.length + m) * bytes ≤ 1000000 * 112 := Nat.mul_le_mul (by omega) hb1
  omega
 ·intro v1 w1 hR hB hg _
  obtain ⟨A', c', rfl, hc', _⟩ := Kd.R_reads hR
  have e1 : (xs ++ ys).length = n + m := by rw [List.length_append]; omega
  rw [e1] at hR hc' ⊢
  exact hk A' c' w1 ⟨e1, hc', hR⟩ (bb_of_grown h.any hb hg) ⟨_, hg, fun j hj => Kd.R_typed h.any j hj⟩
theorem app_tc {k : Kd α} {e b : Nat} {S : Nat → Prop} {W : World} {A B : Option Addr} {n c m d : Nat} {xs ys : List α} {s x : Operand} {t : Nat}
 (hgd : o.guard = none) (ho : o.op = .call { callee := .builtin .append, args := #[s, x], argTypes := #[t, t] }) (ht : Tryz.prog.underlying t = some (.slice e)) (hs : a.eval s = .slice A n c) (hx : a.eval x = .slice B m d)
 [he : ElT k e] [hf : Flat k] [h : Fr k e W b S A n c xs] [HR : Sr k W B m d ys] [hb : LeB b W.heap.size] (hl : n + m ≤ 1000000)
 (hk : ∀ A' c' w1, FrL k e w1 b Any A' (n + m) c' (xs ++ ys) → BbL b W w1 → GrL e W w1 → wpList Tryz.prog ops Q rest (a.put o.dst (.slice A' (n + m) c')) w1) : wpList Tryz.prog ops Q (o :: rest) a W :=
 app_gen (okp := fun _ => False) (Rr := k.K W) hgd ho ht hs hx he h HR.C (fun x cs hx => hf.out _ _ _ _ _ hx) (fun _ h => h.elim) hb.out hl hk
end
section
variable {ops : Array Oper} {o : Oper} {a : Act} {Q : Exit → Act → World → Prop} {Kc : Act → World → Prop} {α : Type}
theorem app_step_tc {k : Kd α} {e b : Nat} {S : Nat → Prop} {W : World} {A B : Option Addr} {n c m d : Nat} {xs ys : List α} {s x : Operand} {t : Nat}
 (hw : Region.wanted o (yielded ops a.tmps) = true) (ho : o.op = .call { callee := .builtin .append, args := #[s, x], argTypes := #[t, t] }) (ht : Tryz.prog.underlying t = some (.slice e)) (hs : a.eval s = .slice A n c) (hx : a.eval x = .slice B m d)
 [he : ElT k e] [hf : Flat k] [h : Fr k e W b S A n c xs] [HR : Sr k W B m d ys] [hb : LeB b W.heap.size] (hl : n + m ≤ 1000000)
 (hk : ∀ A' c' w1, FrL k e w1 b Any A' (n + m) c' (xs ++ ys) → BbL b W w1 → GrL e W w1 → Kc (a.put o.dst (.slice A' (n + m) c')) w1) : if Region.wanted o (yielded ops a.tmps) = true then Oper.wp Tryz.prog o a W Kc Q else Kc (a.put o.dst undef) W := by
 obtain ⟨z, bytes, hi, hz, hs0, hb0, hb1⟩ := he.out
 have hlen := h.len
 have hm : ys.length = m := HR.C.1
 refine Kd.R_append_rows_step k (w0 := W) b hw s x t e z bytes ho ht hi hz hs0 hb0 (.slice A n c) xs ys B m d (fun _ => True) (fun _ => False) hs hx h.any HR.C (fun x cs hx => hf.out _ _ _ _ _ hx) (fun j hj => hj.elim) (fun _ _ => trivial) (Below.mono (Below.refl _ _) hb.out) hb.out ?_ ?_
 ·have : (xs.length + m) * bytes ≤ 1000000 * 112 := Nat.mul_le_mul (by omega) hb1
  omega
 ·intro v1 w1 hR hB hg _
  obtain ⟨A', c', rfl, hc', _⟩ := Kd.R_reads hR
  have e1 : (xs ++ ys).length = n + m := by rw [List.length_append]; omega
  rw [e1] at hR hc' ⊢
  exact hk A' c' w1 ⟨e1, hc', hR⟩ (bb_of_grown h.any hb.out hg) ⟨_, hg, fun j hj => Kd.R_typed h.any j hj⟩
end
end
end Go.Proofs.YtljipbmmgcccnaaGreat.T
end
section
namespace Go.Proofs.YtljipbmmgcccnaaGreat.T
open Go.RowKit Go.Proofs.YtljipbmmgcccnaaGreatW.PrintWords Go.Proofs.YtljipbmmgcccnaaGreatW.PrintLast Go.Proofs.YtljipbmmgcccnaaGreatW.PrintMore
attribute [local go_sem] cell_tc frozen_tc max2_int min2_int
attribute [local go_sem ↓] Go.wp_at_zero Go.wp_at_succ
set_option linter.unusedVariables false
set_option linter.unusedSimpArgs false
attribute [local go_sem] cell_tc2
def idsOf (ps : List S98) : List Int := ps.map fun p => p.f0
theorem idsOf_len (ps : List S98) : (idsOf ps).length = ps.length := List.length_map ..
theorem idsOf_snoc {ps : List S98} {i : Nat} (h : i < ps.length) : idsOf (ps.take (i + 1)) = idsOf (ps.take i) ++ [ps[i].f0] := by
 unfold idsOf; rw [List.take_succ_eq_append_getElem h, List.map_append]; rfl
set_option maxHeartbeats 1000000 in
theorem ids_ {id : Int} {ad : Addr} {A B : Option Addr} {n c m d : Nat} {ps : List S98} {w : World} [hv : VAt w ad id A n c B m d] [h : Sr k98 w A n c ps] (hn : n ≤ 100000) :
 Calls Tryz.prog 141 #[.pointer (some ad)] w fun e w' => ∃ A' c', e = .returned (.slice A' ps.length c') ∧ FrL kI 3 w' w.heap.size (Under w'.heap.size) A' ps.length c' (idsOf ps) ∧ BelL w w' := by
 obtain rfl := h.len
 have HS := sr_l h
 have HV := hv.out
 have hc1 : CellL w ⟨ad.block, ad.off + 1, none⟩ (.slice A ps.length c) := ⟨hv.out.2.1⟩
 clear h HV hv
 go_enter Tryz.func141, Tryz.ntmps141
 go_wp2
 go_loopg [3, 5, 11] ps.length (fun kq v3 v5 v11 w' => ∃ (i : Nat) (A3 : Option Addr) (c3 : Nat), v11 = .int .i64 i ∧ v3 = .slice A3 i c3 ∧ i ≤ ps.length ∧ kq = ps.length - i ∧ FrL kI 3 w' w.heap.size (Under w'.heap.size) A3 i c3 (idsOf (ps.take i)) ∧ BelL w w')
 case atStart => exact ⟨0, none, 0, rfl, rfl, Nat.zero_le _, rfl, frl_nil, belL⟩
 case round =>
  obtain ⟨i, A3, c3, rfl, rfl, hi, rfl, hF, hbr⟩ := hrel
  by_cases hlt : i < ps.length
  ·obtain ⟨ad', rfl, hx0, hx1⟩ := el_T98 (W := wr) (A := A) (n := ps.length) (c := c) (l := ps) i hlt
   have HI := Aside0.mk (idsOf_snoc hlt)
   go_wp2_with (first | (with_reducible refine box_tc rfl (N := 5) rfl (cs := #[.int .i64 0, .int .i64 0]) (t := 98) ?hr ?_; (case hr => go_simp <;> rfl); intro g1 wg1 _ _ _) | (with_reducible refine lit_tc rfl (N := 18) rfl (cs := #[.int .i64 ps[i].f0]) (t := 3) (m := 1) ?hr ?_; (case hr => go_simp <;> rfl); intro g2 wg2 _ _ _) | ((with_reducible refine gate_dst (N := 19) rfl ?_); refine app_tc (k := kI) (t := 23) (A := A3) (n := i) (c := c3) (B := some ⟨g2, 0, none⟩) (m := 1) (d := 1) (by rfl) (by rfl) Tryz.underlying23 (by rfl) (by rfl) (by omega) ?_; intro A4 c4 w4 _ _ _))
   go_roundg (ps.length - (i + 1))
   case measure => omega
   case rel => exact ⟨i + 1, _, _, by go_num, rfl, by omega, rfl, by rw [HI.out]; exact frl, belL⟩
  ·obtain rfl : i = ps.length := by omega
   rw [List.take_length] at hF
   go_wp2
   go_ret
   exact ⟨_, _, rfl, frl, belL⟩
def agedOne (p : S98) : List S98 := if p.f1 = 2 then [] else [⟨p.f0, p.f1 + 1⟩]
def lostOne (p : S98) : List Int := if p.f1 = 2 then [p.f0] else []
def aged (ps : List S98) : List S98 := ps.flatMap agedOne
def lostOf (ps : List S98) : List Int := ps.flatMap lostOne
theorem aged_snoc {ps : List S98} {i : Nat} (h : i < ps.length) : aged (ps.take (i + 1)) = aged (ps.take i) ++ agedOne ps[i] := by
 unfold aged; rw [List.take_succ_eq_append_getElem h, List.flatMap_append]; simp
theorem lost_snoc {ps : List S98} {i : Nat} (h : i < ps.length) : lostOf (ps.take (i + 1)) = lostOf (ps.take i) ++ lostOne ps[i] := by
 unfold lostOf; rw [List.take_succ_eq_append_getElem h, List.flatMap_append]; simp
theorem aged_le (ps : List S98) : (aged ps).length ≤ ps.length := by
 unfold aged; induction ps with
 | nil => exact Nat.le_refl 0
 | cons p ps ih =>
   have h : (agedOne p).length ≤ 1 := by unfold agedOne; split <;> simp
   rw [List.flatMap_cons, List.length_append, List.length_cons]; omega
theorem lost_le (ps : List S98) : (lostOf ps).length ≤ ps.length := by
 unfold lostOf; induction ps with
 | nil => exact Nat.le_refl 0
 | cons p ps ih =>
   have h : (lostOne p).length ≤ 1 := by unfold lostOne; split <;> simp
   rw [List.flatMap_cons, List.length_append, List.length_cons]; omega
def ageL (base : Int) (ps : List S98) : List S98 := if peersB base ps then aged ps else []
def ageX (base : Int) (ps : List S98) : List Int := if peersB base ps then lostOf ps else []
def ageE (base : Int) (ps : List S98) : Int := if peersB base ps then 0 else 700
theorem peersMay_ {base : Int} {A : Option Addr} {n c : Nat} {l : List S98} {w : World} [h : Sr k98 w A n c l] :
 Calls Tryz.prog 43 #[.int .i64 base, .slice A n c] w fun e w' => e = .returned (.bool (peersB base l)) ∧ BelL w w' := by
 have := h.len; subst this
 exact (peersMay base A c l w h.C h.le).mono fun _ _ ⟨a, b⟩ => ⟨a, ⟨b⟩⟩
set_option maxHeartbeats 2000000 in
theorem peersAge_ {base : Int} {A : Option Addr} {n c : Nat} {ps : List S98} {w : World} [h : Sr k98 w A n c ps] :
 Calls Tryz.prog 189 #[.int .i64 base, .slice A n c] w fun e w' => ∃ A1 c1 A2 c2, e = .returned (.tuple #[.slice A1 (ageL base ps).length c1, .slice A2 (ageX base ps).length c2, .int .i64 (ageE base ps)]) ∧
  FrL k98 98 w' w.heap.size (Under w'.heap.size) A1 (ageL base ps).length c1 (ageL base ps) ∧ FrL kI 3 w' w.heap.size (Under w'.heap.size) A2 (ageX base ps).length c2 (ageX base ps) ∧ BelL w w' := by
 obtain rfl := h.len
 have HS := sr_l h
 clear h
 cases h1 : peersB base ps
 ·rw [show ageL base ps = [] by simp [ageL, h1], show ageX base ps = [] by simp [ageX, h1], show ageE base ps = 700 by simp [ageE, h1]]
  go_enter Tryz.func189, Tryz.ntmps189
  go_wp2_with (first | (go_at_call 43; (with_reducible refine cM (peersMay_) ?_); rintro e wb ⟨rfl, hb⟩))
  go_ret3
  exact ⟨_, _, _, _, rfl, frl_nil, frl_nil, belL⟩
 ·have h16 := (peersB_base h1).2
  have HP := Aside0.mk (fun i (hi : i < ps.length) => peersB_at h1 hi)
  rw [show ageL base ps = aged ps by simp [ageL, h1], show ageX base ps = lostOf ps by simp [ageX, h1], show ageE base ps = 0 by simp [ageE, h1]]
  go_enter Tryz.func189, Tryz.ntmps189
  go_wp2_with (first | (go_at_call 43; (with_reducible refine cM (peersMay_) ?_); rintro e wb ⟨rfl, hb⟩))
  clear h1
  go_loopg [7, 8, 10, 17] ps.length (fun kq v7 v8 v10 v17 w' => ∃ (i : Nat) (A3 : Option Addr) (c3 : Nat) (A4 : Option Addr) (c4 : Nat), v17 = .int .i64 i ∧ v7 = .slice A3 (aged (ps.take i)).length c3 ∧ v8 = .slice A4 (lostOf (ps.take i)).length c4 ∧ i ≤ ps.length ∧ kq = ps.length - i ∧
   FrL k98 98 w' w.heap.size (Under w'.heap.size) A3 (aged (ps.take i)).length c3 (aged (ps.take i)) ∧ FrL kI 3 w' w.heap.size (Under w'.heap.size) A4 (lostOf (ps.take i)).length c4 (lostOf (ps.take i)) ∧ BelL w w')
  case atStart => exact ⟨0, none, 0, none, 0, rfl, rfl, rfl, Nat.zero_le _, rfl, frl_nil, frl_nil, belL⟩
  case round =>
   obtain ⟨i, A3, c3, A4, c4, rfl, rfl, rfl, hi, rfl, hF, hG, hbr⟩ := hrel
   by_cases hlt : i < ps.length
   ·obtain ⟨ad', rfl, hx0, hx1⟩ := el_T98 (W := wr) (A := A) (n := ps.length) (c := c) (l := ps) i hlt
    have HA := Aside0.mk (aged_snoc hlt)
    have HB := Aside0.mk (lost_snoc hlt)
    have hp := HP.out i hlt
    have hp1 := hp.2.1
    have hp2 := hp.2.2.1
    have ha := aged_le (ps.take i)
    have hb := lost_le (ps.take i)
    rw [List.length_take] at ha hb
    clear hp
    by_cases h2 : ps[i].f1 = 2
    ·have HA2 : Aside0 (aged (ps.take (i + 1)) = aged (ps.take i)) := ⟨by rw [HA.out]; simp [agedOne, h2]⟩
     have HB2 : Aside0 (lostOf (ps.take (i + 1)) = lostOf (ps.take i) ++ [ps[i].f0]) := ⟨by rw [HB.out]; simp [lostOne, h2]⟩
     have h3 : (ps[i].f1 + 1 == 3) = true := by rw [h2]; rfl
     have HL : Aside0 ((lostOf (ps.take (i + 1))).length = (lostOf (ps.take i)).length + 1) := ⟨by rw [HB2.out, List.length_append]; rfl⟩
     clear h2
     go_wp2_with (first | (with_reducible refine box_tc rfl (N := 10) rfl (cs := #[.int .i64 0, .int .i64 0]) (t := 98) ?hr ?_; (case hr => go_simp <;> rfl); intro g1 wg1 _ _ _) | (with_reducible refine lit_tc rfl (N := 31) rfl (cs := #[.int .i64 ps[i].f0]) (t := 3) (m := 1) ?hr ?_; (case hr => go_simp <;> rfl); intro g2 wg2 _ _ _) | ((with_reducible refine gate_dst (N := 32) rfl ?_); refine app_tc (k := kI) (t := 23) (A := A4) (n := (lostOf (ps.take i)).length) (c := c4) (B := some ⟨g2, 0, none⟩) (m := 1) (d := 1) (by rfl) (by rfl) Tryz.underlying23 (by rfl) (by rfl) (by omega) ?_; intro A5 c5 w5 _ _ _))
     go_roundg (ps.length - (i + 1))
     case measure => omega
     case rel => exact ⟨i + 1, _, _, _, _, by go_num, by rw [HA2.out], by rw [HL.out], by omega, rfl, by rw [HA2.out]; exact frl, by rw [HL.out, HB2.out]; exact frl, belL⟩
    ·have HA2 : Aside0 (aged (ps.take (i + 1)) = aged (ps.take i) ++ [⟨ps[i].f0, ps[i].f1 + 1⟩]) := ⟨by rw [HA.out]; simp [agedOne, h2]⟩
     have HB2 : Aside0 (lostOf (ps.take (i + 1)) = lostOf (ps.take i)) := ⟨by rw [HB.out]; simp [lostOne, h2]⟩
     have h3 : (ps[i].f1 + 1 == 3) = false := by simpa using (by omega : ps[i].f1 + 1 ≠ 3)
     have HL : Aside0 ((aged (ps.take (i + 1))).length = (aged (ps.take i)).length + 1) := ⟨by rw [HA2.out, List.length_append]; rfl⟩
     clear h2
     go_wp2_with (first | (with_reducible refine box_tc rfl (N := 10) rfl (cs := #[.int .i64 0, .int .i64 0]) (t := 98) ?hr ?_; (case hr => go_simp <;> rfl); intro g1 wg1 _ _ _) | (with_reducible refine lit_tc rfl (N := 35) rfl (cs := #[.int .i64 ps[i].f0, .int .i64 (ps[i].f1 + 1)]) (t := 98) (m := 1) ?hr ?_; (case hr => go_simp <;> rfl); intro g2 wg2 _ _ _) | ((with_reducible refine gate_dst (N := 36) rfl ?_); refine app_tc (k := k98) (t := 22) (A := A3) (n := (aged (ps.take i)).length) (c := c3) (B := some ⟨g2, 0, none⟩) (m := 1) (d := 1) (by rfl) (by rfl) Tryz.underlying22 (by rfl) (by rfl) (by omega) ?_; intro A5 c5 w5 _ _ _))
     go_roundg (ps.length - (i + 1))
     case measure => omega
     case rel => exact ⟨i + 1, _, _, _, _, by go_num, by rw [HL.out], by rw [HB2.out], by omega, rfl, by rw [HL.out, HA2.out]; exact frl, by rw [HB2.out]; exact frl, belL⟩
   ·obtain rfl : i = ps.length := by omega
    rw [List.take_length] at hF hG
    rw [List.take_length]
    go_wp2
    go_ret3
    exact ⟨_, _, _, _, rfl, frl, frl, belL⟩
end Go.Proofs.YtljipbmmgcccnaaGreat.T
end
section
namespace Go.Proofs.YtljipbmmgcccnaaGreat.T
open Go.RowKit Go.Proofs.YtljipbmmgcccnaaGreatW.PrintWords Go.Proofs.YtljipbmmgcccnaaGreatW.PrintLast Go.Proofs.YtljipbmmgcccnaaGreatW.PrintMore
attribute [local go_sem] cell_tc frozen_tc max2_int min2_int
attribute [local go_sem ↓] Go.wp_at_zero Go.wp_at_succ
set_option linter.unusedVariables false
set_option linter.unusedSimpArgs false
set_option maxHeartbeats 4000000 in
set_option maxRecDepth 100000 in
theorem insertIntEnd (v : Value) (n : Nat) (xs news : List Value) (w : World) (b0 vb : Nat) (hown : w.ownsRow b0 3 1 v n xs) (hvb : w.heap[vb]? = some (.cells news.toArray 3 (0, 0))) (hnl : news.length = 1)
 (h1v : ∀ u ∈ news, u.oneCell' = true) (hn : n ≤ 1000000) (hb0 : b0 ≤ w.heap.size) :
 Calls Tryz.prog 198 #[v, .int .i64 n, .slice (some ⟨vb, 0, none⟩) 1 1] w fun e w' => ∃ v', e = .returned v' ∧ w'.ownsRow b0 3 1 v' (n + 1) (xs ++ news) ∧ w.grownBy w' v.ownBlock := by
 obtain ⟨i0, hi0, hz0, hzs, hzb⟩ := info_parts (P := Tryz.prog) (e := 3) (z := .int .i64 0) (size := 1) (bytes := 8) (by kernel_rfl)
 have HOW := Aside0.mk hown
 have HNW := Aside0.mk (show ∀ j u, news[j]? = some u → w.cell? ((⟨vb, 0, none⟩ : Addr).add j) = some u from fun j u h => by rw [Addr.add_lit, blk_cell hvb]; simpa using h)
 have HI := Aside0.mk hi0
 have HZ := Aside0.mk hz0
 have HS := Aside0.mk hzs
 have HY := Aside0.mk hzb
 have HV := Aside0.mk h1v
 have HL := Aside0.mk hnl
 have hz1 : ¬ ((1 : Nat) = 0) := by omega
 clear hi0 hz0 hzs hzb h1v hnl hvb
 rcases hown.2 with ⟨hv, h0⟩ | ⟨g, cap, cur, hv, hbg, hg, hnc, hcm, hcs, htake⟩
 ·subst h0
  subst hv
  clear hown
  go_enter Tryz.func198, Tryz.ntmps198
  go_wp2_with (first | (at_builtin; refine wpList_append_own _ rfl _ _ 23 rfl b0 3 i0 _ 1 8 Tryz.underlying23 HI.out HZ.out HS.out HY.out rfl (by decide) _ _ _ rfl HOW.out _ _ _ _ rfl (by rw [HL.out]) HNW.out HV.out (by simp only [maxLen]; omega) (by omega) hb0 ?_; intro v1 w1 ho hg1 hnil; have HO := Aside0.mk ho; have HG := Aside0.mk hg1; clear ho hg1 hnil))
  go_ret
  exact ⟨v1, rfl, HO.out, HG.out⟩
 ·subst hv
  clear hown hg hcs htake
  have HC := Aside0.mk hnc
  go_enter Tryz.func198, Tryz.ntmps198
  go_wp2_with (first | (at_builtin; refine wpList_append_own _ rfl _ _ 23 rfl b0 3 i0 _ 1 8 Tryz.underlying23 HI.out HZ.out HS.out HY.out rfl (by decide) _ _ _ rfl HOW.out _ _ _ _ rfl (by rw [HL.out]) HNW.out HV.out (by simp only [maxLen]; omega) (by omega) hb0 ?_; intro v1 w1 ho hg1 hnil; have HO := Aside0.mk ho; have HG := Aside0.mk hg1; clear ho hg1 hnil))
  all_goals (go_ret; exact ⟨v1, rfl, HO.out, HG.out⟩)
set_option maxHeartbeats 4000000 in
set_option maxRecDepth 100000 in
theorem insertIntGrow (g n cap i : Nat) (cur : Array Value) (xs news : List Value) (w : World) (b0 vb : Nat) (hbg : b0 ≤ g) (hg : w.heap[g]? = some (.cells cur 3 (0, 0))) (hnc : n ≤ cap) (hcm : cap ≤ maxLen) (hcs : cur.size = cap) (htake : cur.toList.take (n) = xs) (h1x : ∀ u ∈ xs, u.oneCell' = true)
 (hvb : w.heap[vb]? = some (.cells news.toArray 3 (0, 0))) (hnl : news.length = 1) (h1v : ∀ u ∈ news, u.oneCell' = true) (hne : vb ≠ g) (hi : i < n) (hn : n ≤ 1000000) (hb0 : b0 ≤ w.heap.size) (hroom : cap < n + 1) :
 Calls Tryz.prog 198 #[.slice (some ⟨g, 0, none⟩) n cap, .int .i64 i, .slice (some ⟨vb, 0, none⟩) 1 1] w fun e w' => ∃ v', e = .returned v' ∧ w'.ownsRow b0 3 1 v' (n + 1) (xs.take (i) ++ news ++ xs.drop (i)) ∧ w.grownBy w' (some g) := by
 obtain ⟨i0, hi0, hz0, hzs, hzb⟩ := info_parts (P := Tryz.prog) (e := 3) (z := .int .i64 0) (size := 1) (bytes := 8) (by kernel_rfl)
 have hxl : xs.length = n := by rw [← htake, List.length_take, Array.length_toList, hcs]; omega
 have hsz : (Tryz.prog.info? 3).map (·.size) = some 1 := by rw [hi0]; simp [hzs]
 have hold : (Builtin.firstCells i0.size i (.slice (some ⟨g, 0, none⟩) i cap)).run Tryz.prog w.drew = .ok (xs.take (i)).toArray w.drew := by
  rw [hzs]
  exact run_firstCells_some w.drew 1 i ⟨g, 0, none⟩ i cap (xs.take (i)) (by rw [List.length_take, hxl]; omega) (fun j u hj => by
   rw [List.getElem?_take] at hj
   split at hj
   ·exact cell_own (w := w) hg htake 0 j u (by simpa using hj)
   ·simp at hj)
 have hfit : Builtin.nextslicecap (n + 1) cap * i0.bytes ≤ 281474976710656 := by rw [hzb]; exact growslice_fits hroom (by omega)
 have hrun : ∀ ty, (Builtin.append_ #[23, 3] ty #[.slice (some ⟨g, 0, none⟩) i cap, .int .i64 ((n : Int) + 1 - (i : Int))]).run Tryz.prog w = .ok (.slice (some ⟨w.heap.size, 0, none⟩) (n + 1) (grownCap w (n + 1) cap 3)) (w.drew.alloc (.cells ((xs.take (i) ++ (Builtin.zeroCells (.int .i64 0 : Value).cells (n + 1 - i)).toList).toArray ++ Builtin.zeroCells (.int .i64 0 : Value).cells (grownCap w (n + 1) cap 3 - (n + 1))) 3)) := fun ty => by
  have h := run_append_zeros (P := Tryz.prog) w 23 3 ty 3 i0 _ .i64 .i64 Tryz.underlying23 Tryz.underlying3 hi0 hz0 (some ⟨g, 0, none⟩) i cap (xs.take (i)) hold (n + 1 - i) (by omega) (by rw [hzs]; decide) (by omega) (by omega) (by rw [show i + (n + 1 - i) = n + 1 by omega]; exact hfit)
  rw [show ((n + 1 - i : Nat) : Int) = (n : Int) + 1 - (i : Int) by omega, show i + (n + 1 - i) = n + 1 by omega] at h
  exact h
 have hcap : n + 1 ≤ grownCap w (n + 1) cap 3 := grownCap_ge w (n + 1) cap 3
 have hcapm : grownCap w (n + 1) cap 3 ≤ maxLen := grownCap_le_maxLen w (n + 1) cap 3 (by simp only [maxLen]; omega)
 generalize grownCap w (n + 1) cap 3 = c2 at hrun hcap hcapm
 generalize hC : ((xs.take (i) ++ (Builtin.zeroCells (.int .i64 0 : Value).cells (n + 1 - i)).toList).toArray ++ Builtin.zeroCells (.int .i64 0 : Value).cells (c2 - (n + 1))) = C0 at hrun
 have hC0 : C0.size = c2 := by
  have hzc : (.int .i64 0 : Value).cells.size = 1 := rfl
  rw [← hC]; simp only [Array.size_append, List.size_toArray, List.length_append, Array.length_toList, size_zeroCells, hzc, List.length_take, hxl]; omega
 have hCt : C0.toList.take (i) = xs.take (i) := by
  rw [← hC]; simp only [Array.toList_append, List.append_assoc]
  rw [List.take_append_of_le_length (by rw [List.length_take, hxl]; omega), List.take_take, Nat.min_self]
 generalize hC1 : (C0.toList.take (i) ++ news ++ C0.toList.drop (i + news.length)).toArray = C1
 have hC1s : C1.size = c2 := by rw [← hC1]; simp only [List.size_toArray, List.length_append, List.length_take, List.length_drop, Array.length_toList, hC0, hnl]; omega
 have HCP1 := Aside0.mk (show ∀ (W : World) ty dc, W.heap[w.heap.size]? = some (.cells C0 3 (0, 0)) → W.heap[vb]? = some (.cells news.toArray 3 (0, 0)) → (Builtin.copy_ #[23, 23] ty #[.slice (some ⟨w.heap.size, i, none⟩) (n + 1 - i) dc, .slice (some ⟨vb, 0, none⟩) 1 1]).run Tryz.prog W = .ok (goInt 1) (W.setRow w.heap.size C1) from fun W ty dc h0 h1 => by
  rw [← hC1]
  exact run_copy_k W 23 23 ty 3 1 w.heap.size (i) (n + 1 - i) dc ⟨vb, 0, none⟩ 1 1 C0 3 news 1 Tryz.underlying23 hsz h0 (by simp only [Nat.min_def]; split <;> omega) (by rw [hnl]) (fun j u h => by rw [Addr.add_lit, blk_cell h1]; simpa using h) (by rw [hnl, hC0]; omega) h1v)
 generalize hC2 : (C1.toList.take ((i + 1)) ++ xs.drop (i) ++ C1.toList.drop ((i + 1) + (xs.drop (i)).length)).toArray = C2
 have hdl : (xs.drop (i)).length = (n - i) := by rw [List.length_drop, hxl]
 have hC2s : C2.size = c2 := by rw [← hC2]; simp only [List.size_toArray, List.length_append, List.length_take, List.length_drop, Array.length_toList, hC1s, hxl]; omega
 have HCP2 := Aside0.mk (show ∀ (W : World) ty dc sc, W.heap[w.heap.size]? = some (.cells C1 3 (0, 0)) → W.heap[g]? = some (.cells cur 3 (0, 0)) → (Builtin.copy_ #[23, 23] ty #[.slice (some ⟨w.heap.size, (i + 1), none⟩) (n - i) dc, .slice (some ⟨g, i, none⟩) (n - i) sc]).run Tryz.prog W = .ok (goInt ((n - i : Nat) : Int)) (W.setRow w.heap.size C2) from fun W ty dc sc h0 h1 => by
  rw [← hC2]
  exact run_copy_k W 23 23 ty 3 1 w.heap.size ((i + 1)) (n - i) dc ⟨g, i, none⟩ (n - i) sc C1 3 (xs.drop (i)) (n - i) Tryz.underlying23 hsz h0 (Nat.min_self _) (by rw [hdl, Nat.mul_one]) (cell_own h1 htake (i)) (by rw [hdl, hC1s]; omega) (fun u hu => h1x u (List.mem_of_mem_drop hu)))
 have HFIN := Aside0.mk (show C2.toList.take ((n + 1)) = xs.take (i) ++ news ++ xs.drop (i) by
  have e1 : C1.toList.take ((i + 1)) = xs.take (i) ++ news := by
   rw [← hC1, ← hCt]
   have : (i + 1) = (C0.toList.take (i) ++ news).length := by rw [List.length_append, List.length_take, Array.length_toList, hC0, hnl]; omega
   rw [this]
   exact List.take_left
  have : (n + 1) = (C1.toList.take ((i + 1)) ++ xs.drop (i)).length := by rw [List.length_append, List.length_take, Array.length_toList, hC1s, hdl]; omega
  rw [← hC2, this]
  show List.take _ (_ ++ _) = _
  rw [List.take_left, e1])
 have HC2 := Aside0.mk hC2s
 have HDL := Aside0.mk hdl
 have HXL := Aside0.mk hxl
 have HNL := Aside0.mk hnl
 clear hC1 hC1s hC2 hC2s hdl
 have HR := Aside0.mk hrun
 have HG0 := Aside0.mk hg
 have HX := Aside0.mk htake
 have HVB := Aside0.mk hvb
 have HC0 := Aside0.mk hC
 have HCT := Aside0.mk hCt
 have HCZ := Aside0.mk hC0
 clear hrun hg htake hvb hC hCt hC0 hold hfit h1x h1v hsz hcs hxl hnl hi0 hz0 hzs hzb
 have hb1 : ¬ c2 = i := by omega
 have hb2 : ¬ c2 = i + 1 := by omega
 have hb3 : ¬ cap = i := by omega
 have hz1 : ¬ ((i : Int) = (n : Int)) := by omega
 go_enter Tryz.func198, Tryz.ntmps198
 go_wp2_with (first | (at_builtin; refine Lib.wpList_append_run _ rfl _ _ _ _ rfl _ _ rfl rfl _ _ (HR.out _) ?_) | ((with_reducible refine gate_builtin (b := .copy) (xs := #[.tmp 43, .tmp 44]) rfl ?_); refine wpList_copy_runI _ rfl _ _ 23 23 rfl _ _ rfl rfl (HCP1.out _ _ _ (blk_drew (blk_new w _)) (blk_drew (blk_alloc HVB.out _))) ?_))
 (try simp only [Act.put, put3])
 have hlt : g < w.heap.size := blk_lt HG0.out
 obtain ⟨W1, hW1⟩ : ∃ W1, W1 = (w.alloc (Obj.cells C0 3)).drew.setRow w.heap.size C1 := ⟨_, rfl⟩
 have HA1 := Aside0.mk (show W1.heap[w.heap.size]? = some (.cells C1 3 (0, 0)) by rw [hW1]; exact setRow_heap _ _ C0 _ 3 (0, 0) (blk_drew (blk_new w _)))
 have HA2 := Aside0.mk (show W1.heap[g]? = some (.cells cur 3 (0, 0)) by rw [hW1, setRow_other _ _ _ _ (by omega)]; exact blk_drew (blk_alloc HG0.out _))
 have HA3 := Aside0.mk (show w.grownBy W1 (some g) by rw [hW1]; exact ⟨rfl, rfl, rfl, by simp only [World.setRow, World.alloc, World.drew, Array.size_modify, Array.size_push]; omega, fun k hk _ => by rw [setRow_other _ _ _ _ (by omega)]; exact Below.heap_alloc w _ k hk⟩)
 rw [← hW1]
 clear hW1
 have mixed : Tryz.prog.follows Departure.mixedOrders = true := by kernel_rfl
 have hw1 : IntKind.i64.wrap ((i : Int) + 1) = (i : Int) + 1 := by rw [IntKind.wrap_i64]; omega
 have hb4 : (0 : Int) ≤ (i : Int) + 1 := by omega
 have hb5 : (i : Int) + 1 ≤ (n : Int) + 1 := by omega
 have htn : ((i : Int) + 1).toNat = i + 1 := by omega
 have hb6 : i ≤ n := by omega
 go_region_law_o (go_loud (refine step_copy_runI rfl _ _ 23 23 rfl (.slice (some ⟨w.heap.size, (i + 1), none⟩) (n - i) (c2 - (i + 1))) (.slice (some ⟨g, i, none⟩) (n - i) (cap - i)) (by simp [Act.eval, Act.put]) (by simp [Act.eval, Act.put]) (HCP2.out _ _ _ _ (blk_drew HA1.out) (blk_drew HA2.out)) ?_))
 (try simp only [Act.put, put3])
 have HO1 := Aside0.mk (show (W1.drew.setRow w.heap.size C2).ownsRow b0 3 1 (.slice (some ⟨w.heap.size, 0, none⟩) (n + 1) c2) (n + 1) (xs.take (i) ++ news ++ xs.drop (i)) from
  ⟨by rw [List.length_append, List.length_append, List.length_take, List.length_drop, HXL.out, HNL.out]; omega, .inr ⟨w.heap.size, c2, C2, rfl, hb0, setRow_heap _ _ C1 _ 3 (0, 0) (blk_drew HA1.out), hcap, hcapm, (by rw [Nat.mul_one]; exact HC2.out), (by rw [Nat.mul_one]; exact HFIN.out)⟩⟩)
 have HG1 := Aside0.mk (show w.grownBy (W1.drew.setRow w.heap.size C2) (some g) from
  ⟨HA3.out.os, HA3.out.tape, HA3.out.output, by have := HA3.out.size; simp only [World.setRow, World.drew, Array.size_modify]; exact this, fun k hk hne => by rw [setRow_other _ _ _ _ (by omega)]; exact HA3.out.block k hk hne⟩)
 go_wp2
 go_ret
 exact ⟨_, rfl, HO1.out, HG1.out⟩
set_option maxHeartbeats 4000000 in
set_option maxRecDepth 100000 in
theorem insertIntShift (g n cap i : Nat) (cur : Array Value) (xs news : List Value) (w : World) (b0 vb : Nat) (hbg : b0 ≤ g) (hg : w.heap[g]? = some (.cells cur 3 (0, 0))) (hnc : n ≤ cap) (hcm : cap ≤ maxLen) (hcs : cur.size = cap) (htake : cur.toList.take (n) = xs) (h1x : ∀ u ∈ xs, u.oneCell' = true)
 (hvb : w.heap[vb]? = some (.cells news.toArray 3 (0, 0))) (hnl : news.length = 1) (h1v : ∀ u ∈ news, u.oneCell' = true) (hne : vb ≠ g) (hi : i < n) (hn : n ≤ 1000000) (hb0 : b0 ≤ w.heap.size) (hroom : n + 1 ≤ cap) :
 Calls Tryz.prog 198 #[.slice (some ⟨g, 0, none⟩) n cap, .int .i64 i, .slice (some ⟨vb, 0, none⟩) 1 1] w fun e w' => ∃ v', e = .returned v' ∧ w'.ownsRow b0 3 1 v' (n + 1) (xs.take (i) ++ news ++ xs.drop (i)) ∧ w.grownBy w' (some g) := by
 have hxl : xs.length = n := by rw [← htake, List.length_take, Array.length_toList, hcs]; omega
 obtain ⟨i0, hi0, hz0, hzs, hzb⟩ := info_parts (P := Tryz.prog) (e := 3) (z := .int .i64 0) (size := 1) (bytes := 8) (by kernel_rfl)
 have hsz : (Tryz.prog.info? 3).map (·.size) = some 1 := by rw [hi0]; simp [hzs]
 have hdl : (xs.drop (i)).length = (n - i) := by rw [List.length_drop, hxl]
 generalize hC1 : (cur.toList.take ((i + 1)) ++ xs.drop (i) ++ cur.toList.drop ((i + 1) + (xs.drop (i)).length)).toArray = C1
 have hC1s : C1.size = cap := by rw [← hC1]; simp only [List.size_toArray, List.length_append, List.length_take, List.length_drop, Array.length_toList, hcs, hxl]; omega
 have HCP1 := Aside0.mk (show ∀ (W : World) ty dc sc, W.heap[g]? = some (.cells cur 3 (0, 0)) → (Builtin.copy_ #[23, 23] ty #[.slice (some ⟨g, (i + 1), none⟩) (n - i) dc, .slice (some ⟨g, i, none⟩) (n + 1 - i) sc]).run Tryz.prog W = .ok (goInt ((n - i : Nat) : Int)) (W.setRow g C1) from fun W ty dc sc h1 => by
  rw [← hC1]
  exact run_copy_k W 23 23 ty 3 1 g ((i + 1)) (n - i) dc ⟨g, i, none⟩ (n + 1 - i) sc cur 3 (xs.drop (i)) (n - i) Tryz.underlying23 hsz h1 (by simp only [Nat.min_def]; split <;> omega) (by rw [hdl, Nat.mul_one]) (cell_own h1 htake (i)) (by rw [hdl, hcs]; omega) (fun u hu => h1x u (List.mem_of_mem_drop hu)))
 generalize hC2 : (C1.toList.take (i) ++ news ++ C1.toList.drop (i + news.length)).toArray = C2
 have hC2s : C2.size = cap := by rw [← hC2]; simp only [List.size_toArray, List.length_append, List.length_take, List.length_drop, Array.length_toList, hC1s, hnl]; omega
 have HCP2 := Aside0.mk (show ∀ (W : World) ty dc, W.heap[g]? = some (.cells C1 3 (0, 0)) → W.heap[vb]? = some (.cells news.toArray 3 (0, 0)) → (Builtin.copy_ #[23, 23] ty #[.slice (some ⟨g, i, none⟩) (n + 1 - i) dc, .slice (some ⟨vb, 0, none⟩) 1 1]).run Tryz.prog W = .ok (goInt 1) (W.setRow g C2) from fun W ty dc h0 h1 => by
  rw [← hC2]
  exact run_copy_k W 23 23 ty 3 1 g (i) (n + 1 - i) dc ⟨vb, 0, none⟩ 1 1 C1 3 news 1 Tryz.underlying23 hsz h0 (by simp only [Nat.min_def]; split <;> omega) (by rw [hnl]) (fun j u h => by rw [Addr.add_lit, blk_cell h1]; simpa using h) (by rw [hnl, hC1s]; omega) h1v)
 have HFIN := Aside0.mk (show C2.toList.take ((n + 1)) = xs.take (i) ++ news ++ xs.drop (i) by
  have e0 : cur.toList.take (i) = xs.take (i) := by rw [← htake, List.take_take, Nat.min_eq_left (by omega)]
  have e1 : C1.toList.take (i) = xs.take (i) := by
   rw [← hC1]
   show List.take _ (_ ++ _ ++ _) = _
   rw [List.append_assoc, List.take_append_of_le_length (by rw [List.length_take, Array.length_toList, hcs]; omega), List.take_take, Nat.min_eq_left (by omega), e0]
  have e2 : (C1.toList.drop (i + news.length)).take ((n - i)) = xs.drop (i) := by
   rw [← hC1]
   show (List.drop _ (_ ++ _ ++ _)).take _ = _
   have h9 : cur.toList.length = cap := Array.length_toList.trans hcs
   have e3 : i + news.length = (cur.toList.take ((i + 1))).length := by rw [List.length_take, h9, hnl]; omega
   rw [e3, List.append_assoc, List.drop_left, ← hdl, List.take_left]
  rw [← hC2]
  show List.take _ (_ ++ _ ++ _) = _
  have e4 : (n + 1) = (C1.toList.take (i) ++ news).length + (n - i) := by rw [List.length_append, List.length_take, Array.length_toList, hC1s, hnl]; omega
  rw [e4, List.take_length_add_append, e2, e1])
 have HC2 := Aside0.mk hC2s
 have HXL := Aside0.mk hxl
 have HNL := Aside0.mk hnl
 have HVB := Aside0.mk hvb
 have HG0 := Aside0.mk hg
 have hov : ∀ lb cb, (callFunc 211 #[.slice (some ⟨vb, 0, none⟩) 1 1, .slice (some ⟨g, (i + 1), none⟩) lb cb]).run Tryz.prog w = .ok (.value (.bool false)) w := fun lb cb => by
  rw [run_callFunc_extern Tryz.func211 (by kernel_rfl) (by kernel_rfl) (by kernel_rfl) (e := Extern.SlicesOverlaps.overlaps #[23, 23] #[4]) (by kernel_rfl),
   Lib.run_overlaps_apart w 23 4 3 Tryz.underlying23 1 Tryz.sizeOf3 ⟨vb, 0, none⟩ ⟨g, (i + 1), none⟩ 1 1 lb cb hne 3 3 news.length cur.size (by simp [World.shape?, hvb]) (by simp [World.shape?, hg]) (by omega) (blk_frozen hvb 0) (blk_frozen hvb _)]
  rfl
 clear hC1 hC1s hC2 hC2s hdl hg htake hvb h1x h1v hsz hcs hxl hnl hi0 hz0 hzs hzb
 have hb1 : ¬ cap = i := by omega
 have hb2 : ¬ cap = i + 1 := by omega
 have hz1 : ¬ ((i : Int) = (n : Int)) := by omega
 have mixed : Tryz.prog.follows Departure.mixedOrders = true := by kernel_rfl
 have hw1 : IntKind.i64.wrap ((i : Int) + 1) = (i : Int) + 1 := by rw [IntKind.wrap_i64]; omega
 have hb4 : (0 : Int) ≤ (i : Int) + 1 := by omega
 have hb5 : (i : Int) + 1 ≤ (n : Int) + 1 := by omega
 have htn : ((i : Int) + 1).toNat = i + 1 := by omega
 have hb6 : i ≤ n := by omega
 have hb7 : (i : Int) ≤ (n : Int) + 1 := by omega
 go_enter Tryz.func198, Tryz.ntmps198
 go_wp2_with (simp only [hov])
 go_region_law_o (refine step_copy_runI rfl _ _ 23 23 rfl (.slice (some ⟨g, (i + 1), none⟩) (n - i) (cap - (i + 1))) (.slice (some ⟨g, i, none⟩) (n + 1 - i) (cap - i)) (by simp [Act.eval, Act.put]) (by simp [Act.eval, Act.put]) (HCP1.out _ _ _ _ (blk_drew HG0.out)) ?_)
 (try simp only [Act.put, put3])
 obtain ⟨W1, hW1⟩ : ∃ W1, W1 = w.drew.setRow g C1 := ⟨_, rfl⟩
 have HA1 := Aside0.mk (show W1.heap[g]? = some (.cells C1 3 (0, 0)) by rw [hW1]; exact setRow_heap _ _ cur _ 3 (0, 0) (blk_drew HG0.out))
 have HA2 := Aside0.mk (show W1.heap[vb]? = some (.cells news.toArray 3 (0, 0)) by rw [hW1, setRow_other _ _ _ _ hne]; exact blk_drew HVB.out)
 have HA3 := Aside0.mk (show w.grownBy W1 (some g) by rw [hW1]; exact ⟨rfl, rfl, rfl, by simp only [World.setRow, World.drew, Array.size_modify]; omega, fun k hk hne => setRow_other _ _ _ _ (fun e => hne (by rw [e]))⟩)
 rw [← hW1]
 clear hW1
 go_wp2_with (first | ((with_reducible refine gate_builtin (b := .copy) (xs := #[.tmp 80, .tmp 81]) rfl ?_); refine wpList_copy_runI _ rfl _ _ 23 23 rfl _ _ rfl rfl (HCP2.out _ _ _ HA1.out HA2.out) ?_))
 have HO1 := Aside0.mk (show (W1.setRow g C2).ownsRow b0 3 1 (.slice (some ⟨g, 0, none⟩) (n + 1) cap) (n + 1) (xs.take (i) ++ news ++ xs.drop (i)) from
  ⟨by rw [List.length_append, List.length_append, List.length_take, List.length_drop, HXL.out, HNL.out]; omega, .inr ⟨g, cap, C2, rfl, hbg, setRow_heap _ _ C1 _ 3 (0, 0) HA1.out, hroom, hcm, (by rw [Nat.mul_one]; exact HC2.out), (by rw [Nat.mul_one]; exact HFIN.out)⟩⟩)
 have HG1 := Aside0.mk (show w.grownBy (W1.setRow g C2) (some g) from
  ⟨HA3.out.os, HA3.out.tape, HA3.out.output, by have := HA3.out.size; simp only [World.setRow, Array.size_modify]; exact this, fun k hk hne => by rw [setRow_other _ _ _ _ (fun e => hne (by rw [e]))]; exact HA3.out.block k hk hne⟩)
 (try simp only [Act.put, put3])
 go_wp2
 go_ret
 exact ⟨_, rfl, HO1.out, HG1.out⟩
theorem insertInt (v : Value) (n i : Nat) (xs news : List Value) (w : World) (b0 vb : Nat) (hown : w.ownsRow b0 3 1 v n xs) (h1x : ∀ u ∈ xs, u.oneCell' = true) (hvb : w.heap[vb]? = some (.cells news.toArray 3 (0, 0))) (hnl : news.length = 1)
 (h1v : ∀ u ∈ news, u.oneCell' = true) (hne : v.ownBlock ≠ some vb) (hi : i ≤ n) (hn : n ≤ 1000000) (hb0 : b0 ≤ w.heap.size) :
 Calls Tryz.prog 198 #[v, .int .i64 i, .slice (some ⟨vb, 0, none⟩) 1 1] w fun e w' => ∃ v', e = .returned v' ∧ w'.ownsRow b0 3 1 v' (n + 1) (xs.take (i) ++ news ++ xs.drop (i)) ∧ w.grownBy w' v.ownBlock := by
 by_cases h : i = n
 ·subst h
  rw [List.take_of_length_le (by rw [hown.1, Nat.mul_one]; exact Nat.le_refl _), List.drop_of_length_le (by rw [hown.1, Nat.mul_one]; exact Nat.le_refl _), List.append_nil]
  exact insertIntEnd v i xs news w b0 vb hown hvb hnl h1v hn hb0
 ·rcases hown.2 with ⟨hv, h0⟩ | ⟨g, cap, cur, hv, hbg, hg, hnc, hcm, hcs, htake⟩
  ·omega
  ·subst hv
   rw [Nat.mul_one] at hcs htake
   have hne' : vb ≠ g := fun h => hne (by rw [h]; rfl)
   by_cases hr : n + 1 ≤ cap
   ·exact insertIntShift g n cap i cur xs news w b0 vb hbg hg hnc hcm hcs htake h1x hvb hnl h1v hne' (by omega) hn hb0 hr
   ·exact insertIntGrow g n cap i cur xs news w b0 vb hbg hg hnc hcm hcs htake h1x hvb hnl h1v hne' (by omega) hn hb0 (by omega)
end Go.Proofs.YtljipbmmgcccnaaGreat.T
end
section
namespace Go.Proofs.YtljipbmmgcccnaaGreat.T
open Go.RowKit Go.Proofs.YtljipbmmgcccnaaGreatW.PrintWords Go.Proofs.YtljipbmmgcccnaaGreatW.PrintLast Go.Proofs.YtljipbmmgcccnaaGreatW.PrintMore
attribute [local go_sem] cell_tc frozen_tc max2_int min2_int
attribute [local go_sem ↓] Go.wp_at_zero Go.wp_at_succ
set_option linter.unusedVariables false
set_option linter.unusedSimpArgs false
attribute [local go_sem] cell_tc2
theorem isNaN2_ {a : Int} {w : World} : Calls Tryz.prog 210 #[.int .i64 a] w fun e w' => e = .returned (.bool false) ∧ Drawn0 w w' := by
 have h : (a != a) = false := by simp
 go_enter Tryz.func210, Tryz.ntmps210
 go_wp2
 go_ret
 exact ⟨by first | rfl | (simp; done), by repeat (first | exact Drawn0.refl _ | apply Drawn0.step)⟩
theorem less_ {a b : Int} {w : World} : Calls Tryz.prog 209 #[.int .i64 a, .int .i64 b] w fun e w' => e = .returned (.bool (decide (a < b))) ∧ Drawn0 w w' := by
 go_enter Tryz.func209, Tryz.ntmps209
 go_wp2_with (first | (go_at_call 150; (with_reducible refine cM (isNaN _ _) ?_); rintro e w' ⟨rfl, ⟨nd, rfl⟩⟩))
 go_ret
 exact ⟨rfl, by repeat (first | exact Drawn0.refl _ | apply Drawn0.step)⟩
def intC (l : List Int) (x : Int) : Nat → Int := fun i => cmpI (l.getD i 0) x
theorem intC_at {l : List Int} {x : Int} {i : Nat} (hi : i < l.length) : intC l x i = cmpI l[i] x := by unfold intC; rw [getD_at hi]
theorem passB_lt {l : List Int} (h : passB l = true) : ∀ (d a : Nat) (hb : a + d + 1 < l.length), (l[a]'(by omega)) < l[a + d + 1]
 | 0, a, hb => by
   have := (passB_at h (i := a + 1) hb).2
   rcases this with h0 | h1
   ·omega
   ·rwa [Nat.add_sub_cancel, getD_at (by omega)] at h1
 | d + 1, a, hb => by
   have h1 := passB_lt h d a (by omega)
   have h2 := (passB_at h (i := a + (d + 1) + 1) hb).2
   rcases h2 with h0 | h2
   ·omega
   ·rw [show a + (d + 1) + 1 - 1 = a + d + 1 by omega, getD_at (by omega)] at h2
    exact Int.lt_trans h1 h2
theorem passB_lt' {l : List Int} (h : passB l = true) {a b : Nat} (hab : a < b) (hb : b < l.length) : (l[a]'(by omega)) < l[b] := by
 have := passB_lt h (b - a - 1) a (by omega)
 have e : a + (b - a - 1) + 1 = b := by omega
 simp only [e] at this
 exact this
theorem intC_mono {l : List Int} (h : passB l = true) (x : Int) (a b : Nat) (hab : a ≤ b) (hb : b < l.length) (hc : intC l x b < 0) : intC l x a < 0 := by
 rw [intC_at hb, cmpI_neg] at hc
 rw [intC_at (by omega), cmpI_neg]
 rcases Nat.lt_or_eq_of_le hab with h1 | h1
 ·exact Int.lt_trans (passB_lt' h h1 hb) hc
 ·subst h1; exact hc
def posN (l : List Int) (x : Int) : Nat := cnt (intC l x) l.length
def posH (l : List Int) (x : Int) : Bool := hit (intC l x) l.length
set_option maxHeartbeats 4000000 in
theorem bsInt_ {x : Int} {A : Option Addr} {n c : Nat} {l : List Int} {w : World} [h : Sr kI w A n c l] (hl : n ≤ 1000000) (hp : passB l = true) :
 Calls Tryz.prog 197 #[.slice A n c, .int .i64 x] w fun e w' => e = .returned (.tuple #[.int .i64 (posN l x : Nat), .bool (posH l x)]) ∧ BelL w w' := by
 obtain rfl := h.len
 have HS := sr_l h
 clear h
 have M := Aside0.mk (intC_mono hp x)
 have CN := Aside0.mk (show posN l x = cnt (intC l x) l.length from rfl)
 have CH := Aside0.mk (show posH l x = hit (intC l x) l.length from rfl)
 clear hp
 go_enter Tryz.func197, Tryz.ntmps197
 go_wp2
 go_loopg [7, 8] l.length (fun kx s9 s10 w' => ∃ lo hi : Nat, s9 = .int .i64 lo ∧ s10 = .int .i64 hi ∧ lo ≤ hi ∧ hi ≤ l.length ∧ hi - lo ≤ kx ∧ BelL w w' ∧ Aside0 ((∀ t, t < lo → intC l x t < 0) ∧ (∀ t, hi ≤ t → t < l.length → 0 ≤ intC l x t)))
 case atStart => exact ⟨0, l.length, rfl, rfl, Nat.zero_le _, Nat.le_refl _, by omega, belL, ⟨fun t ht => absurd ht (Nat.not_lt_zero _), fun t h1 h2 => by omega⟩⟩
 case round =>
  obtain ⟨lo, hi, rfl, rfl, hlh, hin, hg, hbr, II⟩ := hrel
  by_cases hlt : lo < hi
  ·have hmid : (lo + hi) / 2 < l.length := by omega
   obtain ⟨ad, rfl, hx⟩ := el_I (W := wr) (A := A) (n := l.length) (c := c) (l := l) ((lo + hi) / 2) hmid
   by_cases hyx : l[(lo + hi) / 2] < x
   ·have HY := Aside0.mk (show intC l x ((lo + hi) / 2) < 0 by rw [intC_at hmid, cmpI_neg]; exact hyx)
    go_wp2_with (first | (go_at_call 209; (with_reducible refine cM (less_) ?_); rintro e w' ⟨rfl, ⟨nd, rfl⟩⟩))
    go_roundg (hi - ((lo + hi) / 2 + 1))
    case measure => omega
    case rel =>
     exact ⟨(lo + hi) / 2 + 1, hi, by rw [show ((lo : Int) + (hi : Int)) / 2 + 1 = (((lo + hi) / 2 + 1 : Nat) : Int) by omega], rfl, by omega, hin, Nat.le_refl _, belL, ⟨fun t ht => M.out t ((lo + hi) / 2) (by omega) (by omega) HY.out, II.out.2⟩⟩
   ·have HY := Aside0.mk (show ¬ intC l x ((lo + hi) / 2) < 0 by rw [intC_at hmid, cmpI_neg]; exact hyx)
    go_wp2_with (first | (go_at_call 209; (with_reducible refine cM (less_) ?_); rintro e w' ⟨rfl, ⟨nd, rfl⟩⟩))
    go_roundg ((lo + hi) / 2 - lo)
    case measure => omega
    case rel =>
     exact ⟨lo, (lo + hi) / 2, rfl, by rw [show ((lo : Int) + (hi : Int)) / 2 = (((lo + hi) / 2 : Nat) : Int) by omega], by omega, by omega, Nat.le_refl _, belL, ⟨II.out.1, fun t ht htn => Int.not_lt.1 fun h => by have := M.out ((lo + hi) / 2) t ht htn h; have := HY.out; omega⟩⟩
  ·obtain rfl : hi = lo := by omega
   have EN := Aside0.mk (show posN l x = hi by rw [CN.out]; exact cnt_eq hin II.out.1 II.out.2)
   have EH := Aside0.mk (show posH l x = (decide (hi < l.length) && (intC l x hi == 0)) by rw [CH.out]; exact hit_of (cnt_eq hin II.out.1 II.out.2))
   by_cases hn : hi < l.length
   ·obtain ⟨ad, rfl, hx⟩ := el_I (W := wr) (A := A) (n := l.length) (c := c) (l := l) hi hn
    cases hq : (l[hi] == x)
    ·have EH2 := Aside0.mk (show posH l x = false by
      have h1 : ¬ l[hi] = x := by simpa using hq
      have h2 : ¬ intC l x hi = 0 := by rw [intC_at hn, cmpI_zero]; exact h1
      rw [EH.out, decide_eq_true hn, Bool.true_and]; simpa using h2)
     go_wp2_with (first | (go_at_call 210; (with_reducible refine cM (isNaN2_) ?_); rintro e w' ⟨rfl, ⟨nd, rfl⟩⟩))
     go_ret2
     exact ⟨by rw [EN.out, EH2.out]; rfl, belL⟩
    ·have EH2 := Aside0.mk (show posH l x = true by
      have h1 : l[hi] = x := by simpa using hq
      have h2 : intC l x hi = 0 := by rw [intC_at hn, cmpI_zero]; exact h1
      rw [EH.out, decide_eq_true hn, h2]; rfl)
     go_wp2_with (first | (go_at_call 210; (with_reducible refine cM (isNaN2_) ?_); rintro e w' ⟨rfl, ⟨nd, rfl⟩⟩))
     go_ret2
     exact ⟨by rw [EN.out, EH2.out]; rfl, belL⟩
   ·go_wp2
    go_ret2
    exact ⟨by rw [EN.out, EH.out, decide_eq_false hn]; rfl, belL⟩
theorem insertInt_ {i vb b : Nat} {S : Nat → Prop} {A : Option Addr} {n c : Nat} {l : List Int} {x : Int} {w : World} [h : Fr kI 3 w b S A n c l] [hv : Blk w vb #[.int .i64 x] 3] [av : Avoid vb b S] [lb : LeB b w.heap.size] (hi : i ≤ n) (hn : n ≤ 1000000) :
 Calls Tryz.prog 198 #[.slice A n c, .int .i64 i, .slice (some ⟨vb, 0, none⟩) 1 1] w fun e w' => ∃ A' c', e = .returned (.slice A' (n + 1) c') ∧ FrL kI 3 w' b Any A' (n + 1) c' (l.take i ++ x :: l.drop i) ∧ BbL b w w' := by
 have hb := lb.out
 have hl := h.len
 have hR := h.R
 obtain ⟨h0, inner, ho, hr⟩ := hR
 have h1x : ∀ u ∈ inner, u.oneCell' = true := by
  intro u hu
  obtain ⟨j, hj, rfl⟩ := List.getElem_of_mem hu
  have h1 : inner.length = l.length * 1 := hr.1
  have h2 : (inner.drop (j * 1)).take 1 = [.int .i64 (l[j]'(by omega))] := hr.2 j (l[j]'(by omega)) (List.getElem?_eq_getElem (by omega))
  have h3 := congrArg (fun z => z[0]?) h2
  simp only [Nat.mul_one, List.getElem?_take, List.getElem?_drop, Nat.add_zero, Nat.zero_lt_one, if_true, List.getElem?_cons_zero, List.getElem?_eq_getElem hj] at h3
  rw [Option.some.inj h3]; rfl
 have ho' : w.ownsRow b 3 1 (.slice A n c) n inner := by rw [hl] at ho; exact ho
 refine (insertInt (.slice A n c) n i inner [.int .i64 x] w b vb ho' h1x hv.out rfl (by intro u hu; simp at hu; subst hu; rfl) (fun e => av.out vb (by have := Kd.R_base h.R vb e; exact this) (h0 vb e) rfl) hi hn hb).mono ?_
 rintro e w' ⟨v', rfl, ho2, hg⟩
 have e1 : (l.take i ++ x :: l.drop i).length = n + 1 := by rw [List.length_append, List.length_cons, List.length_take, List.length_drop]; omega
 have hR2 : kI.R 3 w' b Any v' (l.take i ++ x :: l.drop i) := by
  refine ⟨fun _ _ => trivial, _, ?_, Reps.ins_ (hr.imp_ (fun q c hq => hq)) i (by omega) (show [Value.int .i64 x] = [Value.int .i64 x] from rfl) rfl⟩
  rw [e1, show kI.sz = 1 from rfl, Nat.mul_one]
  exact ho2
 obtain ⟨A', c', rfl, hc', _⟩ := Kd.R_reads hR2
 rw [e1] at hR2 hc'
 exact ⟨A', c', by rw [e1], ⟨e1, hc', hR2⟩, bb_of_grown h.any hb hg⟩
def withOk (l : List Int) (x : Int) : Bool := passB l && placeB x
def withL (l : List Int) (x : Int) : List Int := if withOk l x then (if posH l x then l else if l.length = 16 then [] else l.take (posN l x) ++ x :: l.drop (posN l x)) else []
def withE (l : List Int) (x : Int) : Int := if withOk l x then (if posH l x then 0 else if l.length = 16 then 801 else 0) else 800
set_option maxHeartbeats 2000000 in
theorem with_ {x : Int} {A : Option Addr} {n c : Nat} {l : List Int} {w : World} [h : Sr kI w A n c l] :
 Calls Tryz.prog 171 #[.slice A n c, .int .i64 x] w fun e w' => ∃ A' c', e = .returned (.tuple #[.slice A' (withL l x).length c', .int .i64 (withE l x)]) ∧ FrL kI 3 w' w.heap.size (Under w'.heap.size) A' (withL l x).length c' (withL l x) ∧ BelL w w' := by
 obtain rfl := h.len
 have HS := sr_l h
 clear h
 cases h1 : passB l
 ·rw [show withL l x = [] by simp [withL, withOk, h1], show withE l x = 800 by simp [withE, withOk, h1]]
  go_enter Tryz.func171, Tryz.ntmps171
  go_wp2_with (first | (go_at_call 47; (with_reducible refine cM (passMay_) ?_); rintro e w' ⟨rfl, ⟨nd, rfl⟩⟩) | (go_at_call 35; (with_reducible refine cM (place _ _) ?_); rintro e w' ⟨rfl, ⟨nd, rfl⟩⟩) | (go_at_call 197; (with_reducible refine cM (bsInt_ (by omega) h1) ?_); rintro e wb ⟨rfl, hb⟩) | (go_at_call 50; (with_reducible refine cM (cloneInt_ (by omega)) ?_); rintro e w1 ⟨A1, c1, rfl, hF, hb⟩) | (with_reducible refine lit_tc rfl (N := 34) rfl (cs := #[.int .i64 x]) (t := 3) (m := 1) ?hr ?_; (case hr => go_simp <;> rfl); intro g2 wg2 _ _ _) | (go_at_call 198; (with_reducible refine cM (insertInt_ hN (by omega)) ?_); rintro e w2 ⟨A2, c2, rfl, hF2, hb2⟩))
  go_ret2
  exact ⟨_, _, rfl, frl_nil, belL⟩
 ·have h16 := passB_len h1
  have hN : posN l x ≤ l.length := (cnt_spec (intC l x) l.length (intC_mono h1 x)).1
  cases h2 : placeB x
  ·rw [show withL l x = [] by simp [withL, withOk, h2], show withE l x = 800 by simp [withE, withOk, h2]]
   go_enter Tryz.func171, Tryz.ntmps171
   go_wp2_with (first | (go_at_call 47; (with_reducible refine cM (passMay_) ?_); rintro e w' ⟨rfl, ⟨nd, rfl⟩⟩) | (go_at_call 35; (with_reducible refine cM (place _ _) ?_); rintro e w' ⟨rfl, ⟨nd, rfl⟩⟩) | (go_at_call 197; (with_reducible refine cM (bsInt_ (by omega) h1) ?_); rintro e wb ⟨rfl, hb⟩) | (go_at_call 50; (with_reducible refine cM (cloneInt_ (by omega)) ?_); rintro e w1 ⟨A1, c1, rfl, hF, hb⟩) | (with_reducible refine lit_tc rfl (N := 34) rfl (cs := #[.int .i64 x]) (t := 3) (m := 1) ?hr ?_; (case hr => go_simp <;> rfl); intro g2 wg2 _ _ _) | (go_at_call 198; (with_reducible refine cM (insertInt_ hN (by omega)) ?_); rintro e w2 ⟨A2, c2, rfl, hF2, hb2⟩))
   go_ret2
   exact ⟨_, _, rfl, frl_nil, belL⟩
  ·have hok : withOk l x = true := by simp [withOk, h1, h2]
   cases h3 : posH l x
   ·by_cases h4 : l.length = 16
    ·rw [show withL l x = [] by simp [withL, hok, h3, h4], show withE l x = 801 by simp [withE, hok, h3, h4]]
     have h4a : ((l.length : Int) == 16) = true := by rw [h4]; rfl
     clear h4
     go_enter Tryz.func171, Tryz.ntmps171
     go_wp2_with (first | (go_at_call 47; (with_reducible refine cM (passMay_) ?_); rintro e w' ⟨rfl, ⟨nd, rfl⟩⟩) | (go_at_call 35; (with_reducible refine cM (place _ _) ?_); rintro e w' ⟨rfl, ⟨nd, rfl⟩⟩) | (go_at_call 197; (with_reducible refine cM (bsInt_ (by omega) h1) ?_); rintro e wb ⟨rfl, hb⟩) | (go_at_call 50; (with_reducible refine cM (cloneInt_ (by omega)) ?_); rintro e w1 ⟨A1, c1, rfl, hF, hb⟩) | (with_reducible refine lit_tc rfl (N := 34) rfl (cs := #[.int .i64 x]) (t := 3) (m := 1) ?hr ?_; (case hr => go_simp <;> rfl); intro g2 wg2 _ _ _) | (go_at_call 198; (with_reducible refine cM (insertInt_ hN (by omega)) ?_); rintro e w2 ⟨A2, c2, rfl, hF2, hb2⟩))
     go_ret2
     exact ⟨_, _, rfl, frl_nil, belL⟩
    ·have HE : Aside0 ((l.take (posN l x) ++ x :: l.drop (posN l x)).length = l.length + 1) := ⟨by rw [List.length_append, List.length_cons, List.length_take, List.length_drop]; omega⟩
     rw [show withL l x = l.take (posN l x) ++ x :: l.drop (posN l x) by simp [withL, hok, h3, h4], show withE l x = 0 by simp [withE, hok, h3, h4]]
     have h4a : ((l.length : Int) == 16) = false := by simpa using (by omega : (l.length : Int) ≠ 16)
     clear h4
     rw [HE.out]
     go_enter Tryz.func171, Tryz.ntmps171
     go_wp2_with (first | (go_at_call 47; (with_reducible refine cM (passMay_) ?_); rintro e w' ⟨rfl, ⟨nd, rfl⟩⟩) | (go_at_call 35; (with_reducible refine cM (place _ _) ?_); rintro e w' ⟨rfl, ⟨nd, rfl⟩⟩) | (go_at_call 197; (with_reducible refine cM (bsInt_ (by omega) h1) ?_); rintro e wb ⟨rfl, hb⟩) | (go_at_call 50; (with_reducible refine cM (cloneInt_ (by omega)) ?_); rintro e w1 ⟨A1, c1, rfl, hF, hb⟩) | (with_reducible refine lit_tc rfl (N := 34) rfl (cs := #[.int .i64 x]) (t := 3) (m := 1) ?hr ?_; (case hr => go_simp <;> rfl); intro g2 wg2 _ _ _) | (go_at_call 198; (with_reducible refine cM (insertInt_ hN (by omega)) ?_); rintro e w2 ⟨A2, c2, rfl, hF2, hb2⟩))
     go_ret2
     exact ⟨_, _, rfl, frl, belL⟩
   ·rw [show withL l x = l by simp [withL, hok, h3], show withE l x = 0 by simp [withE, hok, h3]]
    go_enter Tryz.func171, Tryz.ntmps171
    go_wp2_with (first | (go_at_call 47; (with_reducible refine cM (passMay_) ?_); rintro e w' ⟨rfl, ⟨nd, rfl⟩⟩) | (go_at_call 35; (with_reducible refine cM (place _ _) ?_); rintro e w' ⟨rfl, ⟨nd, rfl⟩⟩) | (go_at_call 197; (with_reducible refine cM (bsInt_ (by omega) h1) ?_); rintro e wb ⟨rfl, hb⟩) | (go_at_call 50; (with_reducible refine cM (cloneInt_ (by omega)) ?_); rintro e w1 ⟨A1, c1, rfl, hF, hb⟩) | (with_reducible refine lit_tc rfl (N := 34) rfl (cs := #[.int .i64 x]) (t := 3) (m := 1) ?hr ?_; (case hr => go_simp <;> rfl); intro g2 wg2 _ _ _) | (go_at_call 198; (with_reducible refine cM (insertInt_ hN (by omega)) ?_); rintro e w2 ⟨A2, c2, rfl, hF2, hb2⟩))
    go_ret2
    exact ⟨_, _, rfl, frl, belL⟩
end Go.Proofs.YtljipbmmgcccnaaGreat.T
end
section
namespace Go.Proofs.YtljipbmmgcccnaaGreat.T
open Go.RowKit Go.Proofs.YtljipbmmgcccnaaGreatW.PrintWords Go.Proofs.YtljipbmmgcccnaaGreatW.PrintLast Go.Proofs.YtljipbmmgcccnaaGreatW.PrintMore
attribute [local go_sem] cell_tc frozen_tc max2_int min2_int
attribute [local go_sem ↓] Go.wp_at_zero Go.wp_at_succ
set_option linter.unusedVariables false
set_option linter.unusedSimpArgs false
attribute [local go_sem] cell_tc2
section
variable {ops : Array Oper} {rest : List Oper} {o : Oper} {a : Act} {Q : Exit → Act → World → Prop}
theorem zeros_tc {W : World} {m : Nat} {s x : Operand}
 (hgd : o.guard = none) (ho : o.op = .call { callee := .builtin .append, args := #[s, x], argTypes := #[23, 3] }) (hs : a.eval s = .slice none 0 0) (hx : a.eval x = .int .i64 (m : Int)) (hl : m ≤ 1000000)
 (hk : ∀ A' c' w1, FrL kI 3 w1 W.heap.size Any A' m c' (List.replicate m 0) → BelL W w1 → wpList Tryz.prog ops Q rest (a.put o.dst (.slice A' m c')) w1) : wpList Tryz.prog ops Q (o :: rest) a W := by
 refine Kd.R_append_zeros kI (w0 := W) W.heap.size hgd s x 23 3 3 (.int .i64 0) 8 ho Tryz.underlying23 (k := .i64) Tryz.underlying3 (by kernel_rfl) rfl (by decide) (by decide) (.slice none 0 0) ([] : List Int) (0 : Int) (m : Int) (fun _ => True) hs hx (show [Value.int .i64 0] = [Value.int .i64 0] from rfl) (fun _ _ => trivial) (Kd.R_nil _ _ _ _ _) (by omega) (Below.refl _ _) (Nat.le_refl _) (by simp; omega) ?_
 intro v1 w1 hR hB hg _
 obtain ⟨A', c', rfl, hc', _⟩ := Kd.R_reads hR
 have e1 : ([] ++ List.replicate (m : Int).toNat (0 : Int)) = List.replicate m 0 := by simp
 rw [e1] at hR hc' ⊢
 rw [List.length_replicate] at hR hc' ⊢
 exact hk A' c' w1 ⟨List.length_replicate .., hc', hR⟩ ⟨hB⟩
end
theorem frl_eq {α : Type} {k : Kd α} {W : World} {A : Option Addr} {n n' c e b : Nat} {S : Nat → Prop} {xs ys : List α} [h : Fr k e W b S A n' c ys] {b' : Nat} [l : LeB b' b] (hn : n' = n) (hx : ys = xs) : FrL k e W b' (Under W.heap.size) A n c xs := by
 subst hn; subst hx; exact frl
theorem fr_zero {α : Type} {k : Kd α} {W : World} {A : Option Addr} {n c e b : Nat} {S : Nat → Prop} {xs : List α} (h : Fr k e W b S A n c xs) : FrL k e W b S A 0 c [] := ⟨rfl, Nat.zero_le _, by
 obtain ⟨h0, inner, ho, hr⟩ := h.R
 have hlen := h.len
 refine ⟨fun k hk => h0 k (by cases A <;> exact hk), [], ⟨by simp, ?_⟩, Reps.none _ _⟩
 rcases ho.2 with ⟨hv, hz⟩ | ⟨g, cap, cur, hv, hb, hg, hnc, hcm, hcs, ht⟩
 ·injection hv with h1 h2 h3
  subst h1; subst h3
  exact .inl ⟨rfl, rfl⟩
 ·injection hv with h1 h2 h3
  subst h1; subst h3
  exact .inr ⟨g, c, cur, rfl, hb, hg, Nat.zero_le _, hcm, hcs, by simp⟩⟩
theorem fr_nonzero {α : Type} {k : Kd α} {W : World} {A : Option Addr} {n c e b : Nat} {S : Nat → Prop} {xs : List α} (h : Fr k e W b S A n c xs) : (A = none ∧ n = 0 ∧ c = 0) ∨ ∃ g, A = some ⟨g, 0, none⟩ := by
 obtain ⟨h0, inner, ho, hr⟩ := h.R
 rcases ho.2 with ⟨hv, hz⟩ | ⟨g, cap, cur, hv, hb, hg, hnc, hcm, hcs, ht⟩
 ·injection hv with h1 h2 h3; exact .inl ⟨h1, h2, h3⟩
 ·injection hv with h1 h2 h3; exact .inr ⟨g, h1⟩
set_option maxHeartbeats 1000000 in
theorem grow_ {m : Nat} {w : World} (hm : m ≤ 1000000) :
 Calls Tryz.prog 206 #[.slice none 0 0, .int .i64 (m : Int)] w fun e w' => ∃ A' c', e = .returned (.slice A' 0 c') ∧ FrL kI 3 w' w.heap.size Any A' 0 c' [] ∧ BelL w w' := by
 by_cases h0 : m = 0
 ·subst h0
  go_enter Tryz.func206, Tryz.ntmps206
  go_wp2
  go_ret
  exact ⟨_, _, rfl, frl_nil, belL⟩
 ·have h1 : decide ((0 : Int) < (m : Int)) = true := decide_eq_true (by omega)
  have h2 : decide (0 < m) = true := decide_eq_true (by omega)
  clear h0
  go_enter Tryz.func206, Tryz.ntmps206
  go_wp2_with (first | ((with_reducible refine gate_dst (N := 22) rfl ?_); refine zeros_tc (m := m) (by rfl) (by rfl) (by rfl) (by rfl) (by omega) ?_; intro A1 c1 w1 hF hb))
  go_ret
  exact ⟨_, _, rfl, fr_zero (fr_here (h := hF)), belL⟩
theorem growI_ {k : Int} {w : World} (h0 : 0 ≤ k) (hk : k ≤ 1000000) :
 Calls Tryz.prog 206 #[.slice none 0 0, .int .i64 k] w fun e w' => ∃ A' c', e = .returned (.slice A' 0 c') ∧ FrL kI 3 w' w.heap.size Any A' 0 c' [] ∧ BelL w w' := by
 obtain ⟨m, rfl⟩ : ∃ m : Nat, k = m := ⟨k.toNat, by omega⟩
 exact grow_ (by omega)
set_option maxHeartbeats 2000000 in
theorem concat_ {g t : Nat} {A B : Option Addr} {n c m d : Nat} {xs ys : List Int} {w : World} [hg : Blk w g #[.slice A n c, .slice B m d] t] [h1 : Sr kI w A n c xs] [h2 : Sr kI w B m d ys] (hn : n ≤ 100000) (hm : m ≤ 100000) :
 Calls Tryz.prog 190 #[.slice (some ⟨g, 0, none⟩) 2 2] w fun e w' => ∃ A' c', e = .returned (.slice A' (n + m) c') ∧ FrL kI 3 w' w.heap.size (Under w'.heap.size) A' (n + m) c' (xs ++ ys) ∧ BelL w w' := by
 have s1 := sr_l h1
 have s2 := sr_l h2
 have l1 := h1.len
 have l2 := h2.len
 have hk : BlkL w g #[.slice A n c, .slice B m d] t := ⟨hg.out⟩
 clear h1 h2 hg
 have L1 := Aside0.mk l1
 have L2 := Aside0.mk l2
 clear l1 l2
 go_enter Tryz.func190, Tryz.ntmps190
 go_wp2
 go_loopg [3, 5, 11] 2 (fun kq v3 v5 v11 w' => BelL w w' ∧ ((v11 = .int .i64 0 ∧ v3 = .int .i64 0 ∧ kq = 2) ∨ (v11 = .int .i64 1 ∧ v3 = .int .i64 (n : Int) ∧ kq = 1) ∨ (v11 = .int .i64 2 ∧ v3 = .int .i64 ((n + m : Nat) : Int) ∧ kq = 0)))
 case atStart => exact ⟨belL, .inl ⟨rfl, rfl, rfl⟩⟩
 case round =>
  obtain ⟨hbr, ⟨rfl, rfl, rfl⟩ | ⟨rfl, rfl, rfl⟩ | ⟨rfl, rfl, rfl⟩⟩ := hrel
  ·go_wp2
   go_roundg 1
   case measure => omega
   case rel => exact ⟨belL, .inr (.inl ⟨rfl, rfl, rfl⟩)⟩
  ·go_wp2
   go_roundg 0
   case measure => omega
   case rel => exact ⟨belL, .inr (.inr ⟨rfl, by go_num, rfl⟩)⟩
  ·go_wp2_with (first | (go_at_call 206; (with_reducible refine cM (growI_ (by omega) (by omega)) ?_); rintro e w1 ⟨A1, c1, rfl, hF1, hb1⟩))
   go_loopg [6, 8, 27] 2 (fun kq v6 v8 v27 w' => BelL w w' ∧ ∃ A6 c6, ((v27 = .int .i64 0 ∧ v6 = .slice A6 0 c6 ∧ kq = 2 ∧ FrL kI 3 w' w.heap.size (Under w'.heap.size) A6 0 c6 []) ∨ (v27 = .int .i64 1 ∧ v6 = .slice A6 n c6 ∧ kq = 1 ∧ FrL kI 3 w' w.heap.size (Under w'.heap.size) A6 n c6 xs) ∨ (v27 = .int .i64 2 ∧ v6 = .slice A6 (n + m) c6 ∧ kq = 0 ∧ FrL kI 3 w' w.heap.size (Under w'.heap.size) A6 (n + m) c6 (xs ++ ys))))
   case atStart => exact ⟨belL, A1, c1, .inl ⟨rfl, rfl, rfl, frl⟩⟩
   case round =>
    obtain ⟨hbr2, A6, c6, ⟨rfl, rfl, rfl, hF⟩ | ⟨rfl, rfl, rfl, hF⟩ | ⟨rfl, rfl, rfl, hF⟩⟩ := hrel
    ·go_wp2_with (first | ((with_reducible refine gate_dst (N := 33) rfl ?_); refine app_tc (k := kI) (t := 23) (A := A6) (n := 0) (c := c6) (B := A) (m := n) (d := c) (by rfl) (by rfl) Tryz.underlying23 (by rfl) (by rfl) (by omega) ?_; intro A9 c9 w9 _ _ _))
     go_roundg 1
     case measure => omega
     case rel => exact ⟨belL, _, _, .inr (.inl ⟨rfl, rfl, rfl, frl_eq (n' := 0 + n) (Nat.zero_add n) rfl⟩)⟩
    ·go_wp2_with (first | ((with_reducible refine gate_dst (N := 33) rfl ?_); refine app_tc (k := kI) (t := 23) (A := A6) (n := n) (c := c6) (B := B) (m := m) (d := d) (by rfl) (by rfl) Tryz.underlying23 (by rfl) (by rfl) (by omega) ?_; intro A9 c9 w9 _ _ _))
     go_roundg 0
     case measure => omega
     case rel => exact ⟨belL, _, _, .inr (.inr ⟨rfl, rfl, rfl, frl⟩)⟩
    ·go_wp2
     go_ret
     exact ⟨_, _, rfl, frl, belL⟩
end Go.Proofs.YtljipbmmgcccnaaGreat.T
end
section
namespace Go.Proofs.YtljipbmmgcccnaaGreat.T
open Go.RowKit Go.Proofs.YtljipbmmgcccnaaGreatW.PrintWords Go.Proofs.YtljipbmmgcccnaaGreatW.PrintLast Go.Proofs.YtljipbmmgcccnaaGreatW.PrintMore
attribute [local go_sem] cell_tc frozen_tc max2_int min2_int
attribute [local go_sem ↓] Go.wp_at_zero Go.wp_at_succ
set_option linter.unusedVariables false
set_option linter.unusedSimpArgs false
set_option synthInstance.maxHeartbeats 400000
set_option synthInstance.maxSize 512
section
attribute [local go_sem] cell_tc2
instance blk_new1 {W : World} {cs : Array Value} {t : Nat} : Blk (W.alloc (.cells cs t (0, 0))) W.heap.size cs t := ⟨blk_new W _⟩
instance blk_new2 {W : World} {cs : Array Value} {t : Nat} : Blk (W.drew.alloc (.cells cs t (0, 0))) W.heap.size cs t := ⟨blk_new W.drew _⟩
instance blk_new3 {W : World} {n : Nat} {cs : Array Value} {t : Nat} : Blk ((W.drewN n).alloc (.cells cs t (0, 0))) W.heap.size cs t := ⟨blk_new (W.drewN n) _⟩
def lostMany (xs lost : List Int) : List Int := lost.foldl withL xs
def tickXs (v : S25) : List Int := lostMany v.f2 (lostOf v.f1)
def tickV (v : S25) : S25 := if viewB v.f0 v.f1 v.f2 then ⟨v.f0, aged v.f1, tickXs v⟩ else z25
def tickG (v : S25) : List Int := if viewB v.f0 v.f1 v.f2 then idsOf (aged v.f1) ++ tickXs v else []
def tickE (v : S25) : Int := if viewB v.f0 v.f1 v.f2 then 0 else 1100
theorem lostMany_snoc {xs lost : List Int} {i : Nat} (h : i < lost.length) : lostMany xs (lost.take (i + 1)) = withL (lostMany xs (lost.take i)) lost[i] := by
 unfold lostMany; rw [List.take_succ_eq_append_getElem h, List.foldl_append]; rfl
theorem withL_len (l : List Int) (x : Int) : (withL l x).length ≤ 16 := by
 unfold withL
 split
 ·rename_i h
  have h16 := passB_len (show passB l = true by unfold withOk at h; simp only [Bool.and_eq_true] at h; exact h.1)
  split
  ·exact h16
  ·split
   ·simp
   ·rw [List.length_append, List.length_cons, List.length_take, List.length_drop]; omega
 ·simp
theorem lostMany_len (xs lost : List Int) (h : xs.length ≤ 16) : (lostMany xs lost).length ≤ 16 := by
 unfold lostMany
 induction lost generalizing xs with
 | nil => exact h
 | cons y ys ih => rw [List.foldl_cons]; exact ih _ (withL_len xs y)
set_option maxHeartbeats 2000000 in
theorem tickView_ {id : Int} {A B : Option Addr} {n c m d : Nat} {ps : List S98} {xs : List Int} {w : World} [h : Sr k98 w A n c ps] [g : Sr kI w B m d xs] :
 Calls Tryz.prog 160 #[.agg #[.int .i64 id, .slice A n c, .slice B m d]] w fun e w' => ∃ v A1 c1, e = .returned (.tuple #[v, .slice A1 (tickG ⟨id, ps, xs⟩).length c1, .int .i64 (tickE ⟨id, ps, xs⟩)]) ∧ ViewR w' w.heap.size v (tickV ⟨id, ps, xs⟩) ∧ FrL kI 3 w' w.heap.size (Under w'.heap.size) A1 (tickG ⟨id, ps, xs⟩).length c1 (tickG ⟨id, ps, xs⟩) ∧ BelL w w' := by
 obtain rfl := h.len
 obtain rfl := g.len
 have s1 := sr_l h
 have s2 := sr_l g
 clear h g
 cases h1 : viewB id ps xs
 ·rw [show tickV ⟨id, ps, xs⟩ = z25 by simp [tickV, h1], show tickG ⟨id, ps, xs⟩ = [] by simp [tickG, h1], show tickE ⟨id, ps, xs⟩ = 1100 by simp [tickE, h1]]
  go_enter Tryz.func160, Tryz.ntmps160
  go_wp2_with (first | (with_reducible refine box_tc rfl (N := 1) rfl (cs := #[.int .i64 id, .slice A ps.length c, .slice B xs.length d]) (t := 25) ?hr ?_; (case hr => go_simp <;> rfl); intro g1 wg1 _ _ _) | (with_reducible refine box_tc rfl (N := 2) rfl (cs := #[.int .i64 0, .slice none 0 0, .slice none 0 0]) (t := 25) ?hr ?_; (case hr => go_simp <;> rfl); intro g2 wg2 _ _ _) | (go_at_call 34; (with_reducible refine cM (viewMay_) ?_); rintro e wb ⟨rfl, hb⟩))
  exact bodyPost_ret (v := .tuple #[.agg #[.int .i64 0, .slice none 0 0, .slice none 0 0], .slice none 0 0, .int .i64 1100]) (by simp [results, Tryz.results160, go_sem]) rfl ⟨_, _, _, rfl, ⟨_, _, _, _, rfl, frl_nil, frl_nil⟩, frl_nil, belL⟩
 ·have h16 := viewB_len h1
  have hp := viewB_peers h1
  rw [show tickV ⟨id, ps, xs⟩ = ⟨id, aged ps, tickXs ⟨id, ps, xs⟩⟩ by simp [tickV, h1], show tickG ⟨id, ps, xs⟩ = idsOf (aged ps) ++ tickXs ⟨id, ps, xs⟩ by simp [tickG, h1], show tickE ⟨id, ps, xs⟩ = 0 by simp [tickE, h1]]
  have hx1 : ageL id ps = aged ps := by simp [ageL, hp]
  have hx2 : ageX id ps = lostOf ps := by simp [ageX, hp]
  have hx3 : ageE id ps = 0 := by simp [ageE, hp]
  have ha := aged_le ps
  have hlo := lost_le ps
  go_enter Tryz.func160, Tryz.ntmps160
  go_wp2_with (first | (with_reducible refine box_tc rfl (N := 1) rfl (cs := #[.int .i64 id, .slice A ps.length c, .slice B xs.length d]) (t := 25) ?hr ?_; (case hr => go_simp <;> rfl); intro g1 wg1 _ _ _) | (with_reducible refine box_tc rfl (N := 2) rfl (cs := #[.int .i64 0, .slice none 0 0, .slice none 0 0]) (t := 25) ?hr ?_; (case hr => go_simp <;> rfl); intro g2 wg2 _ _ _) | (go_at_call 34; (with_reducible refine cM (viewMay_) ?_); rintro e wb ⟨rfl, hb⟩) | (with_reducible refine box_tc rfl (N := 5) rfl (cs := #[.int .i64 0, .slice none 0 0, .slice none 0 0]) (t := 25) ?hr ?_; (case hr => go_simp <;> rfl); intro g5 wg5 _ _ _) | (go_at_call 37; (with_reducible refine cM (viewCopy_ (by omega) (by omega)) ?_); rintro e w1 ⟨A1, c1, B1, d1, rfl, hFa, hFb, hb1⟩) | (go_at_call 189; (with_reducible refine Calls.mono peersAge_ ?_); rintro e w3 ⟨A2, c2, A3, c3, rfl, hFc, hFd, hb3⟩; rw [hx1] at hFc ⊢; rw [hx2] at hFd ⊢; rw [hx3]))
  go_loopg [10, 30] (lostOf ps).length (fun kq v10 v30 w' => ∃ (i : Nat), v30 = .int .i64 i ∧ i ≤ (lostOf ps).length ∧ kq = (lostOf ps).length - i ∧ ViewIs w' g5 wg2.heap.size id (aged ps) (lostMany xs ((lostOf ps).take i)) ∧ Kb g5 w3 w')
  case atStart => exact ⟨0, rfl, Nat.zero_le _, rfl, viewIs, inferInstance⟩
  case round =>
   obtain ⟨i, rfl, hi, rfl, ⟨A6, c6, B6, d6, hB6, hF6, hG6⟩, hkb6⟩ := hrel
   have hkb5 := kbL (h := hkb6)
   have hl6 := lostMany_len xs ((lostOf ps).take i) (by omega)
   by_cases hlt : i < (lostOf ps).length
   ·obtain ⟨ad, rfl, hx⟩ := el_I (W := wr) (A := A3) (n := (lostOf ps).length) (c := c3) (l := lostOf ps) i hlt
    have HS := Aside0.mk (lostMany_snoc (xs := xs) hlt)
    go_wp2_with (first | (go_at_call 171; (with_reducible refine cM (with_) ?_); rintro e w8 ⟨A8, c8, rfl, hF8, hb8⟩))
    go_roundg ((lostOf ps).length - (i + 1))
    case measure => omega
    case rel => exact ⟨i + 1, by go_num, by omega, rfl, by rw [HS.out]; exact viewIs, inferInstance⟩
   ·obtain rfl : i = (lostOf ps).length := by omega
    rw [List.take_length] at hB6 hG6 hl6
    have hT : tickXs ⟨id, ps, xs⟩ = lostMany xs (lostOf ps) := rfl
    generalize lostMany xs (lostOf ps) = ys at hB6 hG6 hl6 hT
    have HT := Aside0.mk hT
    have HL := Aside0.mk (show (idsOf (aged ps) ++ tickXs ⟨id, ps, xs⟩).length = (aged ps).length + ys.length by rw [List.length_append, idsOf_len, hT])
    clear hT
    go_wp2
    go_region_with (first | (go_at_call 141; (with_reducible refine cM (ids_ (by omega)) ?_); rintro e w9 ⟨A9, c9, rfl, hF9, hb9⟩) | (go_at_call 190; (with_reducible refine cM (concat_ (by omega) (by omega)) ?_); rintro e w10 ⟨A10, c10, rfl, hF10, hb10⟩))
    all_goals
     go_wp2
     exact bodyPost_ret (v := .tuple #[.agg #[.int .i64 id, .slice A6 (aged ps).length c6, .slice B6 ys.length d6], .slice A10 ((aged ps).length + ys.length) c10, .int .i64 0]) (by simp [results, Tryz.results160, go_sem]) rfl ⟨_, A10, c10, by rw [HL.out], ⟨A6, c6, B6, d6, by rw [HT.out], frl, by rw [HT.out]; exact frl⟩, by rw [HL.out, HT.out]; exact frl, belL⟩
end
section
attribute [local go_sem] cell_tc2
theorem first_ {A : Option Addr} {n c : Nat} {l : List Int} {w : World} [h : Sr kI w A n c l] (hp : 0 < l.length) :
 Calls Tryz.prog 89 #[.slice A n c] w fun e w' => e = .returned (.int .i64 l[0]) ∧ Drawn0 w w' := by
 obtain rfl := h.len
 obtain ⟨ad, rfl, hx⟩ := el_I (W := w) (A := A) (n := l.length) (c := c) (l := l) 0 hp
 have hx2 : CellL w (ad.add 0) (.int .i64 l[0]) := hx
 have hadd : ad.add 0 = ad := by simp [Addr.add]
 have hx3 : CellL w ad (.int .i64 l[0]) := by rw [hadd] at hx; exact hx
 clear hadd
 go_enter Tryz.func89, Tryz.ntmps89
 go_wp2
 go_ret
 exact ⟨rfl, by repeat (first | exact Drawn0.refl _ | apply Drawn0.step)⟩
theorem last_ {A : Option Addr} {n c : Nat} {l : List Int} {w : World} [h : Sr kI w A n c l] (hp : 0 < l.length) :
 Calls Tryz.prog 137 #[.slice A n c] w fun e w' => e = .returned (.int .i64 (l[l.length - 1]'(by omega))) ∧ Drawn0 w w' := by
 obtain rfl := h.len
 have hlen := h.C.2.1
 obtain ⟨ad, rfl, hx⟩ := el_I (W := w) (A := A) (n := l.length) (c := c) (l := l) (l.length - 1) (by omega)
 have e1 : (l.length : Int) - 1 = ((l.length - 1 : Nat) : Int) := by omega
 have hj : l.length - 1 < l.length := by omega
 go_enter Tryz.func137, Tryz.ntmps137
 go_wp2
 go_ret
 exact ⟨rfl, by repeat (first | exact Drawn0.refl _ | apply Drawn0.step)⟩
def succI (v : S25) : Int := if viewB v.f0 v.f1 v.f2 then (match v.f1 with | [] => v.f0 | p :: _ => p.f0) else 0
def predI (v : S25) : Int := if viewB v.f0 v.f1 v.f2 then (match v.f1.getLast? with | none => v.f0 | some p => p.f0) else 0
def endE (v : S25) : Int := if viewB v.f0 v.f1 v.f2 then 0 else 900
set_option maxHeartbeats 1000000 in
theorem succEnd_ {id : Int} {A B : Option Addr} {n c m d : Nat} {ps : List S98} {xs : List Int} {w : World} [h : Sr k98 w A n c ps] [g : Sr kI w B m d xs] :
 Calls Tryz.prog 88 #[.agg #[.int .i64 id, .slice A n c, .slice B m d], .func (.func 89) #[] #[]] w fun e w' => e = .returned (.tuple #[.int .i64 (succI ⟨id, ps, xs⟩), .int .i64 (endE ⟨id, ps, xs⟩)]) ∧ BelL w w' := by
 obtain rfl := h.len
 obtain rfl := g.len
 have s1 := sr_l h
 have s2 := sr_l g
 clear h g
 cases h1 : viewB id ps xs
 ·rw [show succI ⟨id, ps, xs⟩ = 0 by simp [succI, h1], show endE ⟨id, ps, xs⟩ = 900 by simp [endE, h1]]
  go_enter Tryz.func88, Tryz.ntmps88
  go_wp2_with (first | (with_reducible refine box_tc rfl (N := 2) rfl (cs := #[.int .i64 id, .slice A ps.length c, .slice B xs.length d]) (t := 25) ?hr ?_; (case hr => go_simp <;> rfl); intro g1 wg1 _ _ _) | (go_at_call 34; (with_reducible refine cM (viewMay_) ?_); rintro e wb ⟨rfl, hb⟩))
  go_ret2
  exact ⟨rfl, belL⟩
 ·have h16 := viewB_len h1
  rw [show endE ⟨id, ps, xs⟩ = 0 by simp [endE, h1]]
  by_cases h2 : ps.length = 0
  ·obtain rfl : ps = [] := List.eq_nil_of_length_eq_zero h2
   rw [show succI ⟨id, [], xs⟩ = id by simp [succI, h1]]
   clear h2
   go_enter Tryz.func88, Tryz.ntmps88
   go_wp2_with (first | (with_reducible refine box_tc rfl (N := 2) rfl (cs := #[.int .i64 id, .slice A 0 c, .slice B xs.length d]) (t := 25) ?hr ?_; (case hr => go_simp <;> rfl); intro g1 wg1 _ _ _) | (go_at_call 34; (with_reducible refine cM (viewMay_ (n := 0) (ps := [])) ?_); rintro e wb ⟨rfl, hb⟩))
   go_ret2
   exact ⟨rfl, belL⟩
  ·have h3 : ((ps.length : Int) == 0) = false := by simpa using h2
   have h4 : (ps.length == 0) = false := by simpa using h2
   have hq : 0 < (idsOf ps).length := by rw [idsOf_len]; omega
   have HR : Aside0 (succI ⟨id, ps, xs⟩ = (idsOf ps)[0]) := ⟨by 
    cases ps with
    | nil => simp at h3
    | cons p ps => simp only [succI, h1, if_true]; rfl⟩
   clear h2
   go_enter Tryz.func88, Tryz.ntmps88
   go_wp2_with (first | (with_reducible refine box_tc rfl (N := 2) rfl (cs := #[.int .i64 id, .slice A ps.length c, .slice B xs.length d]) (t := 25) ?hr ?_; (case hr => go_simp <;> rfl); intro g1 wg1 _ _ _) | (go_at_call 34; (with_reducible refine cM (viewMay_) ?_); rintro e wb ⟨rfl, hb⟩) | (go_at_call 141; (with_reducible refine cM (ids_ (by omega)) ?_); rintro e w2 ⟨A2, c2, rfl, hF2, hb2⟩) | (go_at_call 89; (with_reducible refine cM (first_ (l := idsOf ps) hq) ?_); rintro e w' ⟨rfl, ⟨nd, rfl⟩⟩))
   go_ret2
   exact ⟨by rw [HR.out]; rfl, belL⟩
set_option maxHeartbeats 1000000 in
theorem predEnd_ {id : Int} {A B : Option Addr} {n c m d : Nat} {ps : List S98} {xs : List Int} {w : World} [h : Sr k98 w A n c ps] [g : Sr kI w B m d xs] :
 Calls Tryz.prog 88 #[.agg #[.int .i64 id, .slice A n c, .slice B m d], .func (.func 137) #[] #[]] w fun e w' => e = .returned (.tuple #[.int .i64 (predI ⟨id, ps, xs⟩), .int .i64 (endE ⟨id, ps, xs⟩)]) ∧ BelL w w' := by
 obtain rfl := h.len
 obtain rfl := g.len
 have s1 := sr_l h
 have s2 := sr_l g
 clear h g
 cases h1 : viewB id ps xs
 ·rw [show predI ⟨id, ps, xs⟩ = 0 by simp [predI, h1], show endE ⟨id, ps, xs⟩ = 900 by simp [endE, h1]]
  go_enter Tryz.func88, Tryz.ntmps88
  go_wp2_with (first | (with_reducible refine box_tc rfl (N := 2) rfl (cs := #[.int .i64 id, .slice A ps.length c, .slice B xs.length d]) (t := 25) ?hr ?_; (case hr => go_simp <;> rfl); intro g1 wg1 _ _ _) | (go_at_call 34; (with_reducible refine cM (viewMay_) ?_); rintro e wb ⟨rfl, hb⟩))
  go_ret2
  exact ⟨rfl, belL⟩
 ·have h16 := viewB_len h1
  rw [show endE ⟨id, ps, xs⟩ = 0 by simp [endE, h1]]
  by_cases h2 : ps.length = 0
  ·obtain rfl : ps = [] := List.eq_nil_of_length_eq_zero h2
   rw [show predI ⟨id, [], xs⟩ = id by simp [predI, h1]]
   clear h2
   go_enter Tryz.func88, Tryz.ntmps88
   go_wp2_with (first | (with_reducible refine box_tc rfl (N := 2) rfl (cs := #[.int .i64 id, .slice A 0 c, .slice B xs.length d]) (t := 25) ?hr ?_; (case hr => go_simp <;> rfl); intro g1 wg1 _ _ _) | (go_at_call 34; (with_reducible refine cM (viewMay_ (n := 0) (ps := [])) ?_); rintro e wb ⟨rfl, hb⟩))
   go_ret2
   exact ⟨rfl, belL⟩
  ·have h3 : ((ps.length : Int) == 0) = false := by simpa using h2
   have h4 : (ps.length == 0) = false := by simpa using h2
   have hq : 0 < (idsOf ps).length := by rw [idsOf_len]; omega
   have HR : Aside0 (predI ⟨id, ps, xs⟩ = (idsOf ps)[(idsOf ps).length - 1]) := ⟨by 
    simp only [predI, h1, if_true]
    have e1 : ps.getLast? = some (ps[ps.length - 1]'(by rw [idsOf_len] at hq; omega)) := by rw [List.getLast?_eq_getElem?]; exact List.getElem?_eq_getElem _
    rw [e1]
    simp only [idsOf, List.getElem_map, List.length_map]⟩
   clear h2
   go_enter Tryz.func88, Tryz.ntmps88
   go_wp2_with (first | (with_reducible refine box_tc rfl (N := 2) rfl (cs := #[.int .i64 id, .slice A ps.length c, .slice B xs.length d]) (t := 25) ?hr ?_; (case hr => go_simp <;> rfl); intro g1 wg1 _ _ _) | (go_at_call 34; (with_reducible refine cM (viewMay_) ?_); rintro e wb ⟨rfl, hb⟩) | (go_at_call 141; (with_reducible refine cM (ids_ (by omega)) ?_); rintro e w2 ⟨A2, c2, rfl, hF2, hb2⟩) | (go_at_call 137; (with_reducible refine cM (last_ (l := idsOf ps) hq) ?_); rintro e w' ⟨rfl, ⟨nd, rfl⟩⟩))
   go_ret2
   exact ⟨by rw [HR.out]; rfl, belL⟩
theorem succ_ {id : Int} {A B : Option Addr} {n c m d : Nat} {ps : List S98} {xs : List Int} {w : World} [h : Sr k98 w A n c ps] [g : Sr kI w B m d xs] :
 Calls Tryz.prog 32 #[.agg #[.int .i64 id, .slice A n c, .slice B m d]] w fun e w' => e = .returned (.tuple #[.int .i64 (succI ⟨id, ps, xs⟩), .int .i64 (endE ⟨id, ps, xs⟩)]) ∧ BelL w w' := by
 obtain rfl := h.len
 obtain rfl := g.len
 have s1 := sr_l h
 have s2 := sr_l g
 clear h g
 go_enter Tryz.func32, Tryz.ntmps32
 go_wp2_with (first | (with_reducible refine box_tc rfl (N := 1) rfl (cs := #[.int .i64 id, .slice A ps.length c, .slice B xs.length d]) (t := 25) ?hr ?_; (case hr => go_simp <;> rfl); intro g1 wg1 _ _ _) | (go_at_call 88; (with_reducible refine cM (succEnd_) ?_); rintro e wb ⟨rfl, hb⟩))
 go_ret2
 exact ⟨rfl, belL⟩
theorem pred_ {id : Int} {A B : Option Addr} {n c m d : Nat} {ps : List S98} {xs : List Int} {w : World} [h : Sr k98 w A n c ps] [g : Sr kI w B m d xs] :
 Calls Tryz.prog 79 #[.agg #[.int .i64 id, .slice A n c, .slice B m d]] w fun e w' => e = .returned (.tuple #[.int .i64 (predI ⟨id, ps, xs⟩), .int .i64 (endE ⟨id, ps, xs⟩)]) ∧ BelL w w' := by
 obtain rfl := h.len
 obtain rfl := g.len
 have s1 := sr_l h
 have s2 := sr_l g
 clear h g
 go_enter Tryz.func79, Tryz.ntmps79
 go_wp2_with (first | (with_reducible refine box_tc rfl (N := 1) rfl (cs := #[.int .i64 id, .slice A ps.length c, .slice B xs.length d]) (t := 25) ?hr ?_; (case hr => go_simp <;> rfl); intro g1 wg1 _ _ _) | (go_at_call 88; (with_reducible refine cM (predEnd_) ?_); rintro e wb ⟨rfl, hb⟩))
 go_ret2
 exact ⟨rfl, belL⟩
end
section
attribute [local go_sem] cell_tc2
def rowMayB (one : Int) (l : List Int) : Bool := placeB one && decide (l.length ≤ 64) && placesB l
theorem rowMay_ {x : Int} {A : Option Addr} {n c : Nat} {l : List Int} {w : World} [h : Sr kI w A n c l] :
 Calls Tryz.prog 132 #[.int .i64 x, .slice A n c] w fun e w' => e = .returned (.bool (rowMayB x l)) ∧ BelL w w' := by
 obtain rfl := h.len
 have hs := sr_l h
 clear h
 cases h1 : placeB x
 ·rw [show rowMayB x l = false by simp [rowMayB, h1]]
  go_enter Tryz.func132, Tryz.ntmps132
  go_wp2_with (first | (go_at_call 35; (with_reducible refine cM (place _ _) ?_); rintro e w' ⟨rfl, ⟨nd, rfl⟩⟩) | (go_at_call 36; (with_reducible refine cM (places_) ?_); rintro e w' ⟨rfl, ⟨nd, rfl⟩⟩))
  go_ret
  exact ⟨rfl, belL⟩
 ·by_cases h2 : l.length ≤ 64
  ·rw [show rowMayB x l = placesB l by simp [rowMayB, h1, h2]]
   have h3 : decide ((l.length : Int) ≤ 64) = true := decide_eq_true (by omega)
   clear h2
   go_enter Tryz.func132, Tryz.ntmps132
   go_wp2_with (first | (go_at_call 35; (with_reducible refine cM (place _ _) ?_); rintro e w' ⟨rfl, ⟨nd, rfl⟩⟩) | (go_at_call 36; (with_reducible refine cM (places_) ?_); rintro e w' ⟨rfl, ⟨nd, rfl⟩⟩))
   go_ret
   exact ⟨rfl, belL⟩
  ·rw [show rowMayB x l = false by simp [rowMayB, h2]]
   have h3 : decide ((l.length : Int) ≤ 64) = false := decide_eq_false (by omega)
   clear h2
   go_enter Tryz.func132, Tryz.ntmps132
   go_wp2_with (first | (go_at_call 35; (with_reducible refine cM (place _ _) ?_); rintro e w' ⟨rfl, ⟨nd, rfl⟩⟩) | (go_at_call 36; (with_reducible refine cM (places_) ?_); rintro e w' ⟨rfl, ⟨nd, rfl⟩⟩))
   go_ret
   exact ⟨rfl, belL⟩
theorem by_ {x : Int} {w : World} : Calls Tryz.prog 135 #[.int .i64 x] w fun e w' => ∃ g, e = .returned (.func (.func 177) #[] #[.pointer (some ⟨g, 0, none⟩)]) ∧ BlkL w' g #[.int .i64 x] 3 ∧ GEL w g ∧ BelL w w' := by
 go_enter Tryz.func135, Tryz.ntmps135
 go_wp2_with (first | (with_reducible refine box_tc rfl (N := 1) rfl (cs := #[.int .i64 x]) (t := 3) ?hr ?_; (case hr => go_simp <;> rfl); intro g1 wg1 _ _ _))
 go_ret
 exact ⟨g1, rfl, blkL, ⟨GE.out⟩, belL⟩
def byI (base a b : Int) : Int := cmpI (farI base a) (farI base b)
theorem by1_ {base a b : Int} {g t : Nat} {w : World} [h : Blk w g #[.int .i64 base] t] (h0 : placeB base = true) (h1 : placeB a = true) (h2 : placeB b = true) :
 Calls Tryz.prog 177 #[.int .i64 a, .int .i64 b, .pointer (some ⟨g, 0, none⟩)] w fun e w' => e = .returned (.int .i64 (byI base a b)) ∧ BelL w w' := by
 have HB := Aside0.mk (show byI base a b = cmpI (farI base a) (farI base b) from rfl)
 go_enter Tryz.func177, Tryz.ntmps177
 go_wp2
 (refine wp_region_bel (by kernel_rfl) (by kernel_rfl) ?_; (repeat (first | go_big_quiet_skip | (go_big_quiet_want; first | (go_big_quiet_op; go_big_quiet_on) | (apply Exists.intro; refine ⟨fun wq hq => ?_, ?_⟩; (focus (unfold Oper.quietAt; go_simp; first | done | exact ⟨rfl, rfl⟩ | exact rfl | (first | (go_at_call 100; refine Calls.mono (far _ _ (by assumption) (by assumption) _) ?_; rintro e w1 ⟨rfl, ⟨nd, rfl⟩⟩; exact ⟨rfl, belL⟩) | (go_at_call 107; refine Calls.mono (compare _ _ _) ?_; rintro e w1 ⟨rfl, ⟨nd, rfl⟩⟩; exact ⟨rfl, belL⟩)))); (try simp only [Act.put, put3]); go_big_quiet_on)))); refine wpQuiet_nil ?_; intro w7 hb7)
 go_wp2
 go_ret
 exact ⟨by rw [HB.out]; rfl, belL⟩
def minStep (base m x : Int) : Int := if farI base x < farI base m then x else m
def minI (base : Int) (l : List Int) : Int := l.tail.foldl (minStep base) (l.headD 0)
theorem minI_snoc {base : Int} {l : List Int} {i : Nat} (h1 : 1 ≤ i) (h : i < l.length) : minI base (l.take (i + 1)) = minStep base (minI base (l.take i)) l[i] := by
 cases l with
 | nil => simp at h
 | cons y ys =>
   obtain ⟨j, rfl⟩ : ∃ j, i = j + 1 := ⟨i - 1, by omega⟩
   unfold minI
   simp only [List.take_succ_cons, List.tail_cons, List.headD_cons, List.getElem_cons_succ]
   rw [List.take_succ_eq_append_getElem (by simpa using h), List.foldl_append]; rfl
theorem minI_mem {base : Int} {l : List Int} (h : 0 < l.length) : minI base l ∈ l := by
 cases l with
 | nil => simp at h
 | cons y ys =>
   unfold minI
   simp only [List.tail_cons, List.headD_cons]
   clear h
   induction ys generalizing y with
   | nil => simp
   | cons z zs ih =>
     rw [List.foldl_cons]
     have := ih (minStep base y z)
     unfold minStep at this ⊢
     split
     ·rename_i hlt; rw [if_pos hlt] at this; simp only [List.mem_cons] at this ⊢; (rcases this with h | h <;> simp [h])
     ·rename_i hlt; rw [if_neg hlt] at this; simp only [List.mem_cons] at this ⊢; (rcases this with h | h <;> simp [h])
theorem placesB_mem {l : List Int} (h : placesB l = true) {x : Int} (hx : x ∈ l) : placeB x = true := by
 unfold placesB at h; rw [List.all_eq_true] at h; exact h x hx
set_option maxHeartbeats 2000000 in
theorem minFunc_ {base : Int} {g t : Nat} {A : Option Addr} {n c : Nat} {l : List Int} {w : World} [hg : Blk w g #[.int .i64 base] t] [h : Sr kI w A n c l] (h0 : placeB base = true) (h1 : placesB l = true) (hp : 0 < l.length) (hn : n ≤ 100000) :
 Calls Tryz.prog 213 #[.slice A n c, .func (.func 177) #[] #[.pointer (some ⟨g, 0, none⟩)]] w fun e w' => e = .returned (.int .i64 (minI base l)) ∧ BelL w w' := by
 obtain rfl := h.len
 have hs := sr_l h
 have hk : BlkL w g #[.int .i64 base] t := ⟨hg.out⟩
 clear h hg
 obtain ⟨ad, rfl, hx⟩ := el_I (W := w) (A := A) (n := l.length) (c := c) (l := l) 0 hp
 have hadd : ad.add 0 = ad := by simp [Addr.add]
 have hx3 : CellL w ad (.int .i64 l[0]) := by rw [hadd] at hx; exact hx
 have hlt1 : decide ((l.length : Int) < 1) = false := decide_eq_false (by omega)
 have hlt2 : decide (l.length < 1) = false := decide_eq_false (by omega)
 have hz : minI base (l.take 1) = l[0] := by cases l with | nil => simp at hp | cons y ys => rfl
 have HZ := Aside0.mk hz
 clear hadd hx hz
 go_enter Tryz.func213, Tryz.ntmps213
 go_wp2
 go_loopg [5, 6] (l.length - 1) (fun kq v5 v6 w' => ∃ (i : Nat), v6 = .int .i64 i ∧ v5 = .int .i64 (minI base (l.take i)) ∧ 1 ≤ i ∧ i ≤ l.length ∧ kq = l.length - i ∧ BelL w w')
 case atStart => exact ⟨1, rfl, by rw [HZ.out], Nat.le_refl 1, hp, rfl, belL⟩
 case round =>
  obtain ⟨i, rfl, rfl, hi1, hi, rfl, hbr⟩ := hrel
  by_cases hlt : i < l.length
  ·obtain ⟨ad', he, hx⟩ := el_I (W := wr) (A := some ad) (n := l.length) (c := c) (l := l) i hlt
   obtain rfl := Option.some.inj he
   have hpx : placeB l[i] = true := placesB_at h1 i hlt
   have hpm : placeB (minI base (l.take i)) = true := placesB_mem h1 (List.mem_of_mem_take (minI_mem (by rw [List.length_take]; omega)))
   have HS := Aside0.mk (minI_snoc (base := base) hi1 hlt)
   generalize hm : minI base (l.take i) = mm at hpm HS
   have HM := Aside0.mk hm
   clear hm
   by_cases hlt2 : farI base l[i] < farI base mm
   ·have hb2 : decide (byI base l[i] mm < 0) = true := decide_eq_true (by unfold byI; rw [cmpI_neg]; exact hlt2)
    have HT : Aside0 (minI base (l.take (i + 1)) = l[i]) := ⟨by rw [HS.out]; unfold minStep; rw [if_pos hlt2]⟩
    clear hlt2
    go_wp2_with (first | (go_at_call 177; (with_reducible refine cM (by1_ h0 hpx hpm) ?_); rintro e wb ⟨rfl, hb⟩))
    go_roundg (l.length - (i + 1))
    case measure => omega
    case rel => exact ⟨i + 1, by go_num, by rw [HT.out], by omega, by omega, rfl, belL⟩
   ·have hb2 : decide (byI base l[i] mm < 0) = false := decide_eq_false (by unfold byI; rw [cmpI_neg]; exact hlt2)
    have HT : Aside0 (minI base (l.take (i + 1)) = mm) := ⟨by rw [HS.out]; unfold minStep; rw [if_neg hlt2]⟩
    clear hlt2
    go_wp2_with (first | (go_at_call 177; (with_reducible refine cM (by1_ h0 hpx hpm) ?_); rintro e wb ⟨rfl, hb⟩))
    go_roundg (l.length - (i + 1))
    case measure => omega
    case rel => exact ⟨i + 1, by go_num, by rw [HT.out], by omega, by omega, rfl, belL⟩
  ·obtain rfl : i = l.length := by omega
   have HT : Aside0 (minI base (l.take l.length) = minI base l) := ⟨by rw [List.take_length]⟩
   go_wp2
   go_ret
   exact ⟨by rw [← HT.out]; rfl, belL⟩
def ownB (l : List Int) (key : Int) : Bool := rowMayB key l && !(l.length == 0)
def ownI (l : List Int) (key : Int) : Int := if ownB l key then minI key l else 0
def ownE (l : List Int) (key : Int) : Int := if ownB l key then 0 else 200
set_option maxHeartbeats 1000000 in
theorem rowOwner_ {key : Int} {A : Option Addr} {n c : Nat} {l : List Int} {w : World} [h : Sr kI w A n c l] :
 Calls Tryz.prog 199 #[.slice A n c, .int .i64 key] w fun e w' => e = .returned (.tuple #[.int .i64 (ownI l key), .int .i64 (ownE l key)]) ∧ BelL w w' := by
 obtain rfl := h.len
 have hs := sr_l h
 clear h
 cases h1 : rowMayB key l
 ·rw [show ownI l key = 0 by simp [ownI, ownB, h1], show ownE l key = 200 by simp [ownE, ownB, h1]]
  go_enter Tryz.func199, Tryz.ntmps199
  go_wp2_with (first | (go_at_call 132; (with_reducible refine cM (rowMay_) ?_); rintro e wb ⟨rfl, hb⟩) | (go_at_call 135; (with_reducible refine Calls.mono by_ ?_); rintro e w2 ⟨g2, rfl, hk2, hg2, hb2⟩) | (go_at_call 213; (with_reducible refine cM (minFunc_ hm1 hm3 hp (by omega)) ?_); rintro e wb ⟨rfl, hb⟩))
  go_ret2
  exact ⟨rfl, belL⟩
 ·cases h2 : (l.length == 0)
  ·have hb : ownB l key = true := by simp [ownB, h1, h2]
   rw [show ownI l key = minI key l by simp [ownI, hb], show ownE l key = 0 by simp [ownE, hb]]
   have h3 : ((l.length : Int) == 0) = false := by simpa using h2
   have hp : 0 < l.length := by have : ¬ l.length = 0 := by simpa using h2
                                omega
   have hm := h1
   unfold rowMayB at hm
   simp only [Bool.and_eq_true, decide_eq_true_eq] at hm
   obtain ⟨⟨hm1, hm2⟩, hm3⟩ := hm
   go_enter Tryz.func199, Tryz.ntmps199
   go_wp2_with (first | (go_at_call 132; (with_reducible refine cM (rowMay_) ?_); rintro e wb ⟨rfl, hb⟩) | (go_at_call 135; (with_reducible refine Calls.mono by_ ?_); rintro e w2 ⟨g2, rfl, hk2, hg2, hb2⟩) | (go_at_call 213; (with_reducible refine cM (minFunc_ hm1 hm3 hp (by omega)) ?_); rintro e wb ⟨rfl, hb⟩))
   go_ret2
   exact ⟨rfl, belL⟩
  ·rw [show ownI l key = 0 by simp [ownI, ownB, h2], show ownE l key = 200 by simp [ownE, ownB, h2]]
   have h3 : ((l.length : Int) == 0) = true := by simpa using h2
   go_enter Tryz.func199, Tryz.ntmps199
   go_wp2_with (first | (go_at_call 132; (with_reducible refine cM (rowMay_) ?_); rintro e wb ⟨rfl, hb⟩) | (go_at_call 135; (with_reducible refine Calls.mono by_ ?_); rintro e w2 ⟨g2, rfl, hk2, hg2, hb2⟩) | (go_at_call 213; (with_reducible refine cM (minFunc_ hm1 hm3 hp (by omega)) ?_); rintro e wb ⟨rfl, hb⟩))
   go_ret2
   exact ⟨rfl, belL⟩
def vownB (v : S25) (key : Int) : Bool := viewB v.f0 v.f1 v.f2 && placeB key
def vownI (v : S25) (key : Int) : Int := if vownB v key then ownI (idsOf v.f1 ++ [v.f0]) key else 0
def vownE (v : S25) (key : Int) : Int := if vownB v key then 0 else 900
set_option maxRecDepth 100000 in
set_option maxHeartbeats 1000000 in
theorem viewOwner_ {id key : Int} {A B : Option Addr} {n c m d : Nat} {ps : List S98} {xs : List Int} {w : World} [h : Sr k98 w A n c ps] [g : Sr kI w B m d xs] :
 Calls Tryz.prog 172 #[.agg #[.int .i64 id, .slice A n c, .slice B m d], .int .i64 key] w fun e w' => e = .returned (.tuple #[.int .i64 (vownI ⟨id, ps, xs⟩ key), .int .i64 (vownE ⟨id, ps, xs⟩ key)]) ∧ BelL w w' := by
 obtain rfl := h.len
 obtain rfl := g.len
 have s1 := sr_l h
 have s2 := sr_l g
 clear h g
 cases h1 : viewB id ps xs
 ·rw [show vownI ⟨id, ps, xs⟩ key = 0 by simp [vownI, vownB, h1], show vownE ⟨id, ps, xs⟩ key = 900 by simp [vownE, vownB, h1]]
  go_enter Tryz.func172, Tryz.ntmps172
  go_wp2_with (first | (with_reducible refine box_tc rfl (N := 2) rfl (cs := #[.int .i64 id, .slice A ps.length c, .slice B xs.length d]) (t := 25) ?hr ?_; (case hr => go_simp <;> rfl); intro g1 wg1 _ _ _) | (go_at_call 34; (with_reducible refine cM (viewMay_) ?_); rintro e wb ⟨rfl, hb⟩) | (go_at_call 35; (with_reducible refine cM (place _ _) ?_); rintro e w' ⟨rfl, ⟨nd, rfl⟩⟩))
  go_ret2
  exact ⟨rfl, belL⟩
 ·have h16 := viewB_len h1
  cases h2 : placeB key
  ·rw [show vownI ⟨id, ps, xs⟩ key = 0 by simp [vownI, vownB, h2], show vownE ⟨id, ps, xs⟩ key = 900 by simp [vownE, vownB, h2]]
   go_enter Tryz.func172, Tryz.ntmps172
   go_wp2_with (first | (with_reducible refine box_tc rfl (N := 2) rfl (cs := #[.int .i64 id, .slice A ps.length c, .slice B xs.length d]) (t := 25) ?hr ?_; (case hr => go_simp <;> rfl); intro g1 wg1 _ _ _) | (go_at_call 34; (with_reducible refine cM (viewMay_) ?_); rintro e wb ⟨rfl, hb⟩) | (go_at_call 35; (with_reducible refine cM (place _ _) ?_); rintro e w' ⟨rfl, ⟨nd, rfl⟩⟩))
   go_ret2
   exact ⟨rfl, belL⟩
  ·rw [show vownE ⟨id, ps, xs⟩ key = 0 by simp [vownE, vownB, h1, h2]]
   have HR : Aside0 (vownI ⟨id, ps, xs⟩ key = ownI (idsOf ps ++ [id]) key) := ⟨by simp [vownI, vownB, h1, h2]⟩
   go_enter Tryz.func172, Tryz.ntmps172
   go_wp2_with (first | (with_reducible refine box_tc rfl (N := 2) rfl (cs := #[.int .i64 id, .slice A ps.length c, .slice B xs.length d]) (t := 25) ?hr ?_; (case hr => go_simp <;> rfl); intro g1 wg1 _ _ _) | (go_at_call 34; (with_reducible refine cM (viewMay_) ?_); rintro e wb ⟨rfl, hb⟩) | (go_at_call 35; (with_reducible refine cM (place _ _) ?_); rintro e w' ⟨rfl, ⟨nd, rfl⟩⟩))
   refine wp_letter fun w6 hb6 => ?_
   go_region_held3 (fun w' => BelL w6 w') (first | exact belL) (first | (go_at_call 141; (with_reducible refine cM (ids_ (by omega)) ?_); rintro e w2 ⟨A2, c2, rfl, hF2, hb2⟩) | (go_at_call 199; (with_reducible refine cM (rowOwner_) ?_); rintro e wb ⟨rfl, hb⟩) | (refine app_step_tc (k := kI) (t := 23) (A := A2) (n := ps.length) (c := c2) (B := _) (m := 1) (d := 1) (by rfl) (by rfl) Tryz.underlying23 (by rfl) (by rfl) (by omega) ?_; intro A4 c4 w4 hFa4 hba4 hgr4))
   all_goals
    go_wp2
    go_ret2
    exact ⟨by rw [HR.out]; rfl, belL⟩
end
end Go.Proofs.YtljipbmmgcccnaaGreat.T
end
