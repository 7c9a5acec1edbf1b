/- Words and lemmas that the claim's proof names, part 14: what the program's functions answer, at the inputs that each theorem's premises name. Conditions: each theorem's own premises. -/
import Derived.Test.YtljipbmmgcccnaaGreatKP13
import Derived.Test.YtljipbmmgcccnaaGreatRows
import Derived.ProofKit
import Derived.OpenShut
import Derived.Lib.SmallJoins
import Derived.SizedLaws
import Derived.Deep.Slices
section
namespace Go.Proofs.YtljipbmmgcccnaaGreat.T
open Go.ChangeShapes Go.WideShapes Go.ChangeAt Go.Joins Go.Deep Go.RowKit Go.Proofs.YtljipbmmgcccnaaGreatW.PrintWords Go.Proofs.YtljipbmmgcccnaaGreatW.PrintLast Go.Proofs.YtljipbmmgcccnaaGreatW.PrintMore
attribute [local go_sem] cell_tc frozen_tc max2_int min2_int
attribute [local go_sem ↓] Go.wp_at_zero Go.wp_at_succ
set_option linter.unusedVariables false
set_option linter.unusedSimpArgs false
set_option synthInstance.maxHeartbeats 400000
set_option synthInstance.maxSize 512
set_option maxRecDepth 100000
theorem laidOut : laidOutB Tryz.prog = true := by kernel_rfl
theorem cells25 : Tryz.prog.cellsOf 25 = 3 := by kernel_rfl
theorem cells22 : Tryz.prog.cellsOf 22 = 1 := by kernel_rfl
theorem cells23 : Tryz.prog.cellsOf 23 = 1 := by kernel_rfl
theorem cells98 : Tryz.prog.cellsOf 98 = 2 := by kernel_rfl
theorem cells3 : Tryz.prog.cellsOf 3 = 1 := by kernel_rfl
theorem cells4 : Tryz.prog.cellsOf 4 = 1 := by kernel_rfl
theorem cells46 : Tryz.prog.cellsOf 46 = 2 := by kernel_rfl
theorem cells48 : Tryz.prog.cellsOf 48 = 5 := by kernel_rfl
theorem cells77 : Tryz.prog.cellsOf 77 = 3 := by kernel_rfl
theorem cells37 : Tryz.prog.cellsOf 37 = 1 := by kernel_rfl
theorem cells38 : Tryz.prog.cellsOf 38 = 1 := by kernel_rfl
theorem cells40 : Tryz.prog.cellsOf 40 = 6 := by kernel_rfl
theorem array3 {α : Type} {a : Array α} (h : a.size = 3) : ∃ x y z, a = #[x, y, z] := by
 obtain ⟨l⟩ := a
 match l, h with
 | [x, y, z], _ => exact ⟨x, y, z, rfl⟩
def Opn {α : Type} (k : Kd α) (T : TypeId) : Prop := ∀ {H : Type} {enc : TypeId × Value → H} {W : World} {base : Nat} {spare : Nat → Bool} {held : Bool} {n : Nat} {cs : List Value} {y : DataW H × List MemPlace},
 DataW.trod enc Tryz.prog W base spare held n T cs = some y → ∃ x : α, k.K W x cs
theorem opn3 : Opn kI 3 := by
 intro H enc W base spare held n cs y h
 obtain ⟨k, e0, _, _⟩ := DataW.trod_int Tryz.underlying3 h
 exact ⟨k, e0⟩
theorem opn98 : Opn k98 98 := by
 intro H enc W base spare held n cs y h
 obtain ⟨y0, y1, m, hx, hl, h0, h1⟩ := trod_struct2 Tryz.underlying98 h
 rw [cells98] at hl
 match cs, hl with
 | [c0, c1], _ =>
   simp only [cells3, List.drop, List.take] at h0 h1
   obtain ⟨a, e0, _, _⟩ := DataW.trod_int Tryz.underlying3 h0
   obtain ⟨b, e1, _, _⟩ := DataW.trod_int Tryz.underlying3 h1
   simp only [List.cons.injEq, and_true] at e0 e1
   subst e0 e1
   exact ⟨⟨a, b⟩, k98_mk W ⟨a, b⟩⟩
theorem opn48 : Opn k48 48 := by
 intro H enc W base spare held n cs y h
 obtain ⟨y0, y1, y2, y3, m, hx, hl, h0, h1, h2, h3⟩ := trod_struct4 Tryz.underlying48 h
 rw [cells48] at hl
 match cs, hl with
 | [c0, c1, c2, c3, c4], _ =>
   simp only [cells3, cells4, cells46, List.drop, List.take] at h0 h1 h2 h3
   obtain ⟨k, e0, _, _⟩ := DataW.trod_int Tryz.underlying3 h0
   obtain ⟨v', e2, _, _⟩ := DataW.trod_int Tryz.underlying3 h2
   obtain ⟨g, e3, _⟩ := DataW.trod_bool Tryz.underlying4 h3
   obtain ⟨z0, z1, m', _, _, g0, g1⟩ := trod_struct2 Tryz.underlying46 h1
   simp only [cells3, List.drop, List.take] at g0 g1
   obtain ⟨c, f0, _, _⟩ := DataW.trod_int Tryz.underlying3 g0
   obtain ⟨x, f1, _, _⟩ := DataW.trod_int Tryz.underlying3 g1
   simp only [List.cons.injEq, and_true] at e0 e2 e3 f0 f1
   subst e0 e2 e3 f0 f1
   exact ⟨⟨k, ⟨c, x⟩, v', g⟩, k48_mk W ⟨k, ⟨c, x⟩, v', g⟩⟩
theorem opn77 : Opn k77 77 := by
 intro H enc W base spare held n cs y h
 obtain ⟨y0, y1, y2, m, hx, hl, h0, h1, h2⟩ := trod_struct3 Tryz.underlying77 h
 rw [cells77] at hl
 match cs, hl with
 | [c0, c1, c2], _ =>
   simp only [cells3, cells4, List.drop, List.take] at h0 h1 h2
   obtain ⟨k, e0, _, _⟩ := DataW.trod_int Tryz.underlying3 h0
   obtain ⟨g, e1, _⟩ := DataW.trod_bool Tryz.underlying4 h1
   obtain ⟨v', e2, _, _⟩ := DataW.trod_int Tryz.underlying3 h2
   simp only [List.cons.injEq, and_true] at e0 e1 e2
   subst e0 e1 e2
   exact ⟨⟨k, g, v'⟩, k77_mk W ⟨k, g, v'⟩⟩
theorem open_sl {α : Type} {k : Kd α} {e T : TypeId} (hu : Tryz.prog.underlying T = some (.slice e)) (hs : Tryz.prog.cellsOf e = k.sz) (ho : Opn k e) (z : α)
 {H : Type} {enc : TypeId × Value → H} {W : World} {base : Nat} {spare : Nat → Bool} {held : Bool} {n : Nat} {cs : List Value} {y : DataW H × List MemPlace}
 (h : DataW.trod enc Tryz.prog W base spare held n T cs = some y) :
 ∃ A len cap xs, cs = [.slice A len cap] ∧ Sr k W A len cap xs := by
 rcases open_slice hu h with ⟨rfl, _⟩ | ⟨x, l, c, m, q, D, Pl, rfl, hb, hl, hm, hmm, hx, hall⟩
 ·exact ⟨none, 0, 0, [], rfl, ⟨rfl, Nat.le_refl _, ⟨rfl, by omega, fun h => absurd h (by omega)⟩⟩⟩
 ·have hlm : l ≤ m := by rw [hmm]; split <;> omega
  have each : ∀ i, i < l → ∃ (y : α) (cs' : List Value), k.K W y cs' ∧ ∀ q u, cs'[q]? = some u → W.cell? (x.add (i * k.sz + q)) = some u := by
   intro i hi
   obtain ⟨cs', h1, h2⟩ := hall i (by omega)
   rw [hs] at h1
   obtain ⟨y, hy⟩ := ho h2
   refine ⟨y, cs', hy, fun q u hu' => ?_⟩
   obtain ⟨_, _, hc⟩ := World.cells?_some h1
   have hq : q < k.sz := by
    have := (List.getElem?_eq_some_iff.1 hu').1
    rwa [k.K_len hy] at this
   have := (hc q hq).trans hu'
   rw [show x.add (i * k.sz + q) = (x.add (i * k.sz)).add q from (Addr.add_add x (i * k.sz) q).symm]
   exact this
  obtain ⟨f, hfun⟩ : ∃ f : Nat → α, ∀ i, i < l → ∃ cs' : List Value, k.K W (f i) cs' ∧ ∀ q u, cs'[q]? = some u → W.cell? (x.add (i * k.sz + q)) = some u := by
   refine ⟨fun i => if h : i < l then (each i h).choose else z, fun i hi => ?_⟩
   simp only [dif_pos hi]
   exact (each i hi).choose_spec
  refine ⟨some x, l, c, (List.range l).map f, rfl, ⟨by simp, hl, ⟨by simp, ?_, fun _ => ⟨x, rfl, fun i y hy => ?_⟩⟩⟩⟩
  ·unfold maxLen at hm; omega
  ·have hi : i < l := by
    rcases Nat.lt_or_ge i l with h | h
    ·exact h
    ·rw [List.getElem?_eq_none (by simpa using h)] at hy; cases hy
   rw [List.getElem?_map, List.getElem?_range hi] at hy
   obtain rfl := Option.some.inj hy
   obtain ⟨cs', hk, hcell⟩ := hfun i hi
   exact ⟨cs', k.K_len hk, hk, hcell⟩
end Go.Proofs.YtljipbmmgcccnaaGreat.T
end
section
namespace Go.Proofs.YtljipbmmgcccnaaGreat.T
open Go.RowKit Go.Proofs.YtljipbmmgcccnaaGreatW.PrintWords Go.Proofs.YtljipbmmgcccnaaGreatW.PrintLast Go.Proofs.YtljipbmmgcccnaaGreatW.PrintMore
attribute [local go_sem] cell_tc frozen_tc max2_int min2_int
attribute [local go_sem ↓] Go.wp_at_zero Go.wp_at_succ
set_option linter.unusedVariables false
set_option linter.unusedSimpArgs false
set_option synthInstance.maxHeartbeats 400000
set_option synthInstance.maxSize 512
section
attribute [local go_sem] cell_tc2
attribute [local go_sem high] eqA46 eqA98 eqA77 eqA48
theorem all_step {α : Type} {p : α → Bool} {l : List α} {i : Nat} (h : i < l.length) (ha : (l.take i).all p = true) (hp : p l[i] = true) : (l.take (i + 1)).all p = true := by
 rw [List.take_succ_eq_append_getElem h, List.all_append, ha]
 simp [hp]
theorem all_stop {α : Type} {p : α → Bool} {l : List α} {i : Nat} (h : i < l.length) (hp : p l[i] = false) : l.all p = false := by
 rw [List.all_eq_false]
 exact ⟨l[i], List.getElem_mem h, by rw [hp]; exact Bool.false_ne_true⟩
theorem any_stop {α : Type} {p : α → Bool} {l : List α} {i : Nat} (h : i < l.length) (hp : p l[i] = true) : l.any p = true := List.any_eq_true.2 ⟨l[i], List.getElem_mem h, hp⟩
theorem any_step {α : Type} {p : α → Bool} {l : List α} {i : Nat} (h : i < l.length) (ha : (l.take i).any p = false) (hp : p l[i] = false) : (l.take (i + 1)).any p = false := by
 rw [List.take_succ_eq_append_getElem h, List.any_append, ha]
 simp [hp]
theorem placeB_le (x : Int) : placeB x = (decide (0 ≤ x) && decide (x ≤ 255)) := by
 unfold placeB
 rw [Bool.decide_and]
 congr 1
 exact decide_eq_decide.2 (by omega)
theorem refByte1_ {x : Int} {w : World} : Calls Tryz.prog 138 #[.int .i64 x] w fun e w' => e = .returned (.bool (placeB x)) ∧ BelL w w' := by
 rw [placeB_le]
 cases h : decide (0 ≤ x)
 all_goals
  go_enter Tryz.func138, Tryz.ntmps138
  go_wp2
  go_ret
  exact ⟨rfl, belL⟩
theorem refByte16_ {x : Int} {w : World} : Calls Tryz.prog 156 #[.int .i64 x] w fun e w' => e = .returned (.bool (placeB x)) ∧ BelL w w' := by
 rw [placeB_le]
 cases h : decide (0 ≤ x)
 all_goals
  go_enter Tryz.func156, Tryz.ntmps156
  go_wp2
  go_ret
  exact ⟨rfl, belL⟩
theorem refVer_ {c x : Int} {w : World} : Calls Tryz.prog 139 #[.agg #[.int .i64 c, .int .i64 x]] w fun e w' => e = .returned (.bool (verB c x)) ∧ BelL w w' := by
 rw [show verB c x = (decide (1 ≤ c) && decide (c ≤ 65535) && placeB x) by unfold verB; rw [Bool.decide_and]]
 cases h1 : decide (1 ≤ c) <;> cases h2 : decide (c ≤ 65535)
 all_goals
  go_enter Tryz.func139, Tryz.ntmps139
  go_wp2_with (first | (with_reducible refine box_tc rfl (N := 1) rfl (cs := #[.int .i64 c, .int .i64 x]) (t := 46) ?hr ?_; (case hr => go_simp <;> rfl); intro g1 wg1 _ _ _) | (go_at_call 155; (with_reducible refine Calls.mono refPlace_ ?_); rintro e w' ⟨rfl, ⟨nd, rfl⟩⟩))
  go_ret
  exact ⟨rfl, belL⟩
set_option maxHeartbeats 1000000 in
theorem refItem_ {k c x v : Int} {g : Bool} {w : World} : Calls Tryz.prog 85 #[.agg #[.int .i64 k, .int .i64 c, .int .i64 x, .int .i64 v, .bool g]] w fun e w' => e = .returned (.bool (itemB k c x v g)) ∧ BelL w w' := by
 unfold itemB
 cases h1 : placeB k
 ·go_enter Tryz.func85, Tryz.ntmps85
  go_wp2_with (first | (with_reducible refine box_tc rfl (N := 1) rfl (cs := #[.int .i64 k, .int .i64 c, .int .i64 x, .int .i64 v, .bool _]) (t := 48) ?hr ?_; (case hr => go_simp <;> rfl); intro g1 wg1 _ _ _) | (go_at_call 138; (with_reducible refine Calls.mono refByte1_ ?_); (first | rw [h1] | rw [h2]); rintro e wb ⟨rfl, hb⟩) | (go_at_call 139; (with_reducible refine Calls.mono refVer_ ?_); rw [h3]; rintro e wb ⟨rfl, hb⟩))
  go_ret
  exact ⟨rfl, belL⟩
 cases h2 : placeB v
 ·go_enter Tryz.func85, Tryz.ntmps85
  go_wp2_with (first | (with_reducible refine box_tc rfl (N := 1) rfl (cs := #[.int .i64 k, .int .i64 c, .int .i64 x, .int .i64 v, .bool _]) (t := 48) ?hr ?_; (case hr => go_simp <;> rfl); intro g1 wg1 _ _ _) | (go_at_call 138; (with_reducible refine Calls.mono refByte1_ ?_); (first | rw [h1] | rw [h2]); rintro e wb ⟨rfl, hb⟩) | (go_at_call 139; (with_reducible refine Calls.mono refVer_ ?_); rw [h3]; rintro e wb ⟨rfl, hb⟩))
  go_ret
  exact ⟨rfl, belL⟩
 cases h3 : verB c x
 ·go_enter Tryz.func85, Tryz.ntmps85
  go_wp2_with (first | (with_reducible refine box_tc rfl (N := 1) rfl (cs := #[.int .i64 k, .int .i64 c, .int .i64 x, .int .i64 v, .bool _]) (t := 48) ?hr ?_; (case hr => go_simp <;> rfl); intro g1 wg1 _ _ _) | (go_at_call 138; (with_reducible refine Calls.mono refByte1_ ?_); (first | rw [h1] | rw [h2]); rintro e wb ⟨rfl, hb⟩) | (go_at_call 139; (with_reducible refine Calls.mono refVer_ ?_); rw [h3]; rintro e wb ⟨rfl, hb⟩))
  go_ret
  exact ⟨rfl, belL⟩
 cases g
 ·go_enter Tryz.func85, Tryz.ntmps85
  go_wp2_with (first | (with_reducible refine box_tc rfl (N := 1) rfl (cs := #[.int .i64 k, .int .i64 c, .int .i64 x, .int .i64 v, .bool _]) (t := 48) ?hr ?_; (case hr => go_simp <;> rfl); intro g1 wg1 _ _ _) | (go_at_call 138; (with_reducible refine Calls.mono refByte1_ ?_); (first | rw [h1] | rw [h2]); rintro e wb ⟨rfl, hb⟩) | (go_at_call 139; (with_reducible refine Calls.mono refVer_ ?_); rw [h3]; rintro e wb ⟨rfl, hb⟩))
  go_ret
  exact ⟨rfl, belL⟩
 ·go_enter Tryz.func85, Tryz.ntmps85
  go_wp2_with (first | (with_reducible refine box_tc rfl (N := 1) rfl (cs := #[.int .i64 k, .int .i64 c, .int .i64 x, .int .i64 v, .bool _]) (t := 48) ?hr ?_; (case hr => go_simp <;> rfl); intro g1 wg1 _ _ _) | (go_at_call 138; (with_reducible refine Calls.mono refByte1_ ?_); (first | rw [h1] | rw [h2]); rintro e wb ⟨rfl, hb⟩) | (go_at_call 139; (with_reducible refine Calls.mono refVer_ ?_); rw [h3]; rintro e wb ⟨rfl, hb⟩))
  go_ret
  exact ⟨rfl, belL⟩
theorem refPlaces_ {A : Option Addr} {n c : Nat} {l : List Int} {w : World} [h : Sr kI w A n c l] :
 Calls Tryz.prog 205 #[.slice A n c] w fun e w' => e = .returned (.bool (placesB l)) ∧ BelL w w' := by
 obtain rfl := h.len
 have HS := sr_l h
 have hlen : l.length ≤ 9223372036854775807 := h.C.2.1
 clear h
 go_enter Tryz.func205, Tryz.ntmps205
 go_wp2
 go_loopg [3] l.length (fun kq v3 w' => ∃ i : Nat, v3 = .int .i64 i ∧ i ≤ l.length ∧ kq = l.length - i ∧ Aside0 ((l.take i).all placeB = true) ∧ BelL w w')
 case atStart => exact ⟨0, rfl, Nat.zero_le _, rfl, ⟨rfl⟩, belL⟩
 case round =>
  obtain ⟨i, rfl, hi, rfl, HA, hbr⟩ := hrel
  by_cases hlt : i < l.length
  ·obtain ⟨ad, rfl, hx⟩ := el_I (W := wr) (A := A) (n := l.length) (c := c) (l := l) i hlt
   cases h1 : placeB l[i]
   ·have HF := Aside0.mk (show placesB l = false from all_stop hlt h1)
    go_wp2_with (first | (go_at_call 155; (with_reducible refine Calls.mono refPlace_ ?_); rintro e w' ⟨rfl, ⟨nd, rfl⟩⟩; rw [h1]))
    go_ret
    exact ⟨by rw [HF.out]; rfl, belL⟩
   ·have HT := Aside0.mk (all_step hlt HA.out h1)
    go_wp2_with (first | (go_at_call 155; (with_reducible refine Calls.mono refPlace_ ?_); rintro e w' ⟨rfl, ⟨nd, rfl⟩⟩; rw [h1]))
    go_roundg (l.length - (i + 1))
    case measure => omega
    case rel => exact ⟨i + 1, by go_num, by omega, rfl, HT, belL⟩
  ·have HT := Aside0.mk (show placesB l = true by
    have := HA.out
    rwa [List.take_of_length_le (by omega)] at this)
   go_wp2
   go_ret
   exact ⟨by rw [HT.out]; rfl, belL⟩
theorem refHas_ {x : Int} {A : Option Addr} {n c : Nat} {l : List Int} {w : World} [h : Sr kI w A n c l] :
 Calls Tryz.prog 185 #[.slice A n c, .int .i64 x] w fun e w' => e = .returned (.bool (memB l x)) ∧ BelL w w' := by
 obtain rfl := h.len
 have HS := sr_l h
 have hlen : l.length ≤ 9223372036854775807 := h.C.2.1
 clear h
 go_enter Tryz.func185, Tryz.ntmps185
 go_wp2
 go_loopg [5] l.length (fun kq v5 w' => ∃ i : Nat, v5 = .int .i64 i ∧ i ≤ l.length ∧ kq = l.length - i ∧ Aside0 ((l.take i).any (fun y => y == x) = false) ∧ BelL w w')
 case atStart => exact ⟨0, rfl, Nat.zero_le _, rfl, ⟨rfl⟩, belL⟩
 case round =>
  obtain ⟨i, rfl, hi, rfl, HA, hbr⟩ := hrel
  by_cases hlt : i < l.length
  ·obtain ⟨ad, rfl, hx⟩ := el_I (W := wr) (A := A) (n := l.length) (c := c) (l := l) i hlt
   cases h1 : (l[i] == x)
   ·have HT := Aside0.mk (any_step (p := fun y => y == x) hlt HA.out h1)
    go_wp2
    go_roundg (l.length - (i + 1))
    case measure => omega
    case rel => exact ⟨i + 1, by go_num, by omega, rfl, HT, belL⟩
   ·have HF := Aside0.mk (show memB l x = true from any_stop (p := fun y => y == x) hlt h1)
    go_wp2
    go_ret
    exact ⟨by rw [HF.out]; rfl, belL⟩
  ·have HT := Aside0.mk (show memB l x = false by
    have := HA.out
    rwa [List.take_of_length_le (by omega)] at this)
   go_wp2
   go_ret
   exact ⟨by rw [HT.out]; rfl, belL⟩
theorem refFar_ {a b : Int} {w : World} (ha : placeB a = true) (hb : placeB b = true) :
 Calls Tryz.prog 204 #[.int .i64 a, .int .i64 b] w fun e w' => e = .returned (.int .i64 (farI a b)) ∧ BelL w w' := by
 obtain ⟨a0, a1⟩ := (placeB_iff a).1 ha
 obtain ⟨b0, b1⟩ := (placeB_iff b).1 hb
 have HX := Aside0.mk (show (b - a + 256) % 256 = farI a b by unfold farI; omega)
 clear ha hb
 go_enter Tryz.func204, Tryz.ntmps204
 go_wp2
 go_ret
 exact ⟨by rw [← HX.out]; rfl, belL⟩
def farG (a b : Int) : Int := (wrap64 (wrap64 (b - a) + 256)).tmod 256
theorem refFarAny_ {a b : Int} {w : World} :
 Calls Tryz.prog 204 #[.int .i64 a, .int .i64 b] w fun e w' => e = .returned (.int .i64 (farG a b)) ∧ BelL w w' := by
 go_enter Tryz.func204, Tryz.ntmps204
 go_wp2
 go_ret
 exact ⟨rfl, belL⟩
end
section
attribute [local go_sem] cell_tc2
section
variable {ops : Array Oper} {rest : List Oper} {o : Oper} {a : Act} {Q : Exit → Act → World → Prop} {α : Type}
theorem app_big {k : Kd α} {e b : Nat} {S : Nat → Prop} {W : World} {A B : Option Addr} {n c m d : Nat} {xs ys : List α} {s x : Operand} {t : Nat}
 (hgd : o.guard = none) (ho : o.op = .call { callee := .builtin .append, args := #[s, x], argTypes := #[t, t] }) (ht : Tryz.prog.underlying t = some (.slice e)) (hs : a.eval s = .slice A n c) (hx : a.eval x = .slice B m d)
 [he : ElT k e] [hf : Flat k] [h : Fr k e W b S A n c xs] [HR : Sr k W B m d ys] [hb : LeB b W.heap.size] (hl : (n + m) * Tryz.prog.bytesOf e ≤ 140737488355328)
 (hk : ∀ A' c' w1, FrL k e w1 b Any A' (n + m) c' (xs ++ ys) → BbL b W w1 → GrL e W w1 → wpList Tryz.prog ops Q rest (a.put o.dst (.slice A' (n + m) c')) w1) : wpList Tryz.prog ops Q (o :: rest) a W := by
 obtain ⟨z, bytes, hi, hz, hs0, hb0, hb1⟩ := he.out
 have hlen := h.len
 have hm : ys.length = m := HR.C.1
 have hby : Tryz.prog.bytesOf e = bytes := by
  unfold Program.bytesOf
  obtain ⟨i, hi1, hi2⟩ := Option.map_eq_some_iff.1 hi
  simp only [Prod.mk.injEq] at hi2
  rw [hi1]
  exact hi2.2.2
 rw [hby] at hl
 refine Kd.R_append_rows k (Rr := k.K W) (w0 := W) b hgd s x t e z bytes ho ht hi hz hs0 hb0 (.slice A n c) xs ys B m d (fun _ => True) (fun _ => False) hs hx h.any HR.C (fun x cs hx => hf.out _ _ _ _ _ hx) (fun j hj => hj.elim) (fun _ _ => trivial) (Below.mono (Below.refl _ _) hb.out) hb.out ?_ ?_
 ·rw [hlen]; exact hl
 ·intro v1 w1 hR hB hg _
  obtain ⟨A', c', rfl, hc', _⟩ := Kd.R_reads hR
  have e1 : (xs ++ ys).length = n + m := by rw [List.length_append]; omega
  rw [e1] at hR hc' ⊢
  exact hk A' c' w1 ⟨e1, hc', hR⟩ (bb_of_grown h.any hb.out hg) ⟨_, hg, fun j hj => Kd.R_typed h.any j hj⟩
end
theorem by3 : Tryz.prog.bytesOf 3 = 8 := by kernel_rfl
end
section
attribute [local go_sem] cell_tc2
attribute [local go_sem high] eqA46 eqA98 eqA77 eqA48
set_option maxRecDepth 100000 in
set_option maxHeartbeats 4000000 in
theorem refStore_ {A : Option Addr} {n c : Nat} {l : List S48} {w : World} [h : Sr k48 w A n c l] :
 Calls Tryz.prog 84 #[.slice A n c] w fun e w' => e = .returned (.bool (storeB l)) ∧ BelL w w' := by
 obtain rfl := h.len
 have HS := sr_l h
 have hlen : l.length ≤ 9223372036854775807 := h.C.2.1
 clear h
 go_enter Tryz.func84, Tryz.ntmps84
 go_wp2
 go_loopg [3] l.length (fun kq v3 w' => ∃ i : Nat, v3 = .int .i64 i ∧ i ≤ l.length ∧ kq = l.length - i ∧ Aside0 ((List.range i).all (storeAt l) = true) ∧ BelL w w')
 case atStart => exact ⟨0, rfl, Nat.zero_le _, rfl, ⟨by simp⟩, belL⟩
 case round =>
  obtain ⟨i, rfl, hi, rfl, HA, hbr⟩ := hrel
  by_cases hlt : i < l.length
  ·obtain ⟨ad, rfl, hx0, hx1, hx2, hx3, hx4⟩ := el_T48 (W := wr) (A := A) (n := l.length) (c := c) (l := l) i hlt
   cases h1 : itemB l[i].f0 l[i].f1.f0 l[i].f1.f1 l[i].f2 l[i].f3
   ·have HF := Aside0.mk (show storeB l = false by unfold storeB; rw [range_no hlt (storeAt_no1 hlt h1)]; rfl)
    go_upto_region 4 with (fail)
    (refine wp_region_bel (by kernel_rfl) (by kernel_rfl) ?_; (repeat (first | go_big_quiet_skip | (go_big_quiet_want; first | (go_big_quiet_op; go_big_quiet_on) | (apply Exists.intro; refine ⟨fun wq hq => ?_, ?_⟩; (focus (unfold Oper.quietAt; go_simp; first | done | exact ⟨rfl, rfl⟩ | exact rfl | (first | (go_at_call 85; refine Calls.mono (refItem_) ?_; rintro e w1 ⟨rfl, hb⟩; exact ⟨by rw [h1], belL⟩)))); (try simp only [Act.put, put3]); go_big_quiet_on)))); refine wpQuiet_nil ?_; intro w7 hb7)
    all_goals
     go_wp2
     go_ret
     exact ⟨by rw [HF.out]; rfl, belL⟩
   ·by_cases h0 : i = 0
    ·have HT := Aside0.mk (range_all HA.out (storeAt_yes hlt h1 (.inl h0)))
     have hgt : decide ((0 : Int) < (i : Int)) = false := decide_eq_false (by omega)
     have hgn : decide (0 < i) = false := decide_eq_false (by omega)
     clear h0
     go_upto_region 4 with (fail)
     (refine wp_region_bel (by kernel_rfl) (by kernel_rfl) ?_; (repeat (first | go_big_quiet_skip | (go_big_quiet_want; first | (go_big_quiet_op; go_big_quiet_on) | (apply Exists.intro; refine ⟨fun wq hq => ?_, ?_⟩; (focus (unfold Oper.quietAt; go_simp; first | done | exact ⟨rfl, rfl⟩ | exact rfl | (first | (go_at_call 85; refine Calls.mono (refItem_) ?_; rintro e w1 ⟨rfl, hb⟩; exact ⟨by rw [h1], belL⟩)))); (try simp only [Act.put, put3]); go_big_quiet_on)))); refine wpQuiet_nil ?_; intro w7 hb7)
     all_goals
      go_wp2
      go_roundg (l.length - (i + 1))
      case measure => omega
      case rel => exact ⟨i + 1, by go_num, by omega, rfl, HT, belL⟩
    ·have hgt : decide ((0 : Int) < (i : Int)) = true := decide_eq_true (by omega)
     have hgn : decide (0 < i) = true := decide_eq_true (by omega)
     obtain ⟨ad', he, hy0, hy1, hy2, hy3, hy4⟩ := el_T48 (W := wr) (A := some ad) (n := l.length) (c := c) (l := l) (i - 1) (by omega)
     obtain rfl := Option.some.inj he
     have e1 : (i : Int) - 1 = ((i - 1 : Nat) : Int) := by omega
     have e1w : IntKind.i64.wrap ((i - 1 : Nat) : Int) = ((i - 1 : Nat) : Int) := IntWalk.i64_in _ (by omega)
     have hj1 : i - 1 < l.length := by omega
     have e2 : l.getD (i - 1) z48 = l[i - 1] := getD48 (by omega)
     by_cases h2 : l[i - 1].f0 < l[i].f0
     ·have HT := Aside0.mk (range_all HA.out (storeAt_yes hlt h1 (.inr (by rw [e2]; exact h2))))
      have h3 : decide (l[i].f0 ≤ l[i - 1].f0) = false := decide_eq_false (by omega)
      clear e2
      go_upto_region 4 with (fail)
      (refine wp_region_bel (by kernel_rfl) (by kernel_rfl) ?_; (repeat (first | go_big_quiet_skip | (go_big_quiet_want; first | (go_big_quiet_op; go_big_quiet_on) | (apply Exists.intro; refine ⟨fun wq hq => ?_, ?_⟩; (focus (unfold Oper.quietAt; go_simp; first | done | exact ⟨rfl, rfl⟩ | exact rfl | (first | (go_at_call 85; refine Calls.mono (refItem_) ?_; rintro e w1 ⟨rfl, hb⟩; exact ⟨by rw [h1], belL⟩)))); (try simp only [Act.put, put3]); go_big_quiet_on)))); refine wpQuiet_nil ?_; intro w7 hb7)
      all_goals
       go_wp2
       go_roundg (l.length - (i + 1))
       case measure => omega
       case rel => exact ⟨i + 1, by go_num, by omega, rfl, HT, belL⟩
     ·have HF := Aside0.mk (show storeB l = false by unfold storeB; rw [range_no hlt (storeAt_no2 hlt h0 (by rw [e2]; exact h2))]; rfl)
      have h3 : decide (l[i].f0 ≤ l[i - 1].f0) = true := decide_eq_true (by omega)
      clear e2
      go_upto_region 4 with (fail)
      (refine wp_region_bel (by kernel_rfl) (by kernel_rfl) ?_; (repeat (first | go_big_quiet_skip | (go_big_quiet_want; first | (go_big_quiet_op; go_big_quiet_on) | (apply Exists.intro; refine ⟨fun wq hq => ?_, ?_⟩; (focus (unfold Oper.quietAt; go_simp; first | done | exact ⟨rfl, rfl⟩ | exact rfl | (first | (go_at_call 85; refine Calls.mono (refItem_) ?_; rintro e w1 ⟨rfl, hb⟩; exact ⟨by rw [h1], belL⟩)))); (try simp only [Act.put, put3]); go_big_quiet_on)))); refine wpQuiet_nil ?_; intro w7 hb7)
      all_goals
       go_wp2
       go_ret
       exact ⟨by rw [HF.out]; rfl, belL⟩
  ·have HT := Aside0.mk (show storeB l = decide ((l.length : Int) ≤ 16) by
    have e : i = l.length := by omega
    have := HA.out
    rw [e] at this
    unfold storeB; rw [this, Bool.true_and]; exact decide_eq_decide.2 (by omega))
   go_wp2
   go_ret
   exact ⟨by rw [HT.out]; rfl, belL⟩
def riseAt (l : List Int) (i : Nat) : Bool := decide (i = 0) || decide (l.getD (i - 1) 0 < l.getD i 0)
theorem pass_split (l : List Int) : passB l = ((List.range l.length).all (riseAt l) && (placesB l && decide (l.length ≤ 16))) := by
 rw [Bool.eq_iff_iff, passB_iff]
 simp only [Bool.and_eq_true, List.all_eq_true, List.mem_range, decide_eq_true_eq]
 constructor
 ·rintro ⟨h1, h2, h3⟩
  refine ⟨fun i hi => ?_, List.all_eq_true.2 h2, h1⟩
  unfold riseAt
  by_cases h0 : i = 0
  ·simp [h0]
  ·rw [getD_at hi, getD_at (by omega)]
   have := List.pairwise_iff_getElem.1 h3 (i - 1) i (by omega) hi (by omega)
   simp only at this
   simp [this]
 ·rintro ⟨h1, h2, h3⟩
  refine passB_iff.1 ?_
  unfold passB
  simp only [Bool.and_eq_true, List.all_eq_true, List.mem_range, decide_eq_true_eq]
  refine ⟨fun i hi => ?_, h3⟩
  refine passAt_of (by rw [getD_at hi]; exact List.all_eq_true.1 h2 _ (List.getElem_mem hi)) ?_
  have := h1 i hi
  unfold riseAt at this
  simpa using this
set_option maxRecDepth 100000 in
set_option maxHeartbeats 4000000 in
theorem refPass_ {A : Option Addr} {n c : Nat} {l : List Int} {w : World} [h : Sr kI w A n c l] :
 Calls Tryz.prog 187 #[.slice A n c] w fun e w' => e = .returned (.bool (passB l)) ∧ BelL w w' := by
 obtain rfl := h.len
 have HS := sr_l h
 have hlen : l.length ≤ 9223372036854775807 := h.C.2.1
 clear h
 go_enter Tryz.func187, Tryz.ntmps187
 go_wp2
 go_loopg [3] l.length (fun kq v3 w' => ∃ i : Nat, v3 = .int .i64 i ∧ 1 ≤ i ∧ i ≤ l.length + 1 ∧ kq = l.length + 1 - i ∧ Aside0 ((List.range i).all (riseAt l) = true) ∧ BelL w w')
 case atStart => exact ⟨1, rfl, Nat.le_refl 1, by omega, by omega, ⟨by simp [riseAt]⟩, belL⟩
 case round =>
  obtain ⟨i, rfl, hi1, hi, rfl, HA, hbr⟩ := hrel
  by_cases hlt : i < l.length
  ·obtain ⟨ad, rfl, hx0⟩ := el_I (W := wr) (A := A) (n := l.length) (c := c) (l := l) i hlt
   obtain ⟨ad', he, hy0⟩ := el_I (W := wr) (A := some ad) (n := l.length) (c := c) (l := l) (i - 1) (by omega)
   obtain rfl := Option.some.inj he
   have e1 : (i : Int) - 1 = ((i - 1 : Nat) : Int) := by omega
   have e1w : IntKind.i64.wrap ((i - 1 : Nat) : Int) = ((i - 1 : Nat) : Int) := IntWalk.i64_in _ (by omega)
   have hj1 : i - 1 < l.length := by omega
   have HE := Aside0.mk (show riseAt l i = decide (l[i - 1] < l[i]) by
    unfold riseAt
    rw [getD_at hlt, getD_at hj1, decide_eq_false (show ¬ i = 0 by omega), Bool.false_or])
   by_cases h2 : l[i - 1] < l[i]
   ·have HT := Aside0.mk (range_all HA.out (HE.out.trans (decide_eq_true h2)))
    have h3 : decide (l[i] ≤ l[i - 1]) = false := decide_eq_false (by omega)
    go_upto_region 4 with (fail)
    (refine wp_region_bel (by kernel_rfl) (by kernel_rfl) ?_; (repeat (first | go_big_quiet_skip | (go_big_quiet_want; first | (go_big_quiet_op; go_big_quiet_on) | (apply Exists.intro; refine ⟨fun wq hq => ?_, ?_⟩; (focus (unfold Oper.quietAt; go_simp; first | done | exact ⟨rfl, rfl⟩ | exact rfl)); (try simp only [Act.put, put3]); go_big_quiet_on)))); refine wpQuiet_nil ?_; intro w7 hb7)
    all_goals
     go_wp2
     go_roundg (l.length + 1 - (i + 1))
     case measure => omega
     case rel => exact ⟨i + 1, by go_num, by omega, by omega, rfl, HT, belL⟩
   ·have HF := Aside0.mk (show passB l = false by rw [pass_split, range_no hlt (HE.out.trans (decide_eq_false h2))]; rfl)
    have h3 : decide (l[i] ≤ l[i - 1]) = true := decide_eq_true (by omega)
    go_upto_region 4 with (fail)
    (refine wp_region_bel (by kernel_rfl) (by kernel_rfl) ?_; (repeat (first | go_big_quiet_skip | (go_big_quiet_want; first | (go_big_quiet_op; go_big_quiet_on) | (apply Exists.intro; refine ⟨fun wq hq => ?_, ?_⟩; (focus (unfold Oper.quietAt; go_simp; first | done | exact ⟨rfl, rfl⟩ | exact rfl)); (try simp only [Act.put, put3]); go_big_quiet_on)))); refine wpQuiet_nil ?_; intro w7 hb7)
    all_goals
     go_wp2
     go_ret
     exact ⟨by rw [HF.out]; rfl, belL⟩
  ·have HT := Aside0.mk (show passB l = (placesB l && decide ((l.length : Int) ≤ 16)) by
    have hr : (List.range l.length).all (riseAt l) = true := by
     have := HA.out
     simp only [List.all_eq_true, List.mem_range] at this ⊢
     exact fun j hj => this j (by omega)
    rw [pass_split, hr, Bool.true_and]
    congr 1
    exact decide_eq_decide.2 (by omega))
   cases h4 : placesB l
   ·have HT2 := Aside0.mk (show passB l = false by rw [HT.out, h4]; rfl)
    go_wp2_with (first | (go_at_call 205; (with_reducible refine cM (refPlaces_ (l := l)) ?_); rw [h4]; rintro e wb ⟨rfl, hb⟩))
    go_ret
    exact ⟨by rw [HT2.out]; rfl, belL⟩
   ·have HT2 := Aside0.mk (show passB l = decide ((l.length : Int) ≤ 16) by rw [HT.out, h4]; rfl)
    go_wp2_with (first | (go_at_call 205; (with_reducible refine cM (refPlaces_ (l := l)) ?_); rw [h4]; rintro e wb ⟨rfl, hb⟩))
    go_ret
    exact ⟨by rw [HT2.out]; rfl, belL⟩
set_option maxHeartbeats 1000000 in
theorem refNames_ {A : Option Addr} {n c : Nat} {ps : List S98} {w : World} [h : Sr k98 w A n c ps] (hn : n * 16 ≤ 140737488351232) :
 Calls Tryz.prog 114 #[.slice A n c] w fun e w' => ∃ A' c', e = .returned (.slice A' ps.length c') ∧ FrL kI 3 w' w.heap.size (Under w'.heap.size) A' ps.length c' (idsOf ps) ∧ BelL w w' := by
 obtain rfl := h.len
 have HS := sr_l h
 clear h
 go_enter Tryz.func114, Tryz.ntmps114
 go_wp2
 go_loopg [3, 4] ps.length (fun kq v2 v3 w' => ∃ (i : Nat) (A3 : Option Addr) (c3 : Nat), v3 = .int .i64 i ∧ v2 = .slice A3 i c3 ∧ i ≤ ps.length ∧ kq = ps.length - i ∧ FrL kI 3 w' w.heap.size (Under w'.heap.size) A3 i c3 (idsOf (ps.take i)) ∧ BelL w w')
 case atStart => exact ⟨0, none, 0, rfl, rfl, Nat.zero_le _, rfl, frl_nil, belL⟩
 case round =>
  obtain ⟨i, A3, c3, rfl, rfl, hi, rfl, hF, hbr⟩ := hrel
  by_cases hlt : i < ps.length
  ·obtain ⟨ad', rfl, hx0, hx1⟩ := el_T98 (W := wr) (A := A) (n := ps.length) (c := c) (l := ps) i hlt
   have HI := Aside0.mk (idsOf_snoc hlt)
   go_wp2_with (first | (with_reducible refine lit_tc rfl (N := 17) rfl (cs := #[.int .i64 ps[i].f0]) (t := 3) (m := 1) ?hr ?_; (case hr => go_simp <;> rfl); intro g2 wg2 _ _ _) | ((with_reducible refine gate_dst (N := 18) rfl ?_); refine app_big (k := kI) (t := 23) (A := A3) (n := i) (c := c3) (B := some ⟨g2, 0, none⟩) (m := 1) (d := 1) (by rfl) (by rfl) Tryz.underlying23 (by rfl) (by rfl) (by rw [by3]; omega) ?_; intro A4 c4 w4 hf4 hba4 hgr4))
   go_roundg (ps.length - (i + 1))
   case measure => omega
   case rel => exact ⟨i + 1, _, _, by go_num, rfl, by omega, rfl, by rw [HI.out]; exact frl, belL⟩
  ·obtain rfl : i = ps.length := by omega
   rw [List.take_length] at hF
   go_wp2
   go_ret
   exact ⟨_, _, rfl, frl, belL⟩
end
section
attribute [local go_sem] cell_tc2
attribute [local go_sem high] eqA46 eqA98 eqA77 eqA48
theorem refPlaceB_ {x : Int} {w : World} : Calls Tryz.prog 155 #[.int .i64 x] w fun e w' => e = .returned (.bool (placeB x)) ∧ BelL w w' := refPlace_.mono fun _ _ ⟨a, b⟩ => ⟨a, by obtain ⟨n, rfl⟩ := b; exact belL⟩
def refPeerAt (base : Int) (l : List S98) (i : Nat) : Bool := placeB (l.getD i z98).f0 && !((l.getD i z98).f0 == base) && decide (0 ≤ (l.getD i z98).f1) && decide ((l.getD i z98).f1 < 3) && (decide (i = 0) || decide (farI base (l.getD (i - 1) z98).f0 < farI base (l.getD i z98).f0))
theorem peers_split (base : Int) (l : List S98) : peersB base l = ((List.range l.length).all (refPeerAt base l) && (placeB base && decide (l.length ≤ 16))) := by
 rw [Bool.eq_iff_iff, peersB_iff]
 simp only [Bool.and_eq_true, List.all_eq_true, List.mem_range, decide_eq_true_eq]
 constructor
 ·rintro ⟨h1, h2, h3, h4⟩
  refine ⟨fun i hi => ?_, h1, h2⟩
  obtain ⟨a, b, c, d⟩ := h3 l[i] (List.getElem_mem hi)
  unfold refPeerAt
  rw [peer_getD hi]
  have hd : (l[i].f0 == base) = false := by simpa using d
  rw [a, hd, decide_eq_true b, decide_eq_true c]
  by_cases h0 : i = 0
  ·simp [h0]
  ·rw [peer_getD (by omega)]
   have := List.pairwise_iff_getElem.1 h4 (i - 1) i (by omega) hi (by omega)
   simp only at this
   simp [this]
 ·rintro ⟨h1, h2, h3⟩
  have hat : ∀ (i : Nat) (hi : i < l.length), placeB l[i].f0 = true ∧ 0 ≤ l[i].f1 ∧ l[i].f1 < 3 ∧ l[i].f0 ≠ base ∧ (i = 0 ∨ farI base (l.getD (i - 1) z98).f0 < farI base l[i].f0) := by
   intro i hi
   have h := h1 i hi
   unfold refPeerAt at h
   rw [peer_getD hi] at h
   simp only [Bool.and_eq_true, Bool.or_eq_true, decide_eq_true_eq, Bool.not_eq_true', beq_eq_false_iff_ne] at h
   exact ⟨h.1.1.1.1, h.1.1.2, h.1.2, h.1.1.1.2, h.2⟩
  have hst : ∀ (d i : Nat) (hj : i + d + 1 < l.length), farI base (l[i]'(by omega)).f0 < farI base l[i + d + 1].f0 := by
   intro d
   induction d with
   | zero =>
     intro i hj
     have := (hat (i + 1) (by omega)).2.2.2.2.resolve_left (by omega)
     rw [show i + 1 - 1 = i by omega, peer_getD (by omega)] at this
     exact this
   | succ d ih =>
     intro i hj
     have h5 := ih i (by omega)
     have := (hat (i + d + 2) (by omega)).2.2.2.2.resolve_left (by omega)
     rw [show i + d + 2 - 1 = i + d + 1 by omega, peer_getD (by omega)] at this
     have e : l[i + (d + 1) + 1] = l[i + d + 2] := rfl
     rw [e]
     omega
  refine ⟨h2, h3, fun p hp => ?_, ?_⟩
  ·obtain ⟨i, hi, rfl⟩ := List.getElem_of_mem hp
   obtain ⟨a, b, c, d, _⟩ := hat i hi
   exact ⟨a, b, c, d⟩
  ·refine List.pairwise_iff_getElem.2 fun i j hi hj hij => ?_
   obtain ⟨d, rfl⟩ : ∃ d, j = i + d + 1 := ⟨j - i - 1, by omega⟩
   exact hst d i hj
set_option maxRecDepth 100000 in
set_option maxHeartbeats 16000000 in
theorem refPeers_a {base : Int} {A : Option Addr} {n c : Nat} {l : List S98} {w : World} [h : Sr k98 w A n c l] (hb0 : placeB base = true) :
 Calls Tryz.prog 186 #[.int .i64 base, .slice A n c] w fun e w' => e = .returned (.bool (peersB base l)) ∧ BelL w w' := by
 obtain rfl := h.len
 have HS := sr_l h
 have hlen : l.length ≤ 9223372036854775807 := h.C.2.1
 clear h
 have HB := Aside0.mk hb0
 go_enter Tryz.func186, Tryz.ntmps186
 go_wp2
 go_loopg [5] l.length (fun kq v5 w' => ∃ i : Nat, v5 = .int .i64 i ∧ i ≤ l.length ∧ kq = l.length - i ∧ Aside0 ((List.range i).all (refPeerAt base l) = true) ∧ BelL w w')
 case atStart => exact ⟨0, rfl, Nat.zero_le _, rfl, ⟨by simp⟩, belL⟩
 case round =>
  obtain ⟨i, rfl, hi, rfl, HA, hbr⟩ := hrel
  by_cases hlt : i < l.length
  ·obtain ⟨ad, rfl, hx0, hx1⟩ := el_T98 (W := wr) (A := A) (n := l.length) (c := c) (l := l) i hlt
   cases h1 : placeB l[i].f0
   ·have HF := Aside0.mk (show peersB base l = false by rw [peers_split, range_no hlt (by unfold refPeerAt; rw [peer_getD hlt]; simp [h1])]; rfl)
    go_upto_region 4 with (fail)
    (refine wp_region_bel (by kernel_rfl) (by kernel_rfl) ?_; (repeat (first | go_big_quiet_skip | (go_big_quiet_want; first | (go_big_quiet_op; go_big_quiet_on) | (apply Exists.intro; refine ⟨fun wq hq => ?_, ?_⟩; (focus (unfold Oper.quietAt; go_simp; first | done | exact ⟨rfl, rfl⟩ | exact rfl | (first | (go_at_call 155; refine Calls.mono (refPlaceB_) ?_; rintro e w1 ⟨rfl, hb⟩; exact ⟨by rw [h1], belL⟩) | (go_at_call 204; refine Calls.mono (refFar_ HB.out (by first | exact h1 | exact hp1)) ?_; rintro e w1 ⟨rfl, hb⟩; exact ⟨rfl, belL⟩)))); (try simp only [Act.put, put3]); go_big_quiet_on)))); refine wpQuiet_nil ?_; intro w7 hb7)
    all_goals
     go_wp2
     go_ret
     exact ⟨by rw [HF.out]; rfl, belL⟩
   rcases Bool.eq_false_or_eq_true ((l[i].f0 == base)) with h2 | h2
   ·have HF := Aside0.mk (show peersB base l = false by rw [peers_split, range_no hlt (by unfold refPeerAt; rw [peer_getD hlt]; simp [h1, h2])]; rfl)
    go_upto_region 4 with (fail)
    (refine wp_region_bel (by kernel_rfl) (by kernel_rfl) ?_; (repeat (first | go_big_quiet_skip | (go_big_quiet_want; first | (go_big_quiet_op; go_big_quiet_on) | (apply Exists.intro; refine ⟨fun wq hq => ?_, ?_⟩; (focus (unfold Oper.quietAt; go_simp; first | done | exact ⟨rfl, rfl⟩ | exact rfl | (first | (go_at_call 155; refine Calls.mono (refPlaceB_) ?_; rintro e w1 ⟨rfl, hb⟩; exact ⟨by rw [h1], belL⟩) | (go_at_call 204; refine Calls.mono (refFar_ HB.out (by first | exact h1 | exact hp1)) ?_; rintro e w1 ⟨rfl, hb⟩; exact ⟨rfl, belL⟩)))); (try simp only [Act.put, put3]); go_big_quiet_on)))); refine wpQuiet_nil ?_; intro w7 hb7)
    all_goals
     go_wp2
     go_ret
     exact ⟨by rw [HF.out]; rfl, belL⟩
   rcases Bool.eq_false_or_eq_true (decide (l[i].f1 < 0)) with h3 | h3
   ·have h3' : ¬ 0 ≤ l[i].f1 := by have := of_decide_eq_true h3; omega
    have HF := Aside0.mk (show peersB base l = false by rw [peers_split, range_no hlt (by unfold refPeerAt; rw [peer_getD hlt]; simp [h1, h2, h3'])]; rfl)
    go_upto_region 4 with (fail)
    (refine wp_region_bel (by kernel_rfl) (by kernel_rfl) ?_; (repeat (first | go_big_quiet_skip | (go_big_quiet_want; first | (go_big_quiet_op; go_big_quiet_on) | (apply Exists.intro; refine ⟨fun wq hq => ?_, ?_⟩; (focus (unfold Oper.quietAt; go_simp; first | done | exact ⟨rfl, rfl⟩ | exact rfl | (first | (go_at_call 155; refine Calls.mono (refPlaceB_) ?_; rintro e w1 ⟨rfl, hb⟩; exact ⟨by rw [h1], belL⟩) | (go_at_call 204; refine Calls.mono (refFar_ HB.out (by first | exact h1 | exact hp1)) ?_; rintro e w1 ⟨rfl, hb⟩; exact ⟨rfl, belL⟩)))); (try simp only [Act.put, put3]); go_big_quiet_on)))); refine wpQuiet_nil ?_; intro w7 hb7)
    all_goals
     go_wp2
     go_ret
     exact ⟨by rw [HF.out]; rfl, belL⟩
   have h3' : 0 ≤ l[i].f1 := by have := of_decide_eq_false h3; omega
   rcases Bool.eq_false_or_eq_true (decide (3 ≤ l[i].f1)) with h4 | h4
   ·have h4' : ¬ l[i].f1 < 3 := by have := of_decide_eq_true h4; omega
    have HF := Aside0.mk (show peersB base l = false by rw [peers_split, range_no hlt (by unfold refPeerAt; rw [peer_getD hlt]; simp [h1, h2, h3', h4'])]; rfl)
    go_upto_region 4 with (fail)
    (refine wp_region_bel (by kernel_rfl) (by kernel_rfl) ?_; (repeat (first | go_big_quiet_skip | (go_big_quiet_want; first | (go_big_quiet_op; go_big_quiet_on) | (apply Exists.intro; refine ⟨fun wq hq => ?_, ?_⟩; (focus (unfold Oper.quietAt; go_simp; first | done | exact ⟨rfl, rfl⟩ | exact rfl | (first | (go_at_call 155; refine Calls.mono (refPlaceB_) ?_; rintro e w1 ⟨rfl, hb⟩; exact ⟨by rw [h1], belL⟩) | (go_at_call 204; refine Calls.mono (refFar_ HB.out (by first | exact h1 | exact hp1)) ?_; rintro e w1 ⟨rfl, hb⟩; exact ⟨rfl, belL⟩)))); (try simp only [Act.put, put3]); go_big_quiet_on)))); refine wpQuiet_nil ?_; intro w7 hb7)
    all_goals
     go_wp2
     go_ret
     exact ⟨by rw [HF.out]; rfl, belL⟩
   have h4' : l[i].f1 < 3 := by have := of_decide_eq_false h4; omega
   by_cases h0 : i = 0
   ·have hgt : decide ((0 : Int) < (i : Int)) = false := decide_eq_false (by omega)
    have hgn : decide (0 < i) = false := decide_eq_false (by omega)
    have HT := Aside0.mk (range_all HA.out (show refPeerAt base l i = true by unfold refPeerAt; rw [peer_getD hlt, decide_eq_true h0]; simp [h1, h2, h3', h4']))
    clear h0 h3' h4'
    go_upto_region 4 with (fail)
    (refine wp_region_bel (by kernel_rfl) (by kernel_rfl) ?_; (repeat (first | go_big_quiet_skip | (go_big_quiet_want; first | (go_big_quiet_op; go_big_quiet_on) | (apply Exists.intro; refine ⟨fun wq hq => ?_, ?_⟩; (focus (unfold Oper.quietAt; go_simp; first | done | exact ⟨rfl, rfl⟩ | exact rfl | (first | (go_at_call 155; refine Calls.mono (refPlaceB_) ?_; rintro e w1 ⟨rfl, hb⟩; exact ⟨by rw [h1], belL⟩) | (go_at_call 204; refine Calls.mono (refFar_ HB.out (by first | exact h1 | exact hp1)) ?_; rintro e w1 ⟨rfl, hb⟩; exact ⟨rfl, belL⟩)))); (try simp only [Act.put, put3]); go_big_quiet_on)))); refine wpQuiet_nil ?_; intro w7 hb7)
    all_goals
     go_wp2
     go_roundg (l.length - (i + 1))
     case measure => omega
     case rel => exact ⟨i + 1, by go_num, by omega, rfl, HT, belL⟩
   ·have hgt : decide ((0 : Int) < (i : Int)) = true := decide_eq_true (by omega)
    have hgn : decide (0 < i) = true := decide_eq_true (by omega)
    obtain ⟨ad', he, hy0, hy1⟩ := el_T98 (W := wr) (A := some ad) (n := l.length) (c := c) (l := l) (i - 1) (by omega)
    obtain rfl := Option.some.inj he
    have e1 : (i : Int) - 1 = ((i - 1 : Nat) : Int) := by omega
    have e1w : IntKind.i64.wrap ((i - 1 : Nat) : Int) = ((i - 1 : Nat) : Int) := IntWalk.i64_in _ (by omega)
    have hj1 : i - 1 < l.length := by omega
    have hp1 : placeB l[i - 1].f0 = true := by
     have := HA.out
     simp only [List.all_eq_true, List.mem_range] at this
     have := this (i - 1) (by omega)
     unfold refPeerAt at this
     rw [peer_getD hj1] at this
     simp only [Bool.and_eq_true] at this
     exact this.1.1.1.1
    have e2 : l.getD (i - 1) z98 = l[i - 1] := peer_getD hj1
    cases h5 : decide (farI base l[i].f0 ≤ farI base l[i - 1].f0)
    ·have h5' : farI base l[i - 1].f0 < farI base l[i].f0 := by have := of_decide_eq_false h5; omega
     have HT := Aside0.mk (range_all HA.out (show refPeerAt base l i = true by unfold refPeerAt; rw [peer_getD hlt, e2]; simp [h1, h2, h3', h4', h5']))
     clear h0 h3' h4' h5' e2
     go_upto_region 4 with (fail)
     (refine wp_region_bel (by kernel_rfl) (by kernel_rfl) ?_; (repeat (first | go_big_quiet_skip | (go_big_quiet_want; first | (go_big_quiet_op; go_big_quiet_on) | (apply Exists.intro; refine ⟨fun wq hq => ?_, ?_⟩; (focus (unfold Oper.quietAt; go_simp; first | done | exact ⟨rfl, rfl⟩ | exact rfl | (first | (go_at_call 155; refine Calls.mono (refPlaceB_) ?_; rintro e w1 ⟨rfl, hb⟩; exact ⟨by rw [h1], belL⟩) | (go_at_call 204; refine Calls.mono (refFar_ HB.out (by first | exact h1 | exact hp1)) ?_; rintro e w1 ⟨rfl, hb⟩; exact ⟨rfl, belL⟩)))); (try simp only [Act.put, put3]); go_big_quiet_on)))); refine wpQuiet_nil ?_; intro w7 hb7)
     all_goals
      go_wp2
      go_roundg (l.length - (i + 1))
      case measure => omega
      case rel => exact ⟨i + 1, by go_num, by omega, rfl, HT, belL⟩
    ·have h5' : ¬ farI base l[i - 1].f0 < farI base l[i].f0 := by have := of_decide_eq_true h5; omega
     have HF := Aside0.mk (show peersB base l = false by rw [peers_split, range_no hlt (by unfold refPeerAt; rw [peer_getD hlt, e2]; simp [h1, h2, h3', h4', h0, h5'])]; rfl)
     go_upto_region 4 with (fail)
     (refine wp_region_bel (by kernel_rfl) (by kernel_rfl) ?_; (repeat (first | go_big_quiet_skip | (go_big_quiet_want; first | (go_big_quiet_op; go_big_quiet_on) | (apply Exists.intro; refine ⟨fun wq hq => ?_, ?_⟩; (focus (unfold Oper.quietAt; go_simp; first | done | exact ⟨rfl, rfl⟩ | exact rfl | (first | (go_at_call 155; refine Calls.mono (refPlaceB_) ?_; rintro e w1 ⟨rfl, hb⟩; exact ⟨by rw [h1], belL⟩) | (go_at_call 204; refine Calls.mono (refFar_ HB.out (by first | exact h1 | exact hp1)) ?_; rintro e w1 ⟨rfl, hb⟩; exact ⟨rfl, belL⟩)))); (try simp only [Act.put, put3]); go_big_quiet_on)))); refine wpQuiet_nil ?_; intro w7 hb7)
     all_goals
      go_wp2
      go_ret
      exact ⟨by rw [HF.out]; rfl, belL⟩
  ·have HT := Aside0.mk (show peersB base l = decide ((l.length : Int) ≤ 16) by
    have e : i = l.length := by omega
    have := HA.out
    rw [e] at this
    rw [peers_split, this, HB.out, Bool.true_and, Bool.true_and]; exact decide_eq_decide.2 (by omega))
   go_wp2_with (first | (go_at_call 155; (with_reducible refine Calls.mono refPlaceB_ ?_); rw [HB.out]; rintro e wb ⟨rfl, hb⟩))
   go_ret
   exact ⟨by rw [HT.out]; rfl, belL⟩
set_option maxRecDepth 100000 in
set_option maxHeartbeats 16000000 in
theorem refPeers_b {base : Int} {A : Option Addr} {n c : Nat} {l : List S98} {w : World} [h : Sr k98 w A n c l] (hb0 : placeB base = false) :
 Calls Tryz.prog 186 #[.int .i64 base, .slice A n c] w fun e w' => e = .returned (.bool (peersB base l)) ∧ BelL w w' := by
 obtain rfl := h.len
 have HS := sr_l h
 have hlen : l.length ≤ 9223372036854775807 := h.C.2.1
 clear h
 have HB := Aside0.mk hb0
 go_enter Tryz.func186, Tryz.ntmps186
 go_wp2
 go_loopg [5] l.length (fun kq v5 w' => ∃ i : Nat, v5 = .int .i64 i ∧ i ≤ l.length ∧ kq = l.length - i ∧ Aside0 True ∧ BelL w w')
 case atStart => exact ⟨0, rfl, Nat.zero_le _, rfl, ⟨trivial⟩, belL⟩
 case round =>
  obtain ⟨i, rfl, hi, rfl, HA, hbr⟩ := hrel
  by_cases hlt : i < l.length
  ·obtain ⟨ad, rfl, hx0, hx1⟩ := el_T98 (W := wr) (A := A) (n := l.length) (c := c) (l := l) i hlt
   cases h1 : placeB l[i].f0
   ·have HF := Aside0.mk (show peersB base l = false by rw [peers_split, HB.out]; simp)
    go_upto_region 4 with (fail)
    (refine wp_region_bel (by kernel_rfl) (by kernel_rfl) ?_; (repeat (first | go_big_quiet_skip | (go_big_quiet_want; first | (go_big_quiet_op; go_big_quiet_on) | (apply Exists.intro; refine ⟨fun wq hq => ?_, ?_⟩; (focus (unfold Oper.quietAt; go_simp; first | done | exact ⟨rfl, rfl⟩ | exact rfl | (first | (go_at_call 155; refine Calls.mono (refPlaceB_) ?_; rintro e w1 ⟨rfl, hb⟩; exact ⟨by rw [h1], belL⟩) | (go_at_call 204; refine Calls.mono refFarAny_ ?_; rintro e w1 ⟨rfl, hb⟩; exact ⟨rfl, belL⟩)))); (try simp only [Act.put, put3]); go_big_quiet_on)))); refine wpQuiet_nil ?_; intro w7 hb7)
    all_goals
     go_wp2
     go_ret
     exact ⟨by rw [HF.out]; rfl, belL⟩
   rcases Bool.eq_false_or_eq_true ((l[i].f0 == base)) with h2 | h2
   ·have HF := Aside0.mk (show peersB base l = false by rw [peers_split, HB.out]; simp)
    go_upto_region 4 with (fail)
    (refine wp_region_bel (by kernel_rfl) (by kernel_rfl) ?_; (repeat (first | go_big_quiet_skip | (go_big_quiet_want; first | (go_big_quiet_op; go_big_quiet_on) | (apply Exists.intro; refine ⟨fun wq hq => ?_, ?_⟩; (focus (unfold Oper.quietAt; go_simp; first | done | exact ⟨rfl, rfl⟩ | exact rfl | (first | (go_at_call 155; refine Calls.mono (refPlaceB_) ?_; rintro e w1 ⟨rfl, hb⟩; exact ⟨by rw [h1], belL⟩) | (go_at_call 204; refine Calls.mono refFarAny_ ?_; rintro e w1 ⟨rfl, hb⟩; exact ⟨rfl, belL⟩)))); (try simp only [Act.put, put3]); go_big_quiet_on)))); refine wpQuiet_nil ?_; intro w7 hb7)
    all_goals
     go_wp2
     go_ret
     exact ⟨by rw [HF.out]; rfl, belL⟩
   rcases Bool.eq_false_or_eq_true (decide (l[i].f1 < 0)) with h3 | h3
   ·have h3' : ¬ 0 ≤ l[i].f1 := by have := of_decide_eq_true h3; omega
    have HF := Aside0.mk (show peersB base l = false by rw [peers_split, HB.out]; simp)
    go_upto_region 4 with (fail)
    (refine wp_region_bel (by kernel_rfl) (by kernel_rfl) ?_; (repeat (first | go_big_quiet_skip | (go_big_quiet_want; first | (go_big_quiet_op; go_big_quiet_on) | (apply Exists.intro; refine ⟨fun wq hq => ?_, ?_⟩; (focus (unfold Oper.quietAt; go_simp; first | done | exact ⟨rfl, rfl⟩ | exact rfl | (first | (go_at_call 155; refine Calls.mono (refPlaceB_) ?_; rintro e w1 ⟨rfl, hb⟩; exact ⟨by rw [h1], belL⟩) | (go_at_call 204; refine Calls.mono refFarAny_ ?_; rintro e w1 ⟨rfl, hb⟩; exact ⟨rfl, belL⟩)))); (try simp only [Act.put, put3]); go_big_quiet_on)))); refine wpQuiet_nil ?_; intro w7 hb7)
    all_goals
     go_wp2
     go_ret
     exact ⟨by rw [HF.out]; rfl, belL⟩
   have h3' : 0 ≤ l[i].f1 := by have := of_decide_eq_false h3; omega
   rcases Bool.eq_false_or_eq_true (decide (3 ≤ l[i].f1)) with h4 | h4
   ·have h4' : ¬ l[i].f1 < 3 := by have := of_decide_eq_true h4; omega
    have HF := Aside0.mk (show peersB base l = false by rw [peers_split, HB.out]; simp)
    go_upto_region 4 with (fail)
    (refine wp_region_bel (by kernel_rfl) (by kernel_rfl) ?_; (repeat (first | go_big_quiet_skip | (go_big_quiet_want; first | (go_big_quiet_op; go_big_quiet_on) | (apply Exists.intro; refine ⟨fun wq hq => ?_, ?_⟩; (focus (unfold Oper.quietAt; go_simp; first | done | exact ⟨rfl, rfl⟩ | exact rfl | (first | (go_at_call 155; refine Calls.mono (refPlaceB_) ?_; rintro e w1 ⟨rfl, hb⟩; exact ⟨by rw [h1], belL⟩) | (go_at_call 204; refine Calls.mono refFarAny_ ?_; rintro e w1 ⟨rfl, hb⟩; exact ⟨rfl, belL⟩)))); (try simp only [Act.put, put3]); go_big_quiet_on)))); refine wpQuiet_nil ?_; intro w7 hb7)
    all_goals
     go_wp2
     go_ret
     exact ⟨by rw [HF.out]; rfl, belL⟩
   have h4' : l[i].f1 < 3 := by have := of_decide_eq_false h4; omega
   by_cases h0 : i = 0
   ·have hgt : decide ((0 : Int) < (i : Int)) = false := decide_eq_false (by omega)
    have hgn : decide (0 < i) = false := decide_eq_false (by omega)
    have HT : Aside0 True := ⟨trivial⟩
    clear h0 h3' h4'
    go_upto_region 4 with (fail)
    (refine wp_region_bel (by kernel_rfl) (by kernel_rfl) ?_; (repeat (first | go_big_quiet_skip | (go_big_quiet_want; first | (go_big_quiet_op; go_big_quiet_on) | (apply Exists.intro; refine ⟨fun wq hq => ?_, ?_⟩; (focus (unfold Oper.quietAt; go_simp; first | done | exact ⟨rfl, rfl⟩ | exact rfl | (first | (go_at_call 155; refine Calls.mono (refPlaceB_) ?_; rintro e w1 ⟨rfl, hb⟩; exact ⟨by rw [h1], belL⟩) | (go_at_call 204; refine Calls.mono refFarAny_ ?_; rintro e w1 ⟨rfl, hb⟩; exact ⟨rfl, belL⟩)))); (try simp only [Act.put, put3]); go_big_quiet_on)))); refine wpQuiet_nil ?_; intro w7 hb7)
    all_goals
     go_wp2
     go_roundg (l.length - (i + 1))
     case measure => omega
     case rel => exact ⟨i + 1, by go_num, by omega, rfl, HT, belL⟩
   ·have hgt : decide ((0 : Int) < (i : Int)) = true := decide_eq_true (by omega)
    have hgn : decide (0 < i) = true := decide_eq_true (by omega)
    obtain ⟨ad', he, hy0, hy1⟩ := el_T98 (W := wr) (A := some ad) (n := l.length) (c := c) (l := l) (i - 1) (by omega)
    obtain rfl := Option.some.inj he
    have e1 : (i : Int) - 1 = ((i - 1 : Nat) : Int) := by omega
    have e1w : IntKind.i64.wrap ((i - 1 : Nat) : Int) = ((i - 1 : Nat) : Int) := IntWalk.i64_in _ (by omega)
    have hj1 : i - 1 < l.length := by omega
    cases h5 : decide (farG base l[i].f0 ≤ farG base l[i - 1].f0)
    ·have HT : Aside0 True := ⟨trivial⟩
     go_upto_region 4 with (fail)
     (refine wp_region_bel (by kernel_rfl) (by kernel_rfl) ?_; (repeat (first | go_big_quiet_skip | (go_big_quiet_want; first | (go_big_quiet_op; go_big_quiet_on) | (apply Exists.intro; refine ⟨fun wq hq => ?_, ?_⟩; (focus (unfold Oper.quietAt; go_simp; first | done | exact ⟨rfl, rfl⟩ | exact rfl | (first | (go_at_call 155; refine Calls.mono (refPlaceB_) ?_; rintro e w1 ⟨rfl, hb⟩; exact ⟨by rw [h1], belL⟩) | (go_at_call 204; refine Calls.mono refFarAny_ ?_; rintro e w1 ⟨rfl, hb⟩; exact ⟨rfl, belL⟩)))); (try simp only [Act.put, put3]); go_big_quiet_on)))); refine wpQuiet_nil ?_; intro w7 hb7)
     all_goals
      go_wp2
      go_roundg (l.length - (i + 1))
      case measure => omega
      case rel => exact ⟨i + 1, by go_num, by omega, rfl, HT, belL⟩
    ·have HF := Aside0.mk (show peersB base l = false by rw [peers_split, HB.out]; simp)
     go_upto_region 4 with (fail)
     (refine wp_region_bel (by kernel_rfl) (by kernel_rfl) ?_; (repeat (first | go_big_quiet_skip | (go_big_quiet_want; first | (go_big_quiet_op; go_big_quiet_on) | (apply Exists.intro; refine ⟨fun wq hq => ?_, ?_⟩; (focus (unfold Oper.quietAt; go_simp; first | done | exact ⟨rfl, rfl⟩ | exact rfl | (first | (go_at_call 155; refine Calls.mono (refPlaceB_) ?_; rintro e w1 ⟨rfl, hb⟩; exact ⟨by rw [h1], belL⟩) | (go_at_call 204; refine Calls.mono refFarAny_ ?_; rintro e w1 ⟨rfl, hb⟩; exact ⟨rfl, belL⟩)))); (try simp only [Act.put, put3]); go_big_quiet_on)))); refine wpQuiet_nil ?_; intro w7 hb7)
     all_goals
      go_wp2
      go_ret
      exact ⟨by rw [HF.out]; rfl, belL⟩
  ·have HT := Aside0.mk (show peersB base l = false by rw [peers_split, HB.out]; simp)
   go_wp2_with (first | (go_at_call 155; (with_reducible refine Calls.mono refPlaceB_ ?_); rw [HB.out]; rintro e wb ⟨rfl, hb⟩))
   go_ret
   exact ⟨by rw [HT.out]; rfl, belL⟩
theorem refPeers_ {base : Int} {A : Option Addr} {n c : Nat} {l : List S98} {w : World} [h : Sr k98 w A n c l] :
 Calls Tryz.prog 186 #[.int .i64 base, .slice A n c] w fun e w' => e = .returned (.bool (peersB base l)) ∧ BelL w w' := by
 cases hb0 : placeB base
 ·exact refPeers_b hb0
 ·exact refPeers_a hb0
end
section
attribute [local go_sem] cell_tc2
attribute [local go_sem high] eqA46 eqA98 eqA77 eqA48
theorem mem_ids_known (ps : List S98) (x : Int) : memB (idsOf ps) x = knownB ps x := by
 unfold memB idsOf knownB
 rw [List.any_map]
 rfl
def refOdd (id : Int) (ps : List S98) (x : Int) : Bool := x == id || memB (idsOf ps) x
theorem view_split (id : Int) (ps : List S98) (xs : List Int) : viewB id ps xs = (!(xs.any (refOdd id ps)) && (peersB id ps && (passB xs && decide (ps.length + xs.length ≤ 16)))) := by
 have e : xs.any (refOdd id ps) = xs.any (fun x => x == id || knownB ps x) := by
  congr 1
  funext x
  unfold refOdd
  rw [mem_ids_known]
 rw [e]
 unfold viewB
 cases peersB id ps <;> cases passB xs <;> cases decide (ps.length + xs.length ≤ 16) <;> cases xs.any (fun x => x == id || knownB ps x) <;> rfl
set_option maxRecDepth 100000 in
set_option maxHeartbeats 8000000 in
theorem refView_ {id : Int} {A B : Option Addr} {n c m d : Nat} {ps : List S98} {xs : List Int} {w : World} [h1 : Sr k98 w A n c ps] [h2 : Sr kI w B m d xs] (hn : n * 16 ≤ 140737488351232) (hs : n + m ≤ 1000000000000000) :
 Calls Tryz.prog 157 #[.agg #[.int .i64 id, .slice A n c, .slice B m d]] w fun e w' => e = .returned (.bool (viewB id ps xs)) ∧ BelL w w' := by
 obtain rfl := h1.len
 obtain rfl := h2.len
 have s1 := sr_l h1
 have s2 := sr_l h2
 have hlen : xs.length ≤ 9223372036854775807 := h2.C.2.1
 clear h1 h2
 go_enter Tryz.func157, Tryz.ntmps157
 go_wp2_with (first | (with_reducible refine box_tc rfl (N := 1) rfl (cs := #[.int .i64 id, .slice A ps.length c, .slice B xs.length d]) (t := 25) ?hr ?_; (case hr => go_simp <;> rfl); intro g1 wg1 _ _ _) | (go_at_call 114; (with_reducible refine cM (refNames_ (ps := ps) hn) ?_); rintro e wn ⟨An, cn, rfl, hFn, hbn⟩))
 refine wp_letter fun wl hbl => ?_
 have B1 : BlkL wl g1 #[.int .i64 id, .slice A ps.length c, .slice B xs.length d] 25 := blkL
 have S1 : SrL kI wl An ps.length cn (idsOf ps) := sr_l inferInstance
 have S2 : SrL k98 wl A ps.length c ps := sr_l inferInstance
 have S3 : SrL kI wl B xs.length d xs := sr_l inferInstance
 have hwl : BelL w wl := belL
 go_loopg [4] xs.length (fun kq v4 w' => ∃ i : Nat, v4 = .int .i64 i ∧ i ≤ xs.length ∧ kq = xs.length - i ∧ Aside0 ((xs.take i).any (refOdd id ps) = false) ∧ BelL wl w')
 case atStart => exact ⟨0, rfl, Nat.zero_le _, rfl, ⟨rfl⟩, belL⟩
 case round =>
  obtain ⟨i, rfl, hi, rfl, HA, hbr⟩ := hrel
  by_cases hlt : i < xs.length
  ·obtain ⟨ad, rfl, hx⟩ := el_I (W := wr) (A := B) (n := xs.length) (c := d) (l := xs) i hlt
   cases h3 : (xs[i] == id)
   ·cases h4 : memB (idsOf ps) xs[i]
    ·have HT := Aside0.mk (any_step hlt HA.out (show refOdd id ps xs[i] = false by unfold refOdd; rw [h3, h4]; rfl))
     go_upto_region 5 with (fail)
     (refine wp_region_bel (by kernel_rfl) (by kernel_rfl) ?_; (repeat (first | go_big_quiet_skip | (go_big_quiet_want; first | (go_big_quiet_op; go_big_quiet_on) | (apply Exists.intro; refine ⟨fun wq hq => ?_, ?_⟩; (focus (unfold Oper.quietAt; go_simp; first | done | exact ⟨rfl, rfl⟩ | exact rfl | (first | (go_at_call 185; refine Calls.mono (refHas_) ?_; rintro e w1 ⟨rfl, hb⟩; exact ⟨by rw [h4], belL⟩)))); (try simp only [Act.put, put3]); go_big_quiet_on)))); refine wpQuiet_nil ?_; intro w7 hb7)
     go_wp2
     go_roundg (xs.length - (i + 1))
     case measure => omega
     case rel => exact ⟨i + 1, by go_num, by omega, rfl, HT, belL⟩
    ·have HF := Aside0.mk (show viewB id ps xs = false by rw [view_split, any_stop hlt (show refOdd id ps xs[i] = true by unfold refOdd; rw [h4]; simp)]; rfl)
     go_upto_region 5 with (fail)
     (refine wp_region_bel (by kernel_rfl) (by kernel_rfl) ?_; (repeat (first | go_big_quiet_skip | (go_big_quiet_want; first | (go_big_quiet_op; go_big_quiet_on) | (apply Exists.intro; refine ⟨fun wq hq => ?_, ?_⟩; (focus (unfold Oper.quietAt; go_simp; first | done | exact ⟨rfl, rfl⟩ | exact rfl | (first | (go_at_call 185; refine Calls.mono (refHas_) ?_; rintro e w1 ⟨rfl, hb⟩; exact ⟨by rw [h4], belL⟩)))); (try simp only [Act.put, put3]); go_big_quiet_on)))); refine wpQuiet_nil ?_; intro w7 hb7)
     go_wp2
     go_ret
     exact ⟨by rw [HF.out]; rfl, belL⟩
   ·have HF := Aside0.mk (show viewB id ps xs = false by rw [view_split, any_stop hlt (show refOdd id ps xs[i] = true by unfold refOdd; rw [h3]; rfl)]; rfl)
    go_upto_region 5 with (fail)
    (refine wp_region_bel (by kernel_rfl) (by kernel_rfl) ?_; (repeat (first | go_big_quiet_skip | (go_big_quiet_want; first | (go_big_quiet_op; go_big_quiet_on) | (apply Exists.intro; refine ⟨fun wq hq => ?_, ?_⟩; (focus (unfold Oper.quietAt; go_simp; first | done | exact ⟨rfl, rfl⟩ | exact rfl | (first | (go_at_call 185; refine Calls.mono (refHas_) ?_; rintro e w1 ⟨rfl, hb⟩; exact ⟨by rw [h4], belL⟩)))); (try simp only [Act.put, put3]); go_big_quiet_on)))); refine wpQuiet_nil ?_; intro w7 hb7)
    go_wp2
    go_ret
    exact ⟨by rw [HF.out]; rfl, belL⟩
  ·have HT := Aside0.mk (show viewB id ps xs = (peersB id ps && (passB xs && decide (ps.length + xs.length ≤ 16))) by
    have := HA.out
    rw [List.take_of_length_le (by omega)] at this
    rw [view_split, this]; rfl)
   cases h5 : peersB id ps
   ·have HT2 := Aside0.mk (show viewB id ps xs = false by rw [HT.out, h5]; rfl)
    go_wp2_with (first | (go_at_call 186; (with_reducible refine cM (refPeers_ (l := ps)) ?_); rw [h5]; rintro e wp ⟨rfl, hbp⟩) | (go_at_call 187; (with_reducible refine cM (refPass_ (l := xs)) ?_); rw [h6]; rintro e wq ⟨rfl, hbq⟩))
    go_ret
    exact ⟨by rw [HT2.out]; rfl, belL⟩
   cases h6 : passB xs
   ·have HT2 := Aside0.mk (show viewB id ps xs = false by rw [HT.out, h5, h6]; rfl)
    go_wp2_with (first | (go_at_call 186; (with_reducible refine cM (refPeers_ (l := ps)) ?_); rw [h5]; rintro e wp ⟨rfl, hbp⟩) | (go_at_call 187; (with_reducible refine cM (refPass_ (l := xs)) ?_); rw [h6]; rintro e wq ⟨rfl, hbq⟩))
    go_ret
    exact ⟨by rw [HT2.out]; rfl, belL⟩
   ·have HT2 := Aside0.mk (show viewB id ps xs = decide ((ps.length : Int) + (xs.length : Int) ≤ 16) by rw [HT.out, h5, h6, Bool.true_and, Bool.true_and]; exact decide_eq_decide.2 (by omega))
    go_wp2_with (first | (go_at_call 186; (with_reducible refine cM (refPeers_ (l := ps)) ?_); rw [h5]; rintro e wp ⟨rfl, hbp⟩) | (go_at_call 187; (with_reducible refine cM (refPass_ (l := xs)) ?_); rw [h6]; rintro e wq ⟨rfl, hbq⟩))
    go_ret
    exact ⟨by rw [HT2.out]; rfl, belL⟩
def atI (l : List S40) (id : Int) : Int := if l.findIdx (fun x => x.f1.f0 == id) < l.length then (l.findIdx (fun x => x.f1.f0 == id) : Nat) else -1
theorem atI_some {l : List S40} {id : Int} {i : Nat} (hi : i < l.length) (hp : (l[i].f1.f0 == id) = true) (ha : (l.take i).any (fun x => x.f1.f0 == id) = false) : atI l id = i := by
 have e : l.findIdx (fun x => x.f1.f0 == id) = i := by
  rw [List.findIdx_eq hi]
  refine ⟨hp, fun j hj => ?_⟩
  rw [List.any_eq_false] at ha
  have := ha l[j] (List.mem_take_iff_getElem.2 ⟨j, by omega, rfl⟩)
  simpa using this
 unfold atI
 rw [e, if_pos hi]
theorem atI_none {l : List S40} {id : Int} (ha : l.any (fun x => x.f1.f0 == id) = false) : atI l id = -1 := by
 have e : ¬ l.findIdx (fun x => x.f1.f0 == id) < l.length := by
  rw [List.findIdx_lt_length]
  rintro ⟨x, hx, hp⟩
  rw [List.any_eq_false] at ha
  exact ha x hx hp
 unfold atI
 rw [if_neg e]
theorem atI_at {l : List S40} {id : Int} (h : isNode l id = true) : ∃ (i : Nat) (hi : i < l.length), atI l id = i ∧ l[i].f1.f0 = id := by
 have e : l.findIdx (fun x => x.f1.f0 == id) < l.length := by
  rw [List.findIdx_lt_length]
  unfold isNode at h
  simpa using h
 refine ⟨_, e, by unfold atI; rw [if_pos e], ?_⟩
 have := List.findIdx_getElem (w := e)
 simpa using this
theorem atI_neg (l : List S40) (id : Int) : decide (atI l id < 0) = !isNode l id := by
 cases h : isNode l id
 ·rw [atI_none h]; rfl
 ·obtain ⟨i, hi, e, _⟩ := atI_at h
  rw [e]
  simp
theorem at_ {id : Int} {A : Option Addr} {n c : Nat} {l : List S40} {w : World} [h : Sr k40 w A n c l] :
 Calls Tryz.prog 64 #[.slice A n c, .int .i64 id] w fun e w' => e = .returned (.int .i64 (atI l id)) ∧ BelL w w' := by
 obtain rfl := h.len
 have HS := sr_l h
 have hlen : l.length ≤ 9223372036854775807 := h.C.2.1
 clear h
 go_enter Tryz.func64, Tryz.ntmps64
 go_wp2
 go_loopg [5] l.length (fun kq v5 w' => ∃ i : Nat, v5 = .int .i64 i ∧ i ≤ l.length ∧ kq = l.length - i ∧ Aside0 ((l.take i).any (fun x => x.f1.f0 == id) = false) ∧ BelL w w')
 case atStart => exact ⟨0, rfl, Nat.zero_le _, rfl, ⟨rfl⟩, belL⟩
 case round =>
  obtain ⟨i, rfl, hi, rfl, HA, hbr⟩ := hrel
  by_cases hlt : i < l.length
  ·obtain ⟨ad, X2, y2, X3, y3, X4, y4, X5, y5, rfl, x0, x1, x2, x3, x4, x5, r2, r3, r4, r5⟩ := el_T40 (W := wr) (A := A) (n := l.length) (c := c) (l := l) i hlt
   clear r2 r3 r4 r5 x2 x3 x4 x5
   cases h1 : (l[i].f1.f0 == id)
   ·have HT := Aside0.mk (any_step (p := fun x : S40 => x.f1.f0 == id) hlt HA.out h1)
    go_wp2
    go_roundg (l.length - (i + 1))
    case measure => omega
    case rel => exact ⟨i + 1, by go_num, by omega, rfl, HT, belL⟩
   ·have HF := Aside0.mk (atI_some hlt h1 HA.out)
    go_wp2
    go_ret
    exact ⟨by rw [HF.out]; rfl, belL⟩
  ·have HT := Aside0.mk (show atI l id = -1 from atI_none (by
    have := HA.out
    rwa [List.take_of_length_le (by omega)] at this))
   go_wp2
   go_ret
   exact ⟨by rw [HT.out]; rfl, belL⟩
theorem refAll_ {A B : Option Addr} {n c m d : Nat} {l : List S40} {xs : List Int} {w : World} [h : Sr k40 w A n c l] [g : Sr kI w B m d xs] :
 Calls Tryz.prog 113 #[.slice A n c, .slice B m d] w fun e w' => e = .returned (.bool (xs.all (isNode l))) ∧ BelL w w' := by
 obtain rfl := h.len
 obtain rfl := g.len
 have HS := sr_l h
 have HG := sr_l g
 have hlen : xs.length ≤ 9223372036854775807 := g.C.2.1
 clear h g
 go_enter Tryz.func113, Tryz.ntmps113
 go_wp2
 go_loopg [5] xs.length (fun kq v5 w' => ∃ i : Nat, v5 = .int .i64 i ∧ i ≤ xs.length ∧ kq = xs.length - i ∧ Aside0 ((xs.take i).all (isNode l) = true) ∧ BelL w w')
 case atStart => exact ⟨0, rfl, Nat.zero_le _, rfl, ⟨rfl⟩, belL⟩
 case round =>
  obtain ⟨i, rfl, hi, rfl, HA, hbr⟩ := hrel
  by_cases hlt : i < xs.length
  ·obtain ⟨ad, rfl, hx⟩ := el_I (W := wr) (A := B) (n := xs.length) (c := d) (l := xs) i hlt
   have hq := atI_neg l xs[i]
   cases h1 : isNode l xs[i]
   ·have HF := Aside0.mk (show xs.all (isNode l) = false from all_stop hlt h1)
    rw [h1] at hq
    have hq2 : decide (atI l xs[i] < 0) = true := hq
    clear hq
    go_wp2_with (first | (go_at_call 64; (with_reducible refine cM (at_ (l := l)) ?_); rintro e wb ⟨rfl, hb⟩))
    go_ret
    exact ⟨by rw [HF.out]; rfl, belL⟩
   ·have HT := Aside0.mk (all_step hlt HA.out h1)
    rw [h1] at hq
    have hq2 : decide (atI l xs[i] < 0) = false := hq
    clear hq
    go_wp2_with (first | (go_at_call 64; (with_reducible refine cM (at_ (l := l)) ?_); rintro e wb ⟨rfl, hb⟩))
    go_roundg (xs.length - (i + 1))
    case measure => omega
    case rel => exact ⟨i + 1, by go_num, by omega, rfl, HT, belL⟩
  ·have HT := Aside0.mk (show xs.all (isNode l) = true by
    have := HA.out
    rwa [List.take_of_length_le (by omega)] at this)
   go_wp2
   go_ret
   exact ⟨by rw [HT.out]; rfl, belL⟩
end
section
attribute [local go_sem] cell_tc2
attribute [local go_sem high] eqA46 eqA98 eqA77 eqA48
theorem node_down {id : Int} {ps : List S98} {xs : List Int} {is : List S48} {ls : List S77} : nodeB ⟨false, ⟨id, ps, xs⟩, is, ls⟩ = (decide (ps.length + xs.length + is.length + ls.length = 0) && placeB id) := by
 rw [Bool.eq_iff_iff, nodeB_iff]
 simp only [Bool.and_eq_true, decide_eq_true_eq, Bool.false_eq_true, false_or]
 constructor
 ·rintro ⟨h1, h2, _⟩
  exact ⟨h1, h2.hid⟩
 ·rintro ⟨h1, h2⟩
  obtain rfl : ps = [] := List.eq_nil_of_length_eq_zero (by omega)
  obtain rfl : xs = [] := List.eq_nil_of_length_eq_zero (by omega)
  obtain rfl : is = [] := List.eq_nil_of_length_eq_zero (by omega)
  obtain rfl : ls = [] := List.eq_nil_of_length_eq_zero (by omega)
  exact ⟨h1, ⟨h2, Nat.zero_le _, fun p hp => (nomatch hp), List.Pairwise.nil, fun p hp => (nomatch hp), List.Pairwise.nil⟩, rfl, Nat.zero_le _, fun t ht => (nomatch ht)⟩
theorem node_up {id : Int} {ps : List S98} {xs : List Int} {is : List S48} {ls : List S77} : nodeB ⟨true, ⟨id, ps, xs⟩, is, ls⟩ = (ls.all toldB && (viewB id ps xs && (storeB is && decide (ls.length ≤ 64)))) := by
 have e : (!badTolds ls) = ls.all toldB := by
  unfold badTolds
  rw [Bool.eq_iff_iff]
  simp
 unfold nodeB
 simp only [e]
 cases ls.all toldB <;> cases viewB id ps xs <;> cases storeB is <;> cases decide (ls.length ≤ 64) <;> rfl
set_option maxRecDepth 100000 in
set_option maxHeartbeats 4000000 in
theorem refNode_d {id : Int} {A B I L : Option Addr} {n c m d ni ci nl cl : Nat} {ps : List S98} {xs : List Int} {is : List S48} {ls : List S77} {w : World} [h1 : Sr k98 w A n c ps] [h2 : Sr kI w B m d xs] [h3 : Sr k48 w I ni ci is] [h4 : Sr k77 w L nl cl ls] (hs : n + m + ni + nl ≤ 1000000000000000) :
 Calls Tryz.prog 112 #[.agg #[.bool false, .int .i64 id, .slice A n c, .slice B m d, .slice I ni ci, .slice L nl cl]] w fun e w' => e = .returned (.bool (nodeB ⟨false, ⟨id, ps, xs⟩, is, ls⟩)) ∧ BelL w w' := by
 obtain rfl := h1.len
 obtain rfl := h2.len
 obtain rfl := h3.len
 obtain rfl := h4.len
 have s1 := sr_l h1
 have s2 := sr_l h2
 have s3 := sr_l h3
 have s4 := sr_l h4
 have hlen : ls.length ≤ 9223372036854775807 := h4.C.2.1
 clear h1 h2 h3 h4
 rw [node_down]
 by_cases zz : ps.length + xs.length + is.length + ls.length = 0
 ·rw [decide_eq_true zz, Bool.true_and]
  have z1 : ((ps.length : Int) + (xs.length : Int) + (is.length : Int) + (ls.length : Int) == 0) = true := by simp; omega
  cases hp : placeB id
  ·go_enter Tryz.func112, Tryz.ntmps112
   go_wp2_with (first | (with_reducible refine box_tc rfl (N := 1) rfl (cs := #[.bool false, .int .i64 id, .slice A ps.length c, .slice B xs.length d, .slice I is.length ci, .slice L ls.length cl]) (t := 40) ?hr ?_; (case hr => go_simp <;> rfl); intro g1 wg1 _ _ _) | (go_at_call 155; (with_reducible refine Calls.mono refPlaceB_ ?_); rw [hp]; rintro e wb ⟨rfl, hb⟩))
   go_ret
   exact ⟨rfl, belL⟩
  ·go_enter Tryz.func112, Tryz.ntmps112
   go_wp2_with (first | (with_reducible refine box_tc rfl (N := 1) rfl (cs := #[.bool false, .int .i64 id, .slice A ps.length c, .slice B xs.length d, .slice I is.length ci, .slice L ls.length cl]) (t := 40) ?hr ?_; (case hr => go_simp <;> rfl); intro g1 wg1 _ _ _) | (go_at_call 155; (with_reducible refine Calls.mono refPlaceB_ ?_); rw [hp]; rintro e wb ⟨rfl, hb⟩))
   go_ret
   exact ⟨rfl, belL⟩
 ·rw [decide_eq_false zz, Bool.false_and]
  have z1 : ((ps.length : Int) + (xs.length : Int) + (is.length : Int) + (ls.length : Int) == 0) = false := by simp; omega
  go_enter Tryz.func112, Tryz.ntmps112
  go_wp2_with (first | (with_reducible refine box_tc rfl (N := 1) rfl (cs := #[.bool false, .int .i64 id, .slice A ps.length c, .slice B xs.length d, .slice I is.length ci, .slice L ls.length cl]) (t := 40) ?hr ?_; (case hr => go_simp <;> rfl); intro g1 wg1 _ _ _))
  go_ret
  exact ⟨rfl, belL⟩
set_option maxRecDepth 100000 in
set_option maxHeartbeats 8000000 in
theorem refNode_u {id : Int} {A B I L : Option Addr} {n c m d ni ci nl cl : Nat} {ps : List S98} {xs : List Int} {is : List S48} {ls : List S77} {w : World} [h1 : Sr k98 w A n c ps] [h2 : Sr kI w B m d xs] [h3 : Sr k48 w I ni ci is] [h4 : Sr k77 w L nl cl ls] (hn : n * 16 ≤ 140737488351232) (hs : n + m + ni + nl ≤ 1000000000000000) :
 Calls Tryz.prog 112 #[.agg #[.bool true, .int .i64 id, .slice A n c, .slice B m d, .slice I ni ci, .slice L nl cl]] w fun e w' => e = .returned (.bool (nodeB ⟨true, ⟨id, ps, xs⟩, is, ls⟩)) ∧ BelL w w' := by
 obtain rfl := h1.len
 obtain rfl := h2.len
 obtain rfl := h3.len
 obtain rfl := h4.len
 have s1 := sr_l h1
 have s2 := sr_l h2
 have s3 := sr_l h3
 have s4 := sr_l h4
 have hlen : ls.length ≤ 9223372036854775807 := h4.C.2.1
 clear h1 h2 h3 h4
 go_enter Tryz.func112, Tryz.ntmps112
 go_wp2_with (first | (with_reducible refine box_tc rfl (N := 1) rfl (cs := #[.bool true, .int .i64 id, .slice A ps.length c, .slice B xs.length d, .slice I is.length ci, .slice L ls.length cl]) (t := 40) ?hr ?_; (case hr => go_simp <;> rfl); intro g1 wg1 _ _ _))
 refine wp_letter fun wl hbl => ?_
 have B1 : BlkL wl g1 #[.bool true, .int .i64 id, .slice A ps.length c, .slice B xs.length d, .slice I is.length ci, .slice L ls.length cl] 40 := blkL
 have hwl : BelL w wl := belL
 go_loopg [3, 4] ls.length (fun kq v3 v4 w' => ∃ i : Nat, v3 = .int .i64 i ∧ i ≤ ls.length ∧ kq = ls.length - i ∧ Aside0 ((ls.take i).all toldB = true) ∧ BelL wl w')
 case atStart => exact ⟨0, rfl, Nat.zero_le _, rfl, ⟨rfl⟩, belL⟩
 case round =>
  obtain ⟨i, rfl, hi, rfl, HA, hbr⟩ := hrel
  by_cases hlt : i < ls.length
  ·obtain ⟨ad, rfl, x0, x1, x2⟩ := el_T77 (W := wr) (A := L) (n := ls.length) (c := cl) (l := ls) i hlt
   cases h5 : placeB ls[i].f0
   ·have HF := Aside0.mk (show nodeB ⟨true, ⟨id, ps, xs⟩, is, ls⟩ = false by rw [node_up, all_stop hlt (show toldB ls[i] = false by unfold toldB; simp [h5])]; rfl)
    go_wp2_with (first | (with_reducible refine box_tc rfl (N := 4) rfl (cs := #[.int .i64 0, .bool false, .int .i64 0]) (t := 77) ?hr ?_; (case hr => go_simp <;> rfl); intro g4 wg4 _ _ _) | (go_at_call 156; (with_reducible refine Calls.mono refByte16_ ?_); (first | rw [h5] | rw [h6]); rintro e wb ⟨rfl, hb⟩))
    go_ret
    exact ⟨by rw [HF.out]; rfl, belL⟩
   cases h6 : placeB ls[i].f2
   ·have HF := Aside0.mk (show nodeB ⟨true, ⟨id, ps, xs⟩, is, ls⟩ = false by rw [node_up, all_stop hlt (show toldB ls[i] = false by unfold toldB; simp [h5, h6])]; rfl)
    go_wp2_with (first | (with_reducible refine box_tc rfl (N := 4) rfl (cs := #[.int .i64 0, .bool false, .int .i64 0]) (t := 77) ?hr ?_; (case hr => go_simp <;> rfl); intro g4 wg4 _ _ _) | (go_at_call 156; (with_reducible refine Calls.mono refByte16_ ?_); (first | rw [h5] | rw [h6]); rintro e wb ⟨rfl, hb⟩))
    go_ret
    exact ⟨by rw [HF.out]; rfl, belL⟩
   cases h7 : ls[i].f1
   ·cases h8 : (ls[i].f2 != 0)
    ·have HT := Aside0.mk (all_step hlt HA.out (show toldB ls[i] = true by have h9 : (ls[i].f2 == 0) = true := (by simpa using h8); unfold toldB; rw [h5, h6, h7, h9]; rfl))
     go_wp2_with (first | (with_reducible refine box_tc rfl (N := 4) rfl (cs := #[.int .i64 0, .bool false, .int .i64 0]) (t := 77) ?hr ?_; (case hr => go_simp <;> rfl); intro g4 wg4 _ _ _) | (go_at_call 156; (with_reducible refine Calls.mono refByte16_ ?_); (first | rw [h5] | rw [h6]); rintro e wb ⟨rfl, hb⟩))
     go_roundg (ls.length - (i + 1))
     case measure => omega
     case rel => exact ⟨i + 1, by go_num, by omega, rfl, HT, belL⟩
    ·have HF := Aside0.mk (show nodeB ⟨true, ⟨id, ps, xs⟩, is, ls⟩ = false by rw [node_up, all_stop hlt (show toldB ls[i] = false by have h9 : (ls[i].f2 == 0) = false := (by simpa using h8); unfold toldB; rw [h5, h6, h7, h9]; rfl)]; rfl)
     go_wp2_with (first | (with_reducible refine box_tc rfl (N := 4) rfl (cs := #[.int .i64 0, .bool false, .int .i64 0]) (t := 77) ?hr ?_; (case hr => go_simp <;> rfl); intro g4 wg4 _ _ _) | (go_at_call 156; (with_reducible refine Calls.mono refByte16_ ?_); (first | rw [h5] | rw [h6]); rintro e wb ⟨rfl, hb⟩))
     go_ret
     exact ⟨by rw [HF.out]; rfl, belL⟩
   ·have HT := Aside0.mk (all_step hlt HA.out (show toldB ls[i] = true by unfold toldB; simp [h5, h6, h7]))
    go_wp2_with (first | (with_reducible refine box_tc rfl (N := 4) rfl (cs := #[.int .i64 0, .bool false, .int .i64 0]) (t := 77) ?hr ?_; (case hr => go_simp <;> rfl); intro g4 wg4 _ _ _) | (go_at_call 156; (with_reducible refine Calls.mono refByte16_ ?_); (first | rw [h5] | rw [h6]); rintro e wb ⟨rfl, hb⟩))
    go_roundg (ls.length - (i + 1))
    case measure => omega
    case rel => exact ⟨i + 1, by go_num, by omega, rfl, HT, belL⟩
  ·have HT := Aside0.mk (show nodeB ⟨true, ⟨id, ps, xs⟩, is, ls⟩ = (viewB id ps xs && (storeB is && decide (ls.length ≤ 64))) by
    have := HA.out
    rw [List.take_of_length_le (by omega)] at this
    rw [node_up, this]; rfl)
   cases h5 : viewB id ps xs
   ·have HT2 := Aside0.mk (show nodeB ⟨true, ⟨id, ps, xs⟩, is, ls⟩ = false by rw [HT.out, h5]; rfl)
    go_wp2_with (first | (go_at_call 157; (with_reducible refine cM (refView_ (ps := ps) (xs := xs) hn (by omega)) ?_); rw [h5]; rintro e wp ⟨rfl, hbp⟩) | (go_at_call 84; (with_reducible refine cM (refStore_ (l := is)) ?_); rw [h6]; rintro e wq ⟨rfl, hbq⟩))
    go_ret
    exact ⟨by rw [HT2.out]; rfl, belL⟩
   cases h6 : storeB is
   ·have HT2 := Aside0.mk (show nodeB ⟨true, ⟨id, ps, xs⟩, is, ls⟩ = false by rw [HT.out, h5, h6]; rfl)
    go_wp2_with (first | (go_at_call 157; (with_reducible refine cM (refView_ (ps := ps) (xs := xs) hn (by omega)) ?_); rw [h5]; rintro e wp ⟨rfl, hbp⟩) | (go_at_call 84; (with_reducible refine cM (refStore_ (l := is)) ?_); rw [h6]; rintro e wq ⟨rfl, hbq⟩))
    go_ret
    exact ⟨by rw [HT2.out]; rfl, belL⟩
   ·have HT2 := Aside0.mk (show nodeB ⟨true, ⟨id, ps, xs⟩, is, ls⟩ = decide ((ls.length : Int) ≤ 64) by rw [HT.out, h5, h6, Bool.true_and, Bool.true_and]; exact decide_eq_decide.2 (by omega))
    go_wp2_with (first | (go_at_call 157; (with_reducible refine cM (refView_ (ps := ps) (xs := xs) hn (by omega)) ?_); rw [h5]; rintro e wp ⟨rfl, hbp⟩) | (go_at_call 84; (with_reducible refine cM (refStore_ (l := is)) ?_); rw [h6]; rintro e wq ⟨rfl, hbq⟩))
    go_ret
    exact ⟨by rw [HT2.out]; rfl, belL⟩
theorem refNode_ {up : Bool} {id : Int} {A B I L : Option Addr} {n c m d ni ci nl cl : Nat} {ps : List S98} {xs : List Int} {is : List S48} {ls : List S77} {w : World} [h1 : Sr k98 w A n c ps] [h2 : Sr kI w B m d xs] [h3 : Sr k48 w I ni ci is] [h4 : Sr k77 w L nl cl ls] (hn : n * 16 ≤ 140737488351232) (hs : n + m + ni + nl ≤ 1000000000000000) :
 Calls Tryz.prog 112 #[.agg #[.bool up, .int .i64 id, .slice A n c, .slice B m d, .slice I ni ci, .slice L nl cl]] w fun e w' => e = .returned (.bool (nodeB ⟨up, ⟨id, ps, xs⟩, is, ls⟩)) ∧ BelL w w' := by
 cases up
 ·exact refNode_d hs
 ·exact refNode_u hn hs
end
section
attribute [local go_sem] cell_tc2
attribute [local go_sem high] eqA46 eqA98 eqA77 eqA48
theorem eqZ48 (d : Nat) (w : World) (x0 x1 x2 x3 : Int) (x4 : Bool) :
 (Op.equalIn (d + 3) 48 (.agg #[.int .i64 x0, .int .i64 x1, .int .i64 x2, .int .i64 x3, .bool x4]) (.agg #[.int .i64 0, .int .i64 0, .int .i64 0, .int .i64 0, .bool false])).run Tryz.prog w = .ok (itemZ ⟨x0, ⟨x1, x2⟩, x3, x4⟩) w := by
 rw [eqA48]
 congr 1
 unfold itemZ
 cases x4 <;> simp [Bool.and_assoc]
attribute [-go_sem] eqA48
attribute [local go_sem high] eqZ48
theorem zz48 : itemZ z48 = true := rfl
set_option maxRecDepth 100000 in
set_option maxHeartbeats 16000000 in
theorem refMsg_0 {mf : Int} {mt : Int} {my : Int} {ik : Int} {ic : Int} {ix : Int} {iv : Int} {ig : Bool} {mh : Bool} {A : Option Addr} {c : Nat} {ids : List Int} {w : World} [h : Sr kI w A ids.length c ids]  :
 Calls Tryz.prog 188 #[.agg #[.int .i64 0, .int .i64 mf, .int .i64 mt, .slice A ids.length c, .int .i64 my, .int .i64 ik, .int .i64 ic, .int .i64 ix, .int .i64 iv, .bool ig, .bool mh]] w fun e w' => e = .returned (.bool (msgB ⟨0, mf, mt, ids, my, ⟨ik, ⟨ic, ix⟩, iv, ig⟩, mh⟩)) ∧ BelL w w' := by
 have hs := sr_l h
 clear h
 have LE := Aside0.mk (show decide ((ids.length : Int) ≤ 16) = decide (ids.length ≤ 16) from decide_eq_decide.2 (by omega))
 cases h_pf : placeB mf
 have HV := Aside0.mk (show msgB ⟨0, mf, mt, ids, my, ⟨ik, ⟨ic, ix⟩, iv, ig⟩, mh⟩ = false by simp [msgB, kindB, noneB, itemOk, zz48, h_pf])
 rotate_left
 cases h_pt : placeB mt
 have HV := Aside0.mk (show msgB ⟨0, mf, mt, ids, my, ⟨ik, ⟨ic, ix⟩, iv, ig⟩, mh⟩ = false by simp [msgB, kindB, noneB, itemOk, zz48, h_pf, h_pt])
 rotate_left
 cases h_ft : (mf == mt)
 cases h_y0 : (my == 0)
 have h_y0' : ¬ my = 0 := by simpa using h_y0
 have HV := Aside0.mk (show msgB ⟨0, mf, mt, ids, my, ⟨ik, ⟨ic, ix⟩, iv, ig⟩, mh⟩ = false by simp [msgB, kindB, noneB, itemOk, zz48, h_pf, h_pt, h_ft, h_y0, h_y0'])
 clear h_y0'
 rotate_left
 cases h_z : itemZ ⟨ik, ⟨ic, ix⟩, iv, ig⟩
 have h_y0' : my = 0 := by simpa using h_y0
 have HV := Aside0.mk (show msgB ⟨0, mf, mt, ids, my, ⟨ik, ⟨ic, ix⟩, iv, ig⟩, mh⟩ = false by simp [msgB, kindB, noneB, itemOk, zz48, h_pf, h_pt, h_ft, h_y0, h_z, h_y0'])
 clear h_y0'
 rotate_left
 cases mh
 cases h_ps : placesB ids
 have h_y0' : my = 0 := by simpa using h_y0
 have HV := Aside0.mk (show msgB ⟨0, mf, mt, ids, my, ⟨ik, ⟨ic, ix⟩, iv, ig⟩, false⟩ = false by simp [msgB, kindB, noneB, itemOk, zz48, h_pf, h_pt, h_ft, h_y0, h_z, h_ps, h_y0'])
 clear h_y0'
 rotate_left
 have h_y0' : my = 0 := by simpa using h_y0
 have HV := Aside0.mk (show msgB ⟨0, mf, mt, ids, my, ⟨ik, ⟨ic, ix⟩, iv, ig⟩, false⟩ = decide ((ids.length : Int) ≤ 16) by simp [msgB, kindB, noneB, itemOk, zz48, h_pf, h_pt, h_ft, h_y0, h_z, h_ps, LE.out, h_y0'])
 clear h_y0'
 rotate_left
 have h_y0' : my = 0 := by simpa using h_y0
 have HV := Aside0.mk (show msgB ⟨0, mf, mt, ids, my, ⟨ik, ⟨ic, ix⟩, iv, ig⟩, true⟩ = false by simp [msgB, kindB, noneB, itemOk, zz48, h_pf, h_pt, h_ft, h_y0, h_z, h_y0'])
 clear h_y0'
 rotate_left
 have HV := Aside0.mk (show msgB ⟨0, mf, mt, ids, my, ⟨ik, ⟨ic, ix⟩, iv, ig⟩, mh⟩ = false by simp [msgB, kindB, noneB, itemOk, zz48, h_pf, h_pt, h_ft])
 rotate_left
 all_goals
  go_enter Tryz.func188, Tryz.ntmps188
  go_wp2_with (first | (with_reducible refine box_tc rfl (N := 1) rfl (cs := #[.int .i64 0, .int .i64 mf, .int .i64 mt, .slice A ids.length c, .int .i64 my, .int .i64 ik, .int .i64 ic, .int .i64 ix, .int .i64 iv, .bool ig, .bool _]) (t := 126) ?hr ?_; (case hr => go_simp <;> rfl); intro g1 wg1 _ _ _) | (go_at_call 155; (with_reducible refine Calls.mono refPlaceB_ ?_); (first | rw [h_pf] | rw [h_pt] | rw [h_py]); rintro e wb ⟨rfl, hb⟩) | (go_at_call 205; (with_reducible refine cM (refPlaces_ (l := ids)) ?_); rintro e wb ⟨rfl, hb⟩) | (go_at_call 85; (with_reducible refine cM (refItem_) ?_); rintro e wb ⟨rfl, hb⟩))
  go_ret
  exact ⟨by rw [HV.out]; rfl, belL⟩
set_option maxRecDepth 100000 in
set_option maxHeartbeats 16000000 in
theorem refMsg_1 {mf : Int} {mt : Int} {my : Int} {ik : Int} {ic : Int} {ix : Int} {iv : Int} {ig : Bool} {mh : Bool} {A : Option Addr} {c : Nat} {ids : List Int} {w : World} [h : Sr kI w A ids.length c ids]  :
 Calls Tryz.prog 188 #[.agg #[.int .i64 1, .int .i64 mf, .int .i64 mt, .slice A ids.length c, .int .i64 my, .int .i64 ik, .int .i64 ic, .int .i64 ix, .int .i64 iv, .bool ig, .bool mh]] w fun e w' => e = .returned (.bool (msgB ⟨1, mf, mt, ids, my, ⟨ik, ⟨ic, ix⟩, iv, ig⟩, mh⟩)) ∧ BelL w w' := by
 have hs := sr_l h
 clear h
 cases h_pf : placeB mf
 have HV := Aside0.mk (show msgB ⟨1, mf, mt, ids, my, ⟨ik, ⟨ic, ix⟩, iv, ig⟩, mh⟩ = false by simp [msgB, kindB, noneB, itemOk, zz48, h_pf])
 rotate_left
 cases h_pt : placeB mt
 have HV := Aside0.mk (show msgB ⟨1, mf, mt, ids, my, ⟨ik, ⟨ic, ix⟩, iv, ig⟩, mh⟩ = false by simp [msgB, kindB, noneB, itemOk, zz48, h_pf, h_pt])
 rotate_left
 cases h_ft : (mf == mt)
 cases h_y0 : (my == 0)
 cases h_l0 : ((ids.length : Int) == 0)
 have h_l0' : ¬ ids.length = 0 := by simpa using h_l0
 have h_y0' : ¬ my = 0 := by simpa using h_y0
 have HV := Aside0.mk (show msgB ⟨1, mf, mt, ids, my, ⟨ik, ⟨ic, ix⟩, iv, ig⟩, mh⟩ = false by simp [msgB, kindB, noneB, itemOk, zz48, h_pf, h_pt, h_ft, h_y0, h_l0, h_l0', h_y0'])
 clear h_l0' h_y0'
 rotate_left
 have h_l0' : ids.length = 0 := by simpa using h_l0
 have h_y0' : ¬ my = 0 := by simpa using h_y0
 have HV := Aside0.mk (show msgB ⟨1, mf, mt, ids, my, ⟨ik, ⟨ic, ix⟩, iv, ig⟩, mh⟩ = false by simp [msgB, kindB, noneB, itemOk, zz48, h_pf, h_pt, h_ft, h_y0, h_l0, h_l0', h_y0'])
 clear h_l0' h_y0'
 rotate_left
 cases h_z : itemZ ⟨ik, ⟨ic, ix⟩, iv, ig⟩
 cases h_l0 : ((ids.length : Int) == 0)
 have h_l0' : ¬ ids.length = 0 := by simpa using h_l0
 have h_y0' : my = 0 := by simpa using h_y0
 have HV := Aside0.mk (show msgB ⟨1, mf, mt, ids, my, ⟨ik, ⟨ic, ix⟩, iv, ig⟩, mh⟩ = false by simp [msgB, kindB, noneB, itemOk, zz48, h_pf, h_pt, h_ft, h_y0, h_z, h_l0, h_l0', h_y0'])
 clear h_l0' h_y0'
 rotate_left
 cases mh
 have h_l0' : ids.length = 0 := by simpa using h_l0
 have h_y0' : my = 0 := by simpa using h_y0
 have HV := Aside0.mk (show msgB ⟨1, mf, mt, ids, my, ⟨ik, ⟨ic, ix⟩, iv, ig⟩, false⟩ = itemB ik ic ix iv ig by simp [msgB, kindB, noneB, itemOk, zz48, h_pf, h_pt, h_ft, h_y0, h_z, h_l0, h_l0', h_y0'])
 clear h_l0' h_y0'
 rotate_left
 have h_l0' : ids.length = 0 := by simpa using h_l0
 have h_y0' : my = 0 := by simpa using h_y0
 have HV := Aside0.mk (show msgB ⟨1, mf, mt, ids, my, ⟨ik, ⟨ic, ix⟩, iv, ig⟩, true⟩ = false by simp [msgB, kindB, noneB, itemOk, zz48, h_pf, h_pt, h_ft, h_y0, h_z, h_l0, h_l0', h_y0'])
 clear h_l0' h_y0'
 rotate_left
 cases mh
 cases h_l0 : ((ids.length : Int) == 0)
 have h_l0' : ¬ ids.length = 0 := by simpa using h_l0
 have h_y0' : my = 0 := by simpa using h_y0
 have HV := Aside0.mk (show msgB ⟨1, mf, mt, ids, my, ⟨ik, ⟨ic, ix⟩, iv, ig⟩, false⟩ = false by simp [msgB, kindB, noneB, itemOk, zz48, h_pf, h_pt, h_ft, h_y0, h_z, h_l0, h_l0', h_y0'])
 clear h_l0' h_y0'
 rotate_left
 have h_l0' : ids.length = 0 := by simpa using h_l0
 have h_y0' : my = 0 := by simpa using h_y0
 have HV := Aside0.mk (show msgB ⟨1, mf, mt, ids, my, ⟨ik, ⟨ic, ix⟩, iv, ig⟩, false⟩ = itemB ik ic ix iv ig by simp [msgB, kindB, noneB, itemOk, zz48, h_pf, h_pt, h_ft, h_y0, h_z, h_l0, h_l0', h_y0'])
 clear h_l0' h_y0'
 rotate_left
 cases h_l0 : ((ids.length : Int) == 0)
 have h_l0' : ¬ ids.length = 0 := by simpa using h_l0
 have h_y0' : my = 0 := by simpa using h_y0
 have HV := Aside0.mk (show msgB ⟨1, mf, mt, ids, my, ⟨ik, ⟨ic, ix⟩, iv, ig⟩, true⟩ = false by simp [msgB, kindB, noneB, itemOk, zz48, h_pf, h_pt, h_ft, h_y0, h_z, h_l0, h_l0', h_y0'])
 clear h_l0' h_y0'
 rotate_left
 have h_l0' : ids.length = 0 := by simpa using h_l0
 have h_y0' : my = 0 := by simpa using h_y0
 have HV := Aside0.mk (show msgB ⟨1, mf, mt, ids, my, ⟨ik, ⟨ic, ix⟩, iv, ig⟩, true⟩ = false by simp [msgB, kindB, noneB, itemOk, zz48, h_pf, h_pt, h_ft, h_y0, h_z, h_l0, h_l0', h_y0'])
 clear h_l0' h_y0'
 rotate_left
 have HV := Aside0.mk (show msgB ⟨1, mf, mt, ids, my, ⟨ik, ⟨ic, ix⟩, iv, ig⟩, mh⟩ = false by simp [msgB, kindB, noneB, itemOk, zz48, h_pf, h_pt, h_ft])
 rotate_left
 all_goals
  go_enter Tryz.func188, Tryz.ntmps188
  go_wp2_with (first | (with_reducible refine box_tc rfl (N := 1) rfl (cs := #[.int .i64 1, .int .i64 mf, .int .i64 mt, .slice A ids.length c, .int .i64 my, .int .i64 ik, .int .i64 ic, .int .i64 ix, .int .i64 iv, .bool ig, .bool _]) (t := 126) ?hr ?_; (case hr => go_simp <;> rfl); intro g1 wg1 _ _ _) | (go_at_call 155; (with_reducible refine Calls.mono refPlaceB_ ?_); (first | rw [h_pf] | rw [h_pt] | rw [h_py]); rintro e wb ⟨rfl, hb⟩) | (go_at_call 205; (with_reducible refine cM (refPlaces_ (l := ids)) ?_); rintro e wb ⟨rfl, hb⟩) | (go_at_call 85; (with_reducible refine cM (refItem_) ?_); rintro e wb ⟨rfl, hb⟩))
  go_ret
  exact ⟨by rw [HV.out]; rfl, belL⟩
set_option maxRecDepth 100000 in
set_option maxHeartbeats 16000000 in
theorem refMsg_2 {mf : Int} {mt : Int} {my : Int} {ik : Int} {ic : Int} {ix : Int} {iv : Int} {ig : Bool} {mh : Bool} {A : Option Addr} {c : Nat} {ids : List Int} {w : World} [h : Sr kI w A ids.length c ids]  :
 Calls Tryz.prog 188 #[.agg #[.int .i64 2, .int .i64 mf, .int .i64 mt, .slice A ids.length c, .int .i64 my, .int .i64 ik, .int .i64 ic, .int .i64 ix, .int .i64 iv, .bool ig, .bool mh]] w fun e w' => e = .returned (.bool (msgB ⟨2, mf, mt, ids, my, ⟨ik, ⟨ic, ix⟩, iv, ig⟩, mh⟩)) ∧ BelL w w' := by
 have hs := sr_l h
 clear h
 cases h_pf : placeB mf
 have HV := Aside0.mk (show msgB ⟨2, mf, mt, ids, my, ⟨ik, ⟨ic, ix⟩, iv, ig⟩, mh⟩ = false by simp [msgB, kindB, noneB, itemOk, zz48, h_pf])
 rotate_left
 cases h_pt : placeB mt
 have HV := Aside0.mk (show msgB ⟨2, mf, mt, ids, my, ⟨ik, ⟨ic, ix⟩, iv, ig⟩, mh⟩ = false by simp [msgB, kindB, noneB, itemOk, zz48, h_pf, h_pt])
 rotate_left
 cases h_ft : (mf == mt)
 cases h_y0 : (my == 0)
 cases h_l0 : ((ids.length : Int) == 0)
 have h_l0' : ¬ ids.length = 0 := by simpa using h_l0
 have h_y0' : ¬ my = 0 := by simpa using h_y0
 have HV := Aside0.mk (show msgB ⟨2, mf, mt, ids, my, ⟨ik, ⟨ic, ix⟩, iv, ig⟩, mh⟩ = false by simp [msgB, kindB, noneB, itemOk, zz48, h_pf, h_pt, h_ft, h_y0, h_l0, h_l0'])
 clear h_l0' h_y0'
 rotate_left
 cases h_py : placeB my
 have h_l0' : ids.length = 0 := by simpa using h_l0
 have h_y0' : ¬ my = 0 := by simpa using h_y0
 have HV := Aside0.mk (show msgB ⟨2, mf, mt, ids, my, ⟨ik, ⟨ic, ix⟩, iv, ig⟩, mh⟩ = false by simp [msgB, kindB, noneB, itemOk, zz48, h_pf, h_pt, h_ft, h_y0, h_l0, h_py, h_l0'])
 clear h_l0' h_y0'
 rotate_left
 cases h_z : itemZ ⟨ik, ⟨ic, ix⟩, iv, ig⟩
 have h_l0' : ids.length = 0 := by simpa using h_l0
 have h_y0' : ¬ my = 0 := by simpa using h_y0
 have HV := Aside0.mk (show msgB ⟨2, mf, mt, ids, my, ⟨ik, ⟨ic, ix⟩, iv, ig⟩, mh⟩ = false by simp [msgB, kindB, noneB, itemOk, zz48, h_pf, h_pt, h_ft, h_y0, h_l0, h_py, h_z, h_l0'])
 clear h_l0' h_y0'
 rotate_left
 cases mh
 have h_l0' : ids.length = 0 := by simpa using h_l0
 have h_y0' : ¬ my = 0 := by simpa using h_y0
 have HV := Aside0.mk (show msgB ⟨2, mf, mt, ids, my, ⟨ik, ⟨ic, ix⟩, iv, ig⟩, false⟩ = true by simp [msgB, kindB, noneB, itemOk, zz48, h_pf, h_pt, h_ft, h_y0, h_l0, h_py, h_z, h_l0'])
 clear h_l0' h_y0'
 rotate_left
 have h_l0' : ids.length = 0 := by simpa using h_l0
 have h_y0' : ¬ my = 0 := by simpa using h_y0
 have HV := Aside0.mk (show msgB ⟨2, mf, mt, ids, my, ⟨ik, ⟨ic, ix⟩, iv, ig⟩, true⟩ = false by simp [msgB, kindB, noneB, itemOk, zz48, h_pf, h_pt, h_ft, h_y0, h_l0, h_py, h_z, h_l0'])
 clear h_l0' h_y0'
 rotate_left
 cases h_z : itemZ ⟨ik, ⟨ic, ix⟩, iv, ig⟩
 cases h_l0 : ((ids.length : Int) == 0)
 have h_l0' : ¬ ids.length = 0 := by simpa using h_l0
 have h_y0' : my = 0 := by simpa using h_y0
 have HV := Aside0.mk (show msgB ⟨2, mf, mt, ids, my, ⟨ik, ⟨ic, ix⟩, iv, ig⟩, mh⟩ = false by simp [msgB, kindB, noneB, itemOk, zz48, h_pf, h_pt, h_ft, h_y0, h_z, h_l0, h_l0'])
 clear h_l0' h_y0'
 rotate_left
 cases h_py : placeB my
 have h_l0' : ids.length = 0 := by simpa using h_l0
 have h_y0' : my = 0 := by simpa using h_y0
 have HV := Aside0.mk (show msgB ⟨2, mf, mt, ids, my, ⟨ik, ⟨ic, ix⟩, iv, ig⟩, mh⟩ = false by simp [msgB, kindB, noneB, itemOk, zz48, h_pf, h_pt, h_ft, h_y0, h_z, h_l0, h_py, h_l0'])
 clear h_l0' h_y0'
 rotate_left
 have h_l0' : ids.length = 0 := by simpa using h_l0
 have h_y0' : my = 0 := by simpa using h_y0
 have HV := Aside0.mk (show msgB ⟨2, mf, mt, ids, my, ⟨ik, ⟨ic, ix⟩, iv, ig⟩, mh⟩ = false by simp [msgB, kindB, noneB, itemOk, zz48, h_pf, h_pt, h_ft, h_y0, h_z, h_l0, h_py, h_l0'])
 clear h_l0' h_y0'
 rotate_left
 cases mh
 cases h_l0 : ((ids.length : Int) == 0)
 have h_l0' : ¬ ids.length = 0 := by simpa using h_l0
 have h_y0' : my = 0 := by simpa using h_y0
 have HV := Aside0.mk (show msgB ⟨2, mf, mt, ids, my, ⟨ik, ⟨ic, ix⟩, iv, ig⟩, false⟩ = false by simp [msgB, kindB, noneB, itemOk, zz48, h_pf, h_pt, h_ft, h_y0, h_z, h_l0, h_l0'])
 clear h_l0' h_y0'
 rotate_left
 cases h_py : placeB my
 have h_l0' : ids.length = 0 := by simpa using h_l0
 have h_y0' : my = 0 := by simpa using h_y0
 have HV := Aside0.mk (show msgB ⟨2, mf, mt, ids, my, ⟨ik, ⟨ic, ix⟩, iv, ig⟩, false⟩ = false by simp [msgB, kindB, noneB, itemOk, zz48, h_pf, h_pt, h_ft, h_y0, h_z, h_l0, h_py, h_l0'])
 clear h_l0' h_y0'
 rotate_left
 have h_l0' : ids.length = 0 := by simpa using h_l0
 have h_y0' : my = 0 := by simpa using h_y0
 have HV := Aside0.mk (show msgB ⟨2, mf, mt, ids, my, ⟨ik, ⟨ic, ix⟩, iv, ig⟩, false⟩ = true by simp [msgB, kindB, noneB, itemOk, zz48, h_pf, h_pt, h_ft, h_y0, h_z, h_l0, h_py, h_l0'])
 clear h_l0' h_y0'
 rotate_left
 cases h_l0 : ((ids.length : Int) == 0)
 have h_l0' : ¬ ids.length = 0 := by simpa using h_l0
 have h_y0' : my = 0 := by simpa using h_y0
 have HV := Aside0.mk (show msgB ⟨2, mf, mt, ids, my, ⟨ik, ⟨ic, ix⟩, iv, ig⟩, true⟩ = false by simp [msgB, kindB, noneB, itemOk, zz48, h_pf, h_pt, h_ft, h_y0, h_z, h_l0, h_l0'])
 clear h_l0' h_y0'
 rotate_left
 cases h_py : placeB my
 have h_l0' : ids.length = 0 := by simpa using h_l0
 have h_y0' : my = 0 := by simpa using h_y0
 have HV := Aside0.mk (show msgB ⟨2, mf, mt, ids, my, ⟨ik, ⟨ic, ix⟩, iv, ig⟩, true⟩ = false by simp [msgB, kindB, noneB, itemOk, zz48, h_pf, h_pt, h_ft, h_y0, h_z, h_l0, h_py, h_l0'])
 clear h_l0' h_y0'
 rotate_left
 have h_l0' : ids.length = 0 := by simpa using h_l0
 have h_y0' : my = 0 := by simpa using h_y0
 have HV := Aside0.mk (show msgB ⟨2, mf, mt, ids, my, ⟨ik, ⟨ic, ix⟩, iv, ig⟩, true⟩ = false by simp [msgB, kindB, noneB, itemOk, zz48, h_pf, h_pt, h_ft, h_y0, h_z, h_l0, h_py, h_l0'])
 clear h_l0' h_y0'
 rotate_left
 have HV := Aside0.mk (show msgB ⟨2, mf, mt, ids, my, ⟨ik, ⟨ic, ix⟩, iv, ig⟩, mh⟩ = false by simp [msgB, kindB, noneB, itemOk, zz48, h_pf, h_pt, h_ft])
 rotate_left
 all_goals
  go_enter Tryz.func188, Tryz.ntmps188
  go_wp2_with (first | (with_reducible refine box_tc rfl (N := 1) rfl (cs := #[.int .i64 2, .int .i64 mf, .int .i64 mt, .slice A ids.length c, .int .i64 my, .int .i64 ik, .int .i64 ic, .int .i64 ix, .int .i64 iv, .bool ig, .bool _]) (t := 126) ?hr ?_; (case hr => go_simp <;> rfl); intro g1 wg1 _ _ _) | (go_at_call 155; (with_reducible refine Calls.mono refPlaceB_ ?_); (first | rw [h_pf] | rw [h_pt] | rw [h_py]); rintro e wb ⟨rfl, hb⟩) | (go_at_call 205; (with_reducible refine cM (refPlaces_ (l := ids)) ?_); rintro e wb ⟨rfl, hb⟩) | (go_at_call 85; (with_reducible refine cM (refItem_) ?_); rintro e wb ⟨rfl, hb⟩))
  go_ret
  exact ⟨by rw [HV.out]; rfl, belL⟩
set_option maxRecDepth 100000 in
set_option maxHeartbeats 16000000 in
theorem refMsg_3 {mf : Int} {mt : Int} {my : Int} {ik : Int} {ic : Int} {ix : Int} {iv : Int} {ig : Bool} {mh : Bool} {A : Option Addr} {c : Nat} {ids : List Int} {w : World} [h : Sr kI w A ids.length c ids]  :
 Calls Tryz.prog 188 #[.agg #[.int .i64 3, .int .i64 mf, .int .i64 mt, .slice A ids.length c, .int .i64 my, .int .i64 ik, .int .i64 ic, .int .i64 ix, .int .i64 iv, .bool ig, .bool mh]] w fun e w' => e = .returned (.bool (msgB ⟨3, mf, mt, ids, my, ⟨ik, ⟨ic, ix⟩, iv, ig⟩, mh⟩)) ∧ BelL w w' := by
 have hs := sr_l h
 clear h
 cases h_pf : placeB mf
 have HV := Aside0.mk (show msgB ⟨3, mf, mt, ids, my, ⟨ik, ⟨ic, ix⟩, iv, ig⟩, mh⟩ = false by simp [msgB, kindB, noneB, itemOk, zz48, h_pf])
 rotate_left
 cases h_pt : placeB mt
 have HV := Aside0.mk (show msgB ⟨3, mf, mt, ids, my, ⟨ik, ⟨ic, ix⟩, iv, ig⟩, mh⟩ = false by simp [msgB, kindB, noneB, itemOk, zz48, h_pf, h_pt])
 rotate_left
 cases h_ft : (mf == mt)
 cases h_y0 : (my == 0)
 cases h_l0 : ((ids.length : Int) == 0)
 have h_l0' : ¬ ids.length = 0 := by simpa using h_l0
 have h_y0' : ¬ my = 0 := by simpa using h_y0
 have HV := Aside0.mk (show msgB ⟨3, mf, mt, ids, my, ⟨ik, ⟨ic, ix⟩, iv, ig⟩, mh⟩ = false by simp [msgB, kindB, noneB, itemOk, zz48, h_pf, h_pt, h_ft, h_y0, h_l0, h_l0'])
 clear h_l0' h_y0'
 rotate_left
 cases h_py : placeB my
 have h_l0' : ids.length = 0 := by simpa using h_l0
 have h_y0' : ¬ my = 0 := by simpa using h_y0
 have HV := Aside0.mk (show msgB ⟨3, mf, mt, ids, my, ⟨ik, ⟨ic, ix⟩, iv, ig⟩, mh⟩ = false by simp [msgB, kindB, noneB, itemOk, zz48, h_pf, h_pt, h_ft, h_y0, h_l0, h_py, h_l0'])
 clear h_l0' h_y0'
 rotate_left
 cases mh
 cases h_z : itemZ ⟨ik, ⟨ic, ix⟩, iv, ig⟩
 have h_l0' : ids.length = 0 := by simpa using h_l0
 have h_y0' : ¬ my = 0 := by simpa using h_y0
 have HV := Aside0.mk (show msgB ⟨3, mf, mt, ids, my, ⟨ik, ⟨ic, ix⟩, iv, ig⟩, false⟩ = false by simp [msgB, kindB, noneB, itemOk, zz48, h_pf, h_pt, h_ft, h_y0, h_l0, h_py, h_z, h_l0'])
 clear h_l0' h_y0'
 rotate_left
 have h_l0' : ids.length = 0 := by simpa using h_l0
 have h_y0' : ¬ my = 0 := by simpa using h_y0
 have HV := Aside0.mk (show msgB ⟨3, mf, mt, ids, my, ⟨ik, ⟨ic, ix⟩, iv, ig⟩, false⟩ = true by simp [msgB, kindB, noneB, itemOk, zz48, h_pf, h_pt, h_ft, h_y0, h_l0, h_py, h_z, h_l0'])
 clear h_l0' h_y0'
 rotate_left
 cases h_io : itemB ik ic ix iv ig
 have h_l0' : ids.length = 0 := by simpa using h_l0
 have h_y0' : ¬ my = 0 := by simpa using h_y0
 have HV := Aside0.mk (show msgB ⟨3, mf, mt, ids, my, ⟨ik, ⟨ic, ix⟩, iv, ig⟩, true⟩ = false by simp [msgB, kindB, noneB, itemOk, zz48, h_pf, h_pt, h_ft, h_y0, h_l0, h_py, h_io, h_l0'])
 clear h_l0' h_y0'
 rotate_left
 cases h_ky : (ik == my)
 have h_l0' : ids.length = 0 := by simpa using h_l0
 have h_y0' : ¬ my = 0 := by simpa using h_y0
 have HV := Aside0.mk (show msgB ⟨3, mf, mt, ids, my, ⟨ik, ⟨ic, ix⟩, iv, ig⟩, true⟩ = false by simp [msgB, kindB, noneB, itemOk, zz48, h_pf, h_pt, h_ft, h_y0, h_l0, h_py, h_io, h_ky, h_l0'])
 clear h_l0' h_y0'
 rotate_left
 have h_l0' : ids.length = 0 := by simpa using h_l0
 have h_y0' : ¬ my = 0 := by simpa using h_y0
 have HV := Aside0.mk (show msgB ⟨3, mf, mt, ids, my, ⟨ik, ⟨ic, ix⟩, iv, ig⟩, true⟩ = true by simp [msgB, kindB, noneB, itemOk, zz48, h_pf, h_pt, h_ft, h_y0, h_l0, h_py, h_io, h_ky, h_l0'])
 clear h_l0' h_y0'
 rotate_left
 cases h_z : itemZ ⟨ik, ⟨ic, ix⟩, iv, ig⟩
 cases h_l0 : ((ids.length : Int) == 0)
 have h_l0' : ¬ ids.length = 0 := by simpa using h_l0
 have h_y0' : my = 0 := by simpa using h_y0
 have HV := Aside0.mk (show msgB ⟨3, mf, mt, ids, my, ⟨ik, ⟨ic, ix⟩, iv, ig⟩, mh⟩ = false by simp [msgB, kindB, noneB, itemOk, zz48, h_pf, h_pt, h_ft, h_y0, h_z, h_l0, h_l0'])
 clear h_l0' h_y0'
 rotate_left
 cases h_py : placeB my
 have h_l0' : ids.length = 0 := by simpa using h_l0
 have h_y0' : my = 0 := by simpa using h_y0
 have HV := Aside0.mk (show msgB ⟨3, mf, mt, ids, my, ⟨ik, ⟨ic, ix⟩, iv, ig⟩, mh⟩ = false by simp [msgB, kindB, noneB, itemOk, zz48, h_pf, h_pt, h_ft, h_y0, h_z, h_l0, h_py, h_l0'])
 clear h_l0' h_y0'
 rotate_left
 cases mh
 have h_l0' : ids.length = 0 := by simpa using h_l0
 have h_y0' : my = 0 := by simpa using h_y0
 have HV := Aside0.mk (show msgB ⟨3, mf, mt, ids, my, ⟨ik, ⟨ic, ix⟩, iv, ig⟩, false⟩ = false by simp [msgB, kindB, noneB, itemOk, zz48, h_pf, h_pt, h_ft, h_y0, h_z, h_l0, h_py, h_l0'])
 clear h_l0' h_y0'
 rotate_left
 cases h_io : itemB ik ic ix iv ig
 have h_l0' : ids.length = 0 := by simpa using h_l0
 have h_y0' : my = 0 := by simpa using h_y0
 have HV := Aside0.mk (show msgB ⟨3, mf, mt, ids, my, ⟨ik, ⟨ic, ix⟩, iv, ig⟩, true⟩ = false by simp [msgB, kindB, noneB, itemOk, zz48, h_pf, h_pt, h_ft, h_y0, h_z, h_l0, h_py, h_io, h_l0'])
 clear h_l0' h_y0'
 rotate_left
 cases h_ky : (ik == my)
 have h_l0' : ids.length = 0 := by simpa using h_l0
 have h_y0' : my = 0 := by simpa using h_y0
 have HV := Aside0.mk (show msgB ⟨3, mf, mt, ids, my, ⟨ik, ⟨ic, ix⟩, iv, ig⟩, true⟩ = false by simp [msgB, kindB, noneB, itemOk, zz48, h_pf, h_pt, h_ft, h_y0, h_z, h_l0, h_py, h_io, h_ky, h_l0'])
 clear h_l0' h_y0'
 rotate_left
 have h_l0' : ids.length = 0 := by simpa using h_l0
 have h_y0' : my = 0 := by simpa using h_y0
 have HV := Aside0.mk (show msgB ⟨3, mf, mt, ids, my, ⟨ik, ⟨ic, ix⟩, iv, ig⟩, true⟩ = true by simp [msgB, kindB, noneB, itemOk, zz48, h_pf, h_pt, h_ft, h_y0, h_z, h_l0, h_py, h_io, h_ky, h_l0'])
 clear h_l0' h_y0'
 rotate_left
 cases mh
 cases h_l0 : ((ids.length : Int) == 0)
 have h_l0' : ¬ ids.length = 0 := by simpa using h_l0
 have h_y0' : my = 0 := by simpa using h_y0
 have HV := Aside0.mk (show msgB ⟨3, mf, mt, ids, my, ⟨ik, ⟨ic, ix⟩, iv, ig⟩, false⟩ = false by simp [msgB, kindB, noneB, itemOk, zz48, h_pf, h_pt, h_ft, h_y0, h_z, h_l0, h_l0'])
 clear h_l0' h_y0'
 rotate_left
 cases h_py : placeB my
 have h_l0' : ids.length = 0 := by simpa using h_l0
 have h_y0' : my = 0 := by simpa using h_y0
 have HV := Aside0.mk (show msgB ⟨3, mf, mt, ids, my, ⟨ik, ⟨ic, ix⟩, iv, ig⟩, false⟩ = false by simp [msgB, kindB, noneB, itemOk, zz48, h_pf, h_pt, h_ft, h_y0, h_z, h_l0, h_py, h_l0'])
 clear h_l0' h_y0'
 rotate_left
 have h_l0' : ids.length = 0 := by simpa using h_l0
 have h_y0' : my = 0 := by simpa using h_y0
 have HV := Aside0.mk (show msgB ⟨3, mf, mt, ids, my, ⟨ik, ⟨ic, ix⟩, iv, ig⟩, false⟩ = true by simp [msgB, kindB, noneB, itemOk, zz48, h_pf, h_pt, h_ft, h_y0, h_z, h_l0, h_py, h_l0'])
 clear h_l0' h_y0'
 rotate_left
 cases h_l0 : ((ids.length : Int) == 0)
 have h_l0' : ¬ ids.length = 0 := by simpa using h_l0
 have h_y0' : my = 0 := by simpa using h_y0
 have HV := Aside0.mk (show msgB ⟨3, mf, mt, ids, my, ⟨ik, ⟨ic, ix⟩, iv, ig⟩, true⟩ = false by simp [msgB, kindB, noneB, itemOk, zz48, h_pf, h_pt, h_ft, h_y0, h_z, h_l0, h_l0'])
 clear h_l0' h_y0'
 rotate_left
 cases h_py : placeB my
 have h_l0' : ids.length = 0 := by simpa using h_l0
 have h_y0' : my = 0 := by simpa using h_y0
 have HV := Aside0.mk (show msgB ⟨3, mf, mt, ids, my, ⟨ik, ⟨ic, ix⟩, iv, ig⟩, true⟩ = false by simp [msgB, kindB, noneB, itemOk, zz48, h_pf, h_pt, h_ft, h_y0, h_z, h_l0, h_py, h_l0'])
 clear h_l0' h_y0'
 rotate_left
 cases h_io : itemB ik ic ix iv ig
 have h_l0' : ids.length = 0 := by simpa using h_l0
 have h_y0' : my = 0 := by simpa using h_y0
 have HV := Aside0.mk (show msgB ⟨3, mf, mt, ids, my, ⟨ik, ⟨ic, ix⟩, iv, ig⟩, true⟩ = false by simp [msgB, kindB, noneB, itemOk, zz48, h_pf, h_pt, h_ft, h_y0, h_z, h_l0, h_py, h_io, h_l0'])
 clear h_l0' h_y0'
 rotate_left
 cases h_ky : (ik == my)
 have h_l0' : ids.length = 0 := by simpa using h_l0
 have h_y0' : my = 0 := by simpa using h_y0
 have HV := Aside0.mk (show msgB ⟨3, mf, mt, ids, my, ⟨ik, ⟨ic, ix⟩, iv, ig⟩, true⟩ = false by simp [msgB, kindB, noneB, itemOk, zz48, h_pf, h_pt, h_ft, h_y0, h_z, h_l0, h_py, h_io, h_ky, h_l0'])
 clear h_l0' h_y0'
 rotate_left
 have h_l0' : ids.length = 0 := by simpa using h_l0
 have h_y0' : my = 0 := by simpa using h_y0
 have HV := Aside0.mk (show msgB ⟨3, mf, mt, ids, my, ⟨ik, ⟨ic, ix⟩, iv, ig⟩, true⟩ = true by simp [msgB, kindB, noneB, itemOk, zz48, h_pf, h_pt, h_ft, h_y0, h_z, h_l0, h_py, h_io, h_ky, h_l0'])
 clear h_l0' h_y0'
 rotate_left
 have HV := Aside0.mk (show msgB ⟨3, mf, mt, ids, my, ⟨ik, ⟨ic, ix⟩, iv, ig⟩, mh⟩ = false by simp [msgB, kindB, noneB, itemOk, zz48, h_pf, h_pt, h_ft])
 rotate_left
 all_goals
  go_enter Tryz.func188, Tryz.ntmps188
  go_wp2_with (first | (with_reducible refine box_tc rfl (N := 1) rfl (cs := #[.int .i64 3, .int .i64 mf, .int .i64 mt, .slice A ids.length c, .int .i64 my, .int .i64 ik, .int .i64 ic, .int .i64 ix, .int .i64 iv, .bool ig, .bool _]) (t := 126) ?hr ?_; (case hr => go_simp <;> rfl); intro g1 wg1 _ _ _) | (go_at_call 155; (with_reducible refine Calls.mono refPlaceB_ ?_); (first | rw [h_pf] | rw [h_pt] | rw [h_py]); rintro e wb ⟨rfl, hb⟩) | (go_at_call 205; (with_reducible refine cM (refPlaces_ (l := ids)) ?_); rintro e wb ⟨rfl, hb⟩) | (go_at_call 85; (with_reducible refine cM (refItem_) ?_); rintro e wb ⟨rfl, hb⟩))
  go_ret
  exact ⟨by rw [HV.out]; rfl, belL⟩
set_option maxRecDepth 100000 in
set_option maxHeartbeats 16000000 in
theorem refMsg_4 {mk : Int} {mf : Int} {mt : Int} {my : Int} {ik : Int} {ic : Int} {ix : Int} {iv : Int} {ig : Bool} {mh : Bool} {A : Option Addr} {c : Nat} {ids : List Int} {w : World} [h : Sr kI w A ids.length c ids] (q0 : ¬ mk = 0) (q1 : ¬ mk = 1) (q2 : ¬ mk = 2) (q3 : ¬ mk = 3) :
 Calls Tryz.prog 188 #[.agg #[.int .i64 mk, .int .i64 mf, .int .i64 mt, .slice A ids.length c, .int .i64 my, .int .i64 ik, .int .i64 ic, .int .i64 ix, .int .i64 iv, .bool ig, .bool mh]] w fun e w' => e = .returned (.bool (msgB ⟨mk, mf, mt, ids, my, ⟨ik, ⟨ic, ix⟩, iv, ig⟩, mh⟩)) ∧ BelL w w' := by
 have hs := sr_l h
 clear h
 have r0 : (mk == 0) = false := by simpa using q0
 have r1 : (mk == 1) = false := by simpa using q1
 have r2 : (mk == 2) = false := by simpa using q2
 have r3 : (mk == 3) = false := by simpa using q3
 cases h_pf : placeB mf
 have HV := Aside0.mk (show msgB ⟨mk, mf, mt, ids, my, ⟨ik, ⟨ic, ix⟩, iv, ig⟩, mh⟩ = false by simp [msgB, kindB, noneB, itemOk, zz48, q0, q1, q2, q3, h_pf])
 rotate_left
 cases h_pt : placeB mt
 have HV := Aside0.mk (show msgB ⟨mk, mf, mt, ids, my, ⟨ik, ⟨ic, ix⟩, iv, ig⟩, mh⟩ = false by simp [msgB, kindB, noneB, itemOk, zz48, q0, q1, q2, q3, h_pf, h_pt])
 rotate_left
 cases h_ft : (mf == mt)
 cases h_y0 : (my == 0)
 have h_y0' : ¬ my = 0 := by simpa using h_y0
 have HV := Aside0.mk (show msgB ⟨mk, mf, mt, ids, my, ⟨ik, ⟨ic, ix⟩, iv, ig⟩, mh⟩ = false by simp [msgB, kindB, noneB, itemOk, zz48, q0, q1, q2, q3, h_pf, h_pt, h_ft, h_y0])
 clear h_y0'
 rotate_left
 cases h_z : itemZ ⟨ik, ⟨ic, ix⟩, iv, ig⟩
 have h_y0' : my = 0 := by simpa using h_y0
 have HV := Aside0.mk (show msgB ⟨mk, mf, mt, ids, my, ⟨ik, ⟨ic, ix⟩, iv, ig⟩, mh⟩ = false by simp [msgB, kindB, noneB, itemOk, zz48, q0, q1, q2, q3, h_pf, h_pt, h_ft, h_y0, h_z])
 clear h_y0'
 rotate_left
 cases mh
 have h_y0' : my = 0 := by simpa using h_y0
 have HV := Aside0.mk (show msgB ⟨mk, mf, mt, ids, my, ⟨ik, ⟨ic, ix⟩, iv, ig⟩, false⟩ = false by simp [msgB, kindB, noneB, itemOk, zz48, q0, q1, q2, q3, h_pf, h_pt, h_ft, h_y0, h_z])
 clear h_y0'
 rotate_left
 have h_y0' : my = 0 := by simpa using h_y0
 have HV := Aside0.mk (show msgB ⟨mk, mf, mt, ids, my, ⟨ik, ⟨ic, ix⟩, iv, ig⟩, true⟩ = false by simp [msgB, kindB, noneB, itemOk, zz48, q0, q1, q2, q3, h_pf, h_pt, h_ft, h_y0, h_z])
 clear h_y0'
 rotate_left
 have HV := Aside0.mk (show msgB ⟨mk, mf, mt, ids, my, ⟨ik, ⟨ic, ix⟩, iv, ig⟩, mh⟩ = false by simp [msgB, kindB, noneB, itemOk, zz48, q0, q1, q2, q3, h_pf, h_pt, h_ft])
 rotate_left
 all_goals
  go_enter Tryz.func188, Tryz.ntmps188
  go_wp2_with (first | (with_reducible refine box_tc rfl (N := 1) rfl (cs := #[.int .i64 mk, .int .i64 mf, .int .i64 mt, .slice A ids.length c, .int .i64 my, .int .i64 ik, .int .i64 ic, .int .i64 ix, .int .i64 iv, .bool ig, .bool _]) (t := 126) ?hr ?_; (case hr => go_simp <;> rfl); intro g1 wg1 _ _ _) | (go_at_call 155; (with_reducible refine Calls.mono refPlaceB_ ?_); (first | rw [h_pf] | rw [h_pt] | rw [h_py]); rintro e wb ⟨rfl, hb⟩) | (go_at_call 205; (with_reducible refine cM (refPlaces_ (l := ids)) ?_); rintro e wb ⟨rfl, hb⟩) | (go_at_call 85; (with_reducible refine cM (refItem_) ?_); rintro e wb ⟨rfl, hb⟩))
  go_ret
  exact ⟨by rw [HV.out]; rfl, belL⟩
theorem refMsg_ {mk mf mt my ik ic ix iv : Int} {ig mh : Bool} {A : Option Addr} {n c : Nat} {ids : List Int} {w : World} [h : Sr kI w A n c ids] :
 Calls Tryz.prog 188 #[.agg #[.int .i64 mk, .int .i64 mf, .int .i64 mt, .slice A n c, .int .i64 my, .int .i64 ik, .int .i64 ic, .int .i64 ix, .int .i64 iv, .bool ig, .bool mh]] w fun e w' => e = .returned (.bool (msgB ⟨mk, mf, mt, ids, my, ⟨ik, ⟨ic, ix⟩, iv, ig⟩, mh⟩)) ∧ BelL w w' := by
 obtain rfl := h.len
 by_cases q0 : mk = 0
 ·subst q0; exact refMsg_0
 by_cases q1 : mk = 1
 ·subst q1; exact refMsg_1
 by_cases q2 : mk = 2
 ·subst q2; exact refMsg_2
 by_cases q3 : mk = 3
 ·subst q3; exact refMsg_3
 exact refMsg_4 q0 q1 q2 q3
end
section
attribute [local go_sem] cell_tc2
attribute [local go_sem high] eqA46 eqA98 eqA77 eqA48
set_option maxHeartbeats 4000000 in
theorem refQueue_ {A : Option Addr} {n c : Nat} {l : List S126} {w : World} [h : Sr k126 w A n c l] :
 Calls Tryz.prog 158 #[.slice A n c] w fun e w' => e = .returned (.bool (queueB l)) ∧ BelL w w' := by
 obtain rfl := h.len
 have HS := sr_l h
 have hlen : l.length ≤ 9223372036854775807 := h.C.2.1
 have hq : queueB l = (l.all msgB && decide (l.length ≤ 512)) := by
  unfold queueB badMsgs
  rw [Bool.and_comm]
  congr 1
  rw [Bool.eq_iff_iff]
  simp
 clear h
 go_enter Tryz.func158, Tryz.ntmps158
 go_wp2
 go_loopg [3] l.length (fun kq v3 w' => ∃ i : Nat, v3 = .int .i64 i ∧ i ≤ l.length ∧ kq = l.length - i ∧ Aside0 ((l.take i).all msgB = true) ∧ BelL w w')
 case atStart => exact ⟨0, rfl, Nat.zero_le _, rfl, ⟨rfl⟩, belL⟩
 case round =>
  obtain ⟨i, rfl, hi, rfl, HA, hbr⟩ := hrel
  by_cases hlt : i < l.length
  ·obtain ⟨ad, A3, c3, rfl, x0, x1, x2, x3, x4, x5, x6, x7, x8, x9, x10, g3⟩ := el_T126 (W := wr) (A := A) (n := l.length) (c := c) (l := l) i hlt
   have HXI := Aside0.mk (show (⟨l[i].f0, l[i].f1, l[i].f2, l[i].f3, l[i].f4, ⟨l[i].f5.f0, ⟨l[i].f5.f1.f0, l[i].f5.f1.f1⟩, l[i].f5.f2, l[i].f5.f3⟩, l[i].f6⟩ : S126) = l[i] from rfl)
   cases h1 : msgB ⟨l[i].f0, l[i].f1, l[i].f2, l[i].f3, l[i].f4, ⟨l[i].f5.f0, ⟨l[i].f5.f1.f0, l[i].f5.f1.f1⟩, l[i].f5.f2, l[i].f5.f3⟩, l[i].f6⟩
   ·have HF := Aside0.mk (show queueB l = false by rw [hq, all_stop hlt h1]; rfl)
    go_wp2_with (first | (go_at_call 188; (with_reducible refine cM (refMsg_ (n := l[i].f3.length) (ids := l[i].f3)) ?_); rw [h1]; rintro e wb ⟨rfl, hb⟩))
    go_ret
    exact ⟨by rw [HF.out]; rfl, belL⟩
   ·have HT := Aside0.mk (all_step hlt HA.out h1)
    go_wp2_with (first | (go_at_call 188; (with_reducible refine cM (refMsg_ (n := l[i].f3.length) (ids := l[i].f3)) ?_); rw [h1]; rintro e wb ⟨rfl, hb⟩))
    go_roundg (l.length - (i + 1))
    case measure => omega
    case rel => exact ⟨i + 1, by go_num, by omega, rfl, HT, belL⟩
  ·have HT := Aside0.mk (show queueB l = decide ((l.length : Int) ≤ 512) by
    have := HA.out
    rw [List.take_of_length_le (by omega)] at this
    rw [hq, this, Bool.true_and]; exact decide_eq_decide.2 (by omega))
   go_wp2
   go_ret
   exact ⟨by rw [HT.out]; rfl, belL⟩
def packB (ns : List S40) (m : S126) : Bool := isNode ns m.f1 && (isNode ns m.f2 && m.f3.all (isNode ns))
set_option maxRecDepth 100000 in
set_option maxHeartbeats 8000000 in
theorem refPackets_ {A B : Option Addr} {n c m d : Nat} {ns : List S40} {ms : List S126} {w : World} [h : Sr k40 w A n c ns] [g : Sr k126 w B m d ms] :
 Calls Tryz.prog 116 #[.slice A n c, .slice B m d] w fun e w' => e = .returned (.bool (ms.all (packB ns) && queueB ms)) ∧ BelL w w' := by
 obtain rfl := h.len
 obtain rfl := g.len
 have HS := sr_l h
 have HG := sr_l g
 have hlen : ms.length ≤ 9223372036854775807 := g.C.2.1
 clear h g
 go_enter Tryz.func116, Tryz.ntmps116
 go_wp2
 go_loopg [5] ms.length (fun kq v5 w' => ∃ i : Nat, v5 = .int .i64 i ∧ i ≤ ms.length ∧ kq = ms.length - i ∧ Aside0 ((ms.take i).all (packB ns) = true) ∧ BelL w w')
 case atStart => exact ⟨0, rfl, Nat.zero_le _, rfl, ⟨rfl⟩, belL⟩
 case round =>
  obtain ⟨i, rfl, hi, rfl, HA, hbr⟩ := hrel
  by_cases hlt : i < ms.length
  ·obtain ⟨ad, A3, c3, rfl, x0, x1, x2, x3, x4, x5, x6, x7, x8, x9, x10, g3⟩ := el_T126 (W := wr) (A := B) (n := ms.length) (c := d) (l := ms) i hlt
   have hq1 := atI_neg ns ms[i].f1
   have hq2 := atI_neg ns ms[i].f2
   cases h3 : isNode ns ms[i].f1
   ·rw [h3] at hq1
    simp only [Bool.not_false] at hq1
    have HF := Aside0.mk (show ms.all (packB ns) = false from all_stop hlt (by unfold packB; simp [h3]))
    go_wp2_with (first | (go_at_call 64; (with_reducible refine cM (at_ (l := ns)) ?_); rintro e wb ⟨rfl, hb⟩) | (go_at_call 113; (with_reducible refine cM (refAll_ (l := ns) (xs := ms[i].f3)) ?_); rw [h5]; rintro e w1 ⟨rfl, hb⟩))
    go_ret
    exact ⟨by rw [HF.out]; rfl, belL⟩
   rw [h3] at hq1
   simp only [Bool.not_true] at hq1
   cases h4 : isNode ns ms[i].f2
   ·rw [h4] at hq2
    simp only [Bool.not_false] at hq2
    have HF := Aside0.mk (show ms.all (packB ns) = false from all_stop hlt (by unfold packB; simp [h3, h4]))
    go_wp2_with (first | (go_at_call 64; (with_reducible refine cM (at_ (l := ns)) ?_); rintro e wb ⟨rfl, hb⟩) | (go_at_call 113; (with_reducible refine cM (refAll_ (l := ns) (xs := ms[i].f3)) ?_); rw [h5]; rintro e w1 ⟨rfl, hb⟩))
    go_ret
    exact ⟨by rw [HF.out]; rfl, belL⟩
   rw [h4] at hq2
   simp only [Bool.not_true] at hq2
   cases h5 : ms[i].f3.all (isNode ns)
   ·have h5' := Aside0.mk h5
    have HF := Aside0.mk (show ms.all (packB ns) = false from all_stop hlt (by unfold packB; rw [h3, h4, h5'.out]; rfl))
    go_wp2_with (first | (go_at_call 64; (with_reducible refine cM (at_ (l := ns)) ?_); rintro e wb ⟨rfl, hb⟩) | (go_at_call 113; (with_reducible refine cM (refAll_ (l := ns) (xs := ms[i].f3)) ?_); rw [h5]; rintro e w1 ⟨rfl, hb⟩))
    go_ret
    exact ⟨by rw [HF.out]; rfl, belL⟩
   ·have HT := Aside0.mk (all_step hlt HA.out (show packB ns ms[i] = true by unfold packB; rw [h3, h4, h5]; rfl))
    go_wp2_with (first | (go_at_call 64; (with_reducible refine cM (at_ (l := ns)) ?_); rintro e wb ⟨rfl, hb⟩) | (go_at_call 113; (with_reducible refine cM (refAll_ (l := ns) (xs := ms[i].f3)) ?_); rw [h5]; rintro e w1 ⟨rfl, hb⟩))
    go_roundg (ms.length - (i + 1))
    case measure => omega
    case rel => exact ⟨i + 1, by go_num, by omega, rfl, HT, belL⟩
  ·have HT := Aside0.mk (show (ms.all (packB ns) && queueB ms) = queueB ms by
    have := HA.out
    rw [List.take_of_length_le (by omega)] at this
    rw [this, Bool.true_and])
   go_wp2_with (first | (go_at_call 158; (with_reducible refine cM (refQueue_ (l := ms)) ?_); rintro e wb ⟨rfl, hb⟩))
   go_ret
   exact ⟨by rw [HT.out]; rfl, belL⟩
theorem refCuts0_ {A : Option Addr} {c : Nat} {w : World} :
 Calls Tryz.prog 115 #[.slice A 0 c] w fun e w' => e = .returned (.bool true) ∧ BelL w w' := by
 go_enter Tryz.func115, Tryz.ntmps115
 go_wp2
 go_loopg [3] 0 (fun kq v3 w' => v3 = .int .i64 0 ∧ BelL w w')
 case atStart => exact ⟨rfl, belL⟩
 case round =>
  obtain ⟨rfl, hbr⟩ := hrel
  go_wp2
  go_ret
  exact ⟨rfl, belL⟩
end
end Go.Proofs.YtljipbmmgcccnaaGreat.T
end
