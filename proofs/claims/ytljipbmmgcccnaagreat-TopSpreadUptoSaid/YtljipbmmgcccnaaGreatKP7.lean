/- Words and lemmas that the claim's proof names, part 7: what the program's functions answer, at the inputs that each theorem's premises name. Conditions: each theorem's own premises. -/
import Derived.Test.YtljipbmmgcccnaaGreatKP6
import Derived.Deep.DrawnRows
section
namespace Go.Proofs.YtljipbmmgcccnaaGreat.T
open Go.RowKit Go.Proofs.YtljipbmmgcccnaaGreatW.PrintWords Go.Proofs.YtljipbmmgcccnaaGreatW.PrintLast Go.Proofs.YtljipbmmgcccnaaGreatW.PrintMore
set_option linter.unusedVariables false
set_option linter.unusedSimpArgs false
class BelL (w : outParam World) (W : World) : Prop where out : Below w.heap.size w W
class Bel (w W : World) : Prop where out : Below w.heap.size w W
class GEL (w : outParam World) (g : Nat) : Prop where out : w.heap.size ≤ g
class GE (w : World) (g : Nat) : Prop where out : w.heap.size ≤ g
class BlkL (W : World) (g : Nat) (cs : outParam (Array Value)) (t : outParam Nat) : Prop where out : W.heap[g]? = some (.cells cs t (0, 0))
class Blk (W : World) (g : Nat) (cs : outParam (Array Value)) (t : outParam Nat) : Prop where out : W.heap[g]? = some (.cells cs t (0, 0))
class BbL (b : outParam Nat) (w : outParam World) (W : World) : Prop where out : b ≤ w.heap.size ∧ Below b w W
class NeB (g g' : Nat) : Prop where out : g ≠ g'
class LtB (g b : Nat) : Prop where out : g < b
class LeB (b b' : Nat) : Prop where out : b ≤ b'
theorem belL {w W : World} [h : Bel w W] : BelL w W := ⟨h.out⟩
instance bel_refl (w : World) : Bel w w := ⟨Below.refl _ _⟩
instance bel_alloc {w W : World} {o : Obj} [h : Bel w W] : Bel w (W.alloc o) := ⟨below_alloc h.out o⟩
instance bel_drewN {w W : World} {n : Nat} [h : Bel w W] : Bel w (W.drewN n) := ⟨pw_below_drewN h.out n⟩
instance bel_drew {w W : World} [h : Bel w W] : Bel w W.drew := ⟨below_drew1 h.out⟩
instance bel_set {w W : World} {g j : Nat} {v : Value} [h : Bel w W] [k : GE w g] : Bel w (W.setCell ⟨g, j, none⟩ v) := ⟨below_set h.out k.out⟩
instance bel_step {w W1 W : World} [k : BelL W1 W] [h : Bel w W1] : Bel w W := ⟨below_step h.out k.out⟩
instance ge_of {w W1 : World} {g : Nat} [k : GEL W1 g] [h : Bel w W1] : GE w g := ⟨Nat.le_trans (below_size h.out) k.out⟩
instance blk_alloc_ {W : World} {g : Nat} {cs : Array Value} {t : Nat} {o : Obj} [h : Blk W g cs t] : Blk (W.alloc o) g cs t := ⟨blk_alloc h.out o⟩
instance blk_drewN_ {W : World} {g n : Nat} {cs : Array Value} {t : Nat} [h : Blk W g cs t] : Blk (W.drewN n) g cs t := ⟨blk_drewN h.out n⟩
instance blk_drew_ {W : World} {g : Nat} {cs : Array Value} {t : Nat} [h : Blk W g cs t] : Blk W.drew g cs t := ⟨blk_drew h.out⟩
instance blk_far_ {W : World} {g g' j : Nat} {cs : Array Value} {t : Nat} {v : Value} [h : Blk W g cs t] [k : NeB g g'] : Blk (W.setCell ⟨g', j, none⟩ v) g cs t := ⟨blk_far h.out k.out v⟩
class SetAt (l : List Value) (j : Nat) (v : Value) (l' : outParam (List Value)) : Prop where out : l.set j v = l'
instance setAt_zero {x v : Value} {l : List Value} : SetAt (x :: l) 0 v (v :: l) := ⟨rfl⟩
instance setAt_succ {x v : Value} {l l' : List Value} {j : Nat} [h : SetAt l j v l'] : SetAt (x :: l) (j + 1) v (x :: l') := ⟨by rw [List.set_cons_succ, h.out]⟩
instance blk_same_ {W : World} {g j : Nat} {l l' : List Value} {t : Nat} {v : Value} [h : Blk W g l.toArray t] [q : SetAt l j v l'] : Blk (W.setCell ⟨g, j, none⟩ v) g l'.toArray t := ⟨by have := blk_set h.out j v; rwa [List.setIfInBounds_toArray, q.out] at this⟩
instance blk_step_ {W1 W : World} {g : Nat} {cs : Array Value} {t : Nat} [k : BelL W1 W] [h : Blk W1 g cs t] : Blk W g cs t := ⟨blk_below h.out k.out⟩
instance blk_here {W : World} {g : Nat} {cs : Array Value} {t : Nat} [h : BlkL W g cs t] : Blk W g cs t := ⟨h.out⟩
instance ne_a {W : World} {g g' : Nat} {cs : Array Value} {t : Nat} [k : GEL W g'] [h : Blk W g cs t] : NeB g g' := ⟨Nat.ne_of_lt (Nat.lt_of_lt_of_le (blk_lt h.out) k.out)⟩
instance ne_b {W : World} {g g' : Nat} {cs : Array Value} {t : Nat} [k : GEL W g] [h : Blk W g' cs t] : NeB g g' := ⟨Nat.ne_of_gt (Nat.lt_of_lt_of_le (blk_lt h.out) k.out)⟩
instance lt_blk {W : World} {g : Nat} {cs : Array Value} {t : Nat} [h : Blk W g cs t] : LtB g W.heap.size := ⟨blk_lt h.out⟩
instance le_refl_ {b : Nat} : LeB b b := ⟨Nat.le_refl b⟩
instance le_alloc {b : Nat} {W : World} {o : Obj} [h : LeB b W.heap.size] : LeB b (W.alloc o).heap.size := ⟨Nat.le_trans h.out (below_alloc (Below.refl _ _) o).size⟩
instance le_drewN {b n : Nat} {W : World} [h : LeB b W.heap.size] : LeB b (W.drewN n).heap.size := ⟨h.out⟩
instance le_drew {b : Nat} {W : World} [h : LeB b W.heap.size] : LeB b W.drew.heap.size := ⟨h.out⟩
instance le_set {b : Nat} {W : World} {a : Addr} {v : Value} [h : LeB b W.heap.size] : LeB b (W.setCell a v).heap.size := ⟨by simpa [World.setCell, Array.size_modify] using h.out⟩
instance le_step {b : Nat} {W1 W : World} [k : BelL W1 W] [h : LeB b W1.heap.size] : LeB b W.heap.size := ⟨Nat.le_trans h.out k.out.size⟩
instance le_bb {b b' : Nat} {W1 W : World} [k : BbL b' W1 W] [h : LeB b W1.heap.size] : LeB b W.heap.size := ⟨Nat.le_trans h.out k.out.2.size⟩
instance blk_bb {b : Nat} {W1 W : World} {g : Nat} {cs : Array Value} {t : Nat} [k : BbL b W1 W] [h : Blk W1 g cs t] [l : LtB g b] : Blk W g cs t := ⟨(k.out.2.block g l.out).trans h.out⟩
instance bel_bb {b : Nat} {w W1 W : World} [k : BbL b W1 W] [h : Bel w W1] [l : LeB w.heap.size b] : Bel w W := ⟨⟨k.out.2.os.trans h.out.os, k.out.2.tape.trans h.out.tape, k.out.2.output.trans h.out.output, Nat.le_trans (below_size h.out) k.out.2.size, fun i hi => (k.out.2.block i (Nat.lt_of_lt_of_le hi l.out)).trans (h.out.block i hi)⟩⟩
theorem cell_tc {W : World} {g i : Nat} {cs : Array Value} {t : Nat} [h : Blk W g cs t] : W.cell? ⟨g, i, none⟩ = cs[i]? := blk_cell h.out i
theorem frozen_tc {W : World} {g i : Nat} {cs : Array Value} {t : Nat} [h : Blk W g cs t] : W.frozen? ⟨g, i, none⟩ = false := blk_frozen h.out i
class SrL {α : Type} (k : Kd α) (W : outParam World) (A : Option Addr) (n c : Nat) (xs : outParam (List α)) : Prop where mk' :: (len : xs.length = n) (le : n ≤ c) (C : k.C W A n xs)
class Sr {α : Type} (k : Kd α) (W : World) (A : Option Addr) (n c : Nat) (xs : outParam (List α)) : Prop where mk' :: (len : xs.length = n) (le : n ≤ c) (C : k.C W A n xs)
def Under (u : Nat) : Nat → Prop := fun k => k < u
def But (g : Nat) : Nat → Prop := fun k => k ≠ g
class Avoid (g b : Nat) (S : Nat → Prop) : Prop where out : ∀ k, b ≤ k → S k → k ≠ g
instance avoid_lt {g b : Nat} {S : Nat → Prop} [h : LtB g b] : Avoid g b S := ⟨fun k hk _ => by have := h.out; omega⟩
instance avoid_ge {w : World} {g b : Nat} [h : GE w g] : Avoid g b (Under w.heap.size) := ⟨fun k _ hs => by have := h.out; unfold Under at hs; omega⟩
instance avoid_but {g b : Nat} : Avoid g b (But g) := ⟨fun k _ hs => hs⟩
class Fr {α : Type} (k : Kd α) (e : outParam Nat) (W : World) (b : outParam Nat) (S : outParam (Nat → Prop)) (A : Option Addr) (n c : Nat) (xs : outParam (List α)) : Prop where mk' :: (len : xs.length = n) (le : n ≤ c) (R : k.R e W b S (.slice A n c) xs)
class FrL {α : Type} (k : Kd α) (e : outParam Nat) (W : World) (b : outParam Nat) (S : outParam (Nat → Prop)) (A : Option Addr) (n c : Nat) (xs : outParam (List α)) : Prop where mk' :: (len : xs.length = n) (le : n ≤ c) (R : k.R e W b S (.slice A n c) xs)
class KbL (g : outParam Nat) (w : outParam World) (W : World) : Prop where out : w.os = W.os ∧ w.tape = W.tape ∧ w.output = W.output ∧ w.heap.size ≤ W.heap.size ∧ ∀ i, i < w.heap.size → i ≠ g → W.heap[i]? = w.heap[i]?
section
variable {α : Type} {k : Kd α} {W W1 : World} {A : Option Addr} {n c e b : Nat} {S : Nat → Prop} {xs : List α}
instance sr_of [h : SrL k W1 A n c xs] [g : Bel W1 W] : Sr k W A n c xs := ⟨h.len, h.le, Kd.C_below h.C g.out⟩
instance sr_nil : Sr k W none 0 0 [] := ⟨rfl, Nat.le_refl 0, ⟨rfl, by decide, fun h => absurd h (Nat.lt_irrefl 0)⟩⟩
instance sr_fr [h : Fr k e W b S A n c xs] : Sr k W A n c xs := ⟨h.len, h.le, by
 obtain ⟨A', c', h1, h2, h3⟩ := Kd.R_reads h.R
 injection h1 with h1 h4 h5
 rw [h1, h4]; exact h3⟩
theorem sr_l (h : Sr k W A n c xs) : SrL k W A n c xs := ⟨h.len, h.le, h.C⟩
instance fr_here [h : FrL k e W b S A n c xs] : Fr k e W b S A n c xs := ⟨h.len, h.le, h.R⟩
instance fr_alloc {o : Obj} [h : Fr k e W b S A n c xs] : Fr k e (W.alloc o) b S A n c xs := ⟨h.len, h.le, Kd.R_below h.R (below_alloc (Below.refl _ _) o)⟩
instance fr_drewN {m : Nat} [h : Fr k e W b S A n c xs] : Fr k e (W.drewN m) b S A n c xs := ⟨h.len, h.le, Kd.R_below h.R (pw_below_drewN (Below.refl _ _) m)⟩
instance fr_drew [h : Fr k e W b S A n c xs] : Fr k e W.drew b S A n c xs := ⟨h.len, h.le, Kd.R_below h.R (below_drew1 (Below.refl _ _))⟩
instance fr_step [g : BelL W1 W] [h : Fr k e W1 b S A n c xs] : Fr k e W b S A n c xs := ⟨h.len, h.le, Kd.R_below h.R g.out⟩
theorem R_farB {v : Value} {g : Nat} (h : k.R e W b S v xs) (l : Avoid g b S) (j : Nat) (u : Value) : k.R e (W.setCell ⟨g, j, none⟩ u) b S v xs :=
 Kd.R_mono (Kd.R_far (Kd.R_bound h) (p := ⟨g, j, none⟩) (fun k hk => l.out k hk.2.1 hk.1) u) (fun _ hk => hk.1)
instance fr_set {g j : Nat} {u : Value} [h : Fr k e W b S A n c xs] [l : Avoid g b S] : Fr k e (W.setCell ⟨g, j, none⟩ u) b S A n c xs := ⟨h.len, h.le, R_farB h.R l j u⟩
instance fr_kb {g : Nat} [q : KbL g W1 W] [h : Fr k e W1 b S A n c xs] [l : Avoid g b S] : Fr k e W b S A n c xs := ⟨h.len, h.le, Kd.R_mono (Kd.R_step (Kd.R_bound h.R) (fun j hj hlt => q.out.2.2.2.2 j hlt (l.out j hj.2.1 hj.1))) (fun _ hk => hk.1)⟩
theorem frl [h : Fr k e W b S A n c xs] {b' : Nat} [l : LeB b' b] : FrL k e W b' (Under W.heap.size) A n c xs := ⟨h.len, h.le, Kd.R_mono (Kd.R_lower (Kd.R_bound h.R) l.out) (fun _ hk => hk.2.2.1)⟩
theorem frl_nil : FrL k e W b S none 0 0 ([] : List α) := ⟨rfl, Nat.le_refl 0, Kd.R_nil _ _ _ _ _⟩
theorem frl_but {g b' : Nat} [h : Fr k e W b S A n c xs] [l : LeB b' b] [q : Avoid g b S] : FrL k e W b' (But g) A n c xs := ⟨h.len, h.le, Kd.R_mono (Kd.R_lower (Kd.R_bound h.R) l.out) (fun j hk => q.out j hk.2.1 hk.1)⟩
theorem frl_of {v : Value} (h : k.R e W b S v xs) : ∃ A c, v = .slice A xs.length c ∧ FrL k e W b (Under W.heap.size) A xs.length c xs := by
 obtain ⟨A, c, rfl, hl, _⟩ := Kd.R_reads h
 exact ⟨A, c, rfl, ⟨rfl, hl, Kd.R_mono (Kd.R_bound h) (fun _ hk => hk.2.2.1)⟩⟩
theorem Fr.any (h : Fr k e W b S A n c xs) : k.R e W b (fun _ => True) (.slice A n c) xs := Kd.R_mono h.R (fun _ _ => trivial)
end
instance blk_kb {W1 W : World} {g g' : Nat} {cs : Array Value} {t : Nat} [q : KbL g W1 W] [h : Blk W1 g' cs t] [l : NeB g' g] : Blk W g' cs t := ⟨(q.out.2.2.2.2 g' (blk_lt h.out) l.out).trans h.out⟩
instance bel_kb {w W1 W : World} {g : Nat} [q : KbL g W1 W] [h : Bel w W1] [l : GE w g] : Bel w W :=
 ⟨⟨q.out.1.symm.trans h.out.os, q.out.2.1.symm.trans h.out.tape, q.out.2.2.1.symm.trans h.out.output, Nat.le_trans (below_size h.out) q.out.2.2.2.1, fun i hi => (q.out.2.2.2.2 i (Nat.lt_of_lt_of_le hi (below_size h.out)) (by have := l.out; omega)).trans (h.out.block i hi)⟩⟩
instance le_kb {b g : Nat} {W1 W : World} [k : KbL g W1 W] [h : LeB b W1.heap.size] : LeB b W.heap.size := ⟨Nat.le_trans h.out k.out.2.2.2.1⟩
class Kb (g : Nat) (w W : World) : Prop where out : w.os = W.os ∧ w.tape = W.tape ∧ w.output = W.output ∧ w.heap.size ≤ W.heap.size ∧ ∀ i, i < w.heap.size → i ≠ g → W.heap[i]? = w.heap[i]?
theorem kbL {g : Nat} {w W : World} [h : Kb g w W] : KbL g w W := ⟨h.out⟩
instance kb_refl {g : Nat} {w : World} : Kb g w w := ⟨rfl, rfl, rfl, Nat.le_refl _, fun _ _ _ => rfl⟩
theorem kb_then {g : Nat} {w W1 W : World} (h : Kb g w W1) (k : Below W1.heap.size W1 W) : Kb g w W :=
 ⟨h.out.1.trans k.os.symm, h.out.2.1.trans k.tape.symm, h.out.2.2.1.trans k.output.symm, Nat.le_trans h.out.2.2.2.1 k.size, fun i hi hg => (k.block i (Nat.lt_of_lt_of_le hi h.out.2.2.2.1)).trans (h.out.2.2.2.2 i hi hg)⟩
instance kb_alloc {g : Nat} {w W : World} {o : Obj} [h : Kb g w W] : Kb g w (W.alloc o) := kb_then h (below_alloc (Below.refl _ _) o)
instance kb_drewN {g n : Nat} {w W : World} [h : Kb g w W] : Kb g w (W.drewN n) := kb_then h (pw_below_drewN (Below.refl _ _) n)
instance kb_drew {g : Nat} {w W : World} [h : Kb g w W] : Kb g w W.drew := kb_then h (below_drew1 (Below.refl _ _))
instance kb_step {g : Nat} {w W1 W : World} [q : BelL W1 W] [h : Kb g w W1] : Kb g w W := kb_then h q.out
instance kb_set {g j : Nat} {w W : World} {v : Value} [h : Kb g w W] : Kb g w (W.setCell ⟨g, j, none⟩ v) :=
 ⟨h.out.1, h.out.2.1, h.out.2.2.1, by have := h.out.2.2.2.1; simpa [World.setCell, Array.size_modify] using this, fun i hi hg => (Below.heap_setCell W ⟨g, j, none⟩ v i hg).trans (h.out.2.2.2.2 i hi hg)⟩
instance kb_own {g g' j : Nat} {w W : World} {v : Value} [h : Kb g w W] [l : GE w g'] : Kb g w (W.setCell ⟨g', j, none⟩ v) :=
 ⟨h.out.1, h.out.2.1, h.out.2.2.1, by have := h.out.2.2.2.1; simpa [World.setCell, Array.size_modify] using this, fun i hi hg => (Below.heap_setCell W ⟨g', j, none⟩ v i (by have := l.out; show i ≠ g'; omega)).trans (h.out.2.2.2.2 i hi hg)⟩
instance kb_kb {g : Nat} {w W1 W : World} [q : KbL g W1 W] [h : Kb g w W1] : Kb g w W :=
 ⟨h.out.1.trans q.out.1, h.out.2.1.trans q.out.2.1, h.out.2.2.1.trans q.out.2.2.1, Nat.le_trans h.out.2.2.2.1 q.out.2.2.2.1, fun i hi hg => (q.out.2.2.2.2 i (Nat.lt_of_lt_of_le hi h.out.2.2.2.1) hg).trans (h.out.2.2.2.2 i hi hg)⟩
section
variable {P : Program} {ops : Array Oper} {rest : List Oper} {o : Oper} {a : Act} {Q : Exit → Act → World → Prop}
theorem box_tc {W : World} (hgd : o.guard = none) {N : Tmp} (_hd : o.dst = some N) {cs : Array Value} {t : TypeId}
 (hrun : (execOp a.eval o).run P W = .ok (.value (.pointer (some ⟨W.heap.size, 0, none⟩))) (W.alloc (.cells cs t (0, 0))))
 (h : ∀ g w1, BlkL w1 g cs t → BelL W w1 → GEL W g → wpList P ops Q rest (a.put o.dst (.pointer (some ⟨g, 0, none⟩))) w1) : wpList P ops Q (o :: rest) a W :=
 box_event hgd _hd hrun (fun g hg w1 hb hB => h g w1 ⟨hb⟩ ⟨hB⟩ ⟨by rw [hg]; exact Nat.le_refl _⟩)
end
abbrev kI : Kd Int := Kd.int .i64
def placesB (l : List Int) : Bool := l.all placeB
def memB (l : List Int) (x : Int) : Bool := l.any fun y => y == x
theorem places_ {A : Option Addr} {n c : Nat} {l : List Int} {w : World} [h : Sr kI w A n c l] :
 Calls Tryz.prog 36 #[.slice A n c] w fun e w' => e = .returned (.bool (placesB l)) ∧ Drawn0 w w' := by
 have := h.len; subst this
 exact places A c l w h.C h.le
theorem viewMay_ {id : Int} {A B : Option Addr} {n c m d : Nat} {ps : List S98} {xs : List Int} {w : World} [h : Sr k98 w A n c ps] [g : Sr kI w B m d xs] :
 Calls Tryz.prog 34 #[.agg #[.int .i64 id, .slice A n c, .slice B m d]] w fun e w' => e = .returned (.bool (viewB id ps xs)) ∧ BelL w w' := by
 have := h.len; subst this
 have := g.len; subst this
 exact (viewMay id A c ps B d xs w h.C h.le g.C g.le).mono fun _ _ ⟨a, b⟩ => ⟨a, ⟨b⟩⟩
theorem peersHeard_ {base id : Int} {A : Option Addr} {n c : Nat} {l : List S98} {w : World} [h : Sr k98 w A n c l] :
 Calls Tryz.prog 13 #[.int .i64 base, .slice A n c, .int .i64 id] w fun e w' => ∃ A' c', e = .returned (.tuple #[.slice A' (heardL base l id).length c', .int .i64 (heardE base l id)]) ∧ FrL k98 98 w' w.heap.size (Under w'.heap.size) A' (heardL base l id).length c' (heardL base l id) ∧ BelL w w' := by
 have := h.len; subst this
 refine (peersHeard base id A c l w h.C h.le).mono ?_
 rintro e w' ⟨v, rfl, hR, hb⟩
 obtain ⟨A', c', rfl, hF⟩ := frl_of hR
 exact ⟨A', c', rfl, hF, ⟨hb⟩⟩
theorem bb_of_grown {b : Nat} {w w' : World} {α : Type} {k : Kd α} {e : Nat} {ok : Nat → Prop} {v : Value} {xs : List α} (h : k.R e w b ok v xs) (hb : b ≤ w.heap.size) (g : w.grownBy w' v.ownBlock) : BbL b w w' :=
 ⟨hb, ⟨g.os, g.tape, g.output, g.size, fun i hi => g.block i (by omega) (fun e => by have := Kd.R_base h i e.symm; omega)⟩⟩
theorem passMay_ {A : Option Addr} {n c : Nat} {l : List Int} {w : World} [h : Sr kI w A n c l] :
 Calls Tryz.prog 47 #[.slice A n c] w fun e w' => e = .returned (.bool (passB l)) ∧ Drawn0 w w' := by
 have := h.len; subst this
 exact passMay A c l w h.C h.le
theorem cloneInt_ {A : Option Addr} {n c : Nat} {l : List Int} {w : World} [h : Sr kI w A n c l] (hn : n ≤ 1000000) :
 Calls Tryz.prog 50 #[.slice A n c] w fun e w' => ∃ A' c', e = .returned (.slice A' l.length c') ∧ FrL kI 3 w' w.heap.size (Under w'.heap.size) A' l.length c' l ∧ BelL w w' := by
 have := h.len; subst this
 refine (cloneInt A c l w h.C h.le (by omega)).mono ?_
 rintro e w' ⟨v, rfl, hR, hb⟩
 obtain ⟨A', c', rfl, hF⟩ := frl_of hR
 exact ⟨A', c', rfl, hF, ⟨hb⟩⟩
theorem deleteInt_ {id : Int} {B t b : Nat} {S : Nat → Prop} {A : Option Addr} {n c : Nat} {xs : List Int} {w : World} [h : Fr kI 3 w b S A n c xs] [g : Blk w B #[.int .i64 id] t] [l : LtB B b] (hn : n ≤ 1000000) (hb : b ≤ w.heap.size) :
 Calls Tryz.prog 49 #[.slice A n c, .func (.func 48) #[] #[.pointer (some ⟨B, 0, none⟩)]] w fun e w' => ∃ A' c', e = .returned (.slice A' (xs.filter fun x => !(x == id)).length c') ∧ FrL kI 3 w' b (Under w'.heap.size) A' (xs.filter fun x => !(x == id)).length c' (xs.filter fun x => !(x == id)) ∧ BbL b w w' := by
 have := h.len; subst this
 refine (deleteInt id B _ xs w b h.any ((blk_cell g.out 0).trans rfl) (fun e => by have := Kd.R_base h.R B e; have := l.out; omega) hn).mono ?_
 rintro e w' ⟨v, rfl, hR, hg⟩
 obtain ⟨A', c', rfl, hF⟩ := frl_of hR
 exact ⟨A', c', rfl, hF, bb_of_grown h.R hb hg⟩
end Go.Proofs.YtljipbmmgcccnaaGreat.T
end
section
namespace Go.Proofs.YtljipbmmgcccnaaGreat.T
open Go.RowKit Go.Proofs.YtljipbmmgcccnaaGreatW.PrintWords Go.Proofs.YtljipbmmgcccnaaGreatW.PrintLast Go.Proofs.YtljipbmmgcccnaaGreatW.PrintMore
attribute [local go_sem] cell_tc frozen_tc max2_int min2_int
attribute [local go_sem ↓] Go.wp_at_zero Go.wp_at_succ
set_option linter.unusedVariables false
set_option linter.unusedSimpArgs false
theorem cM {P : Program} {f : FuncId} {args : Array Value} {w : World} {R R' : Ending → World → Prop} (h : Calls P f args w R) (k : ∀ e w', R e w' → R' e w') : Calls P f args w R' := h.mono k
def withoutB (l : List Int) (id : Int) : Bool := passB l && placeB id
def withoutE (l : List Int) (id : Int) : Int := if withoutB l id then 0 else 800
def withoutL (l : List Int) (id : Int) : List Int := if withoutB l id then l.filter fun x => !(x == id) else []
set_option maxHeartbeats 400000 in
theorem passWithout_ {id : Int} {A : Option Addr} {n c : Nat} {l : List Int} {w : World} [h : Sr kI w A n c l] :
 Calls Tryz.prog 14 #[.slice A n c, .int .i64 id] w fun e w' => ∃ A' c', e = .returned (.tuple #[.slice A' (withoutL l id).length c', .int .i64 (withoutE l id)]) ∧ FrL kI 3 w' w.heap.size (Under w'.heap.size) A' (withoutL l id).length c' (withoutL l id) ∧ BelL w w' := by
 have hs := sr_l h
 clear h
 have HN := Aside0.mk hs.len
 cases h1 : passB l
 ·rw [show withoutE l id = 800 by simp [withoutE, withoutB, h1], show withoutL l id = [] by simp [withoutL, withoutB, h1]]
  go_enter Tryz.func14, Tryz.ntmps14
  go_wp2_with (first | (with_reducible refine box_tc rfl (N := 3) rfl (cs := #[.int .i64 id]) (t := 3) ?hr ?_; (case hr => go_simp <;> rfl); intro g1 wg1 _ _ _) | (go_at_call 47; (with_reducible refine cM (passMay_) ?_); rintro e w' ⟨rfl, ⟨nd, rfl⟩⟩) | (go_at_call 35; (with_reducible refine cM (place _ _) ?_); rintro e w' ⟨rfl, ⟨nd, rfl⟩⟩) | (go_at_call 50; (with_reducible refine cM (cloneInt_ (by have := HN.out; omega)) ?_); rintro e w1 ⟨A1, c1, rfl, hF, hb⟩) | (go_at_call 49; (with_reducible refine cM (deleteInt_ (by omega) (below_size (Bel.out))) ?_); rintro e w2 ⟨A2, c2, rfl, hF2, hb2⟩))
  go_ret2
  exact ⟨none, 0, rfl, frl_nil, belL⟩
 ·cases h2 : placeB id
  ·rw [show withoutE l id = 800 by simp [withoutE, withoutB, h1, h2], show withoutL l id = [] by simp [withoutL, withoutB, h1, h2]]
   go_enter Tryz.func14, Tryz.ntmps14
   go_wp2_with (first | (with_reducible refine box_tc rfl (N := 3) rfl (cs := #[.int .i64 id]) (t := 3) ?hr ?_; (case hr => go_simp <;> rfl); intro g1 wg1 _ _ _) | (go_at_call 47; (with_reducible refine cM (passMay_) ?_); rintro e w' ⟨rfl, ⟨nd, rfl⟩⟩) | (go_at_call 35; (with_reducible refine cM (place _ _) ?_); rintro e w' ⟨rfl, ⟨nd, rfl⟩⟩) | (go_at_call 50; (with_reducible refine cM (cloneInt_ (by have := HN.out; omega)) ?_); rintro e w1 ⟨A1, c1, rfl, hF, hb⟩) | (go_at_call 49; (with_reducible refine cM (deleteInt_ (by omega) (below_size (Bel.out))) ?_); rintro e w2 ⟨A2, c2, rfl, hF2, hb2⟩))
   go_ret2
   exact ⟨none, 0, rfl, frl_nil, belL⟩
  ·have h16 := passB_len h1
   rw [show withoutE l id = 0 by simp [withoutE, withoutB, h1, h2], show withoutL l id = l.filter fun x => !(x == id) by simp [withoutL, withoutB, h1, h2]]
   go_enter Tryz.func14, Tryz.ntmps14
   go_wp2_with (first | (with_reducible refine box_tc rfl (N := 3) rfl (cs := #[.int .i64 id]) (t := 3) ?hr ?_; (case hr => go_simp <;> rfl); intro g1 wg1 _ _ _) | (go_at_call 47; (with_reducible refine cM (passMay_) ?_); rintro e w' ⟨rfl, ⟨nd, rfl⟩⟩) | (go_at_call 35; (with_reducible refine cM (place _ _) ?_); rintro e w' ⟨rfl, ⟨nd, rfl⟩⟩) | (go_at_call 50; (with_reducible refine cM (cloneInt_ (by have := HN.out; omega)) ?_); rintro e w1 ⟨A1, c1, rfl, hF, hb⟩) | (go_at_call 49; (with_reducible refine cM (deleteInt_ (by omega) (below_size (Bel.out))) ?_); rintro e w2 ⟨A2, c2, rfl, hF2, hb2⟩))
   go_ret2
   exact ⟨_, _, rfl, frl, belL⟩
end Go.Proofs.YtljipbmmgcccnaaGreat.T
end
section
namespace Go.Proofs.YtljipbmmgcccnaaGreat.T
open Go.RowKit Go.Proofs.YtljipbmmgcccnaaGreatW.PrintWords Go.Proofs.YtljipbmmgcccnaaGreatW.PrintLast Go.Proofs.YtljipbmmgcccnaaGreatW.PrintMore
attribute [local go_sem] cell_tc frozen_tc max2_int min2_int
attribute [local go_sem ↓] Go.wp_at_zero Go.wp_at_succ
set_option linter.unusedVariables false
set_option linter.unusedSimpArgs false
theorem clonePeer_ {A : Option Addr} {n c : Nat} {l : List S98} {w : World} [h : Sr k98 w A n c l] (hn : n ≤ 1000000) :
 Calls Tryz.prog 44 #[.slice A n c] w fun e w' => ∃ A' c', e = .returned (.slice A' l.length c') ∧ FrL k98 98 w' w.heap.size (Under w'.heap.size) A' l.length c' l ∧ BelL w w' := by
 have := h.len; subst this
 refine (clonePeer A c l w h.C h.le (by omega)).mono ?_
 rintro e w' ⟨v, rfl, hR, hb⟩
 obtain ⟨A', c', rfl, hF⟩ := frl_of hR
 exact ⟨A', c', rfl, hF, ⟨hb⟩⟩
set_option maxHeartbeats 1000000 in
theorem viewCopy_ {id : Int} {A B : Option Addr} {n c m d : Nat} {ps : List S98} {xs : List Int} {w : World} [h : Sr k98 w A n c ps] [g : Sr kI w B m d xs] (hn : n ≤ 1000000) (hm : m ≤ 1000000) :
 Calls Tryz.prog 37 #[.agg #[.int .i64 id, .slice A n c, .slice B m d]] w fun e w' => ∃ A' c' B' d', e = .returned (.agg #[.int .i64 id, .slice A' ps.length c', .slice B' xs.length d']) ∧ FrL k98 98 w' w.heap.size (Under w'.heap.size) A' ps.length c' ps ∧ FrL kI 3 w' w.heap.size (Under w'.heap.size) B' xs.length d' xs ∧ BelL w w' := by
 have h1 := sr_l h
 have h2 := sr_l g
 clear h g
 go_enter Tryz.func37, Tryz.ntmps37
 go_upto_region 1 with (first | (with_reducible refine box_tc rfl (N := 1) rfl (cs := #[.int .i64 id, .slice A n c, .slice B m d]) (t := 25) ?hr ?_; (case hr => go_simp <;> rfl); intro g1 wg1 _ _ _) | (with_reducible refine box_tc rfl (N := 2) rfl (cs := #[.int .i64 0, .slice none 0 0, .slice none 0 0]) (t := 25) ?hr ?_; (case hr => go_simp <;> rfl); intro g2 wg2 _ _ _))
 go_region_with (first | (go_at_call 44; (with_reducible refine cM (clonePeer_ hn) ?_); rintro e w1 ⟨A1, c1, rfl, hF1, hb1⟩) | (go_at_call 50; (with_reducible refine cM (cloneInt_ hm) ?_); rintro e w2 ⟨A2, c2, rfl, hF2, hb2⟩))
 all_goals
  go_wp2
  exact bodyPost_ret (v := .agg #[.int .i64 id, .slice A1 ps.length c1, .slice A2 xs.length c2]) (by simp [results, Tryz.results37, go_sem]) rfl ⟨_, _, _, _, rfl, frl, frl, belL⟩
end Go.Proofs.YtljipbmmgcccnaaGreat.T
end
section
namespace Go.Proofs.YtljipbmmgcccnaaGreat.T
open Go.RowKit Go.Proofs.YtljipbmmgcccnaaGreatW.PrintWords Go.Proofs.YtljipbmmgcccnaaGreatW.PrintLast Go.Proofs.YtljipbmmgcccnaaGreatW.PrintMore
attribute [local go_sem] cell_tc frozen_tc max2_int min2_int
attribute [local go_sem ↓] Go.wp_at_zero Go.wp_at_succ
set_option linter.unusedVariables false
set_option linter.unusedSimpArgs false
class VAtL (W : outParam World) (ad : Addr) (id : outParam Int) (A : outParam (Option Addr)) (n c : outParam Nat) (B : outParam (Option Addr)) (m d : outParam Nat) : Prop where
 out : W.cell? ad = some (.int .i64 id) ∧ W.cell? ⟨ad.block, ad.off + 1, none⟩ = some (.slice A n c) ∧ W.cell? ⟨ad.block, ad.off + 2, none⟩ = some (.slice B m d)
class VAt (W : World) (ad : Addr) (id : outParam Int) (A : outParam (Option Addr)) (n c : outParam Nat) (B : outParam (Option Addr)) (m d : outParam Nat) : Prop where
 out : W.cell? ad = some (.int .i64 id) ∧ W.cell? ⟨ad.block, ad.off + 1, none⟩ = some (.slice A n c) ∧ W.cell? ⟨ad.block, ad.off + 2, none⟩ = some (.slice B m d)
instance vat_of {W1 W : World} {ad : Addr} {id : Int} {A : Option Addr} {n c : Nat} {B : Option Addr} {m d : Nat} [h : VAtL W1 ad id A n c B m d] [g : Bel W1 W] : VAt W ad id A n c B m d :=
 ⟨cell_b h.out.1 g.out, cell_b h.out.2.1 g.out, cell_b h.out.2.2 g.out⟩
instance vat_blk {W : World} {g : Nat} {id : Int} {A : Option Addr} {n c : Nat} {B : Option Addr} {m d t : Nat} [h : Blk W g #[.int .i64 id, .slice A n c, .slice B m d] t] : VAt W ⟨g, 0, none⟩ id A n c B m d :=
 ⟨(blk_cell h.out 0).trans rfl, (blk_cell h.out 1).trans rfl, (blk_cell h.out 2).trans rfl⟩
theorem viewPeer_ {id x : Int} {ad : Addr} {A B : Option Addr} {n c m d : Nat} {ps : List S98} {w : World} [hv : VAt w ad id A n c B m d] [h : Sr k98 w A n c ps] (hp : peersB id ps = true) (hx : placeB x = true) :
 Calls Tryz.prog 39 #[.pointer (some ad), .int .i64 x] w fun e w' => e = .returned (.bool (knownB ps x)) ∧ BelL w w' := by
 have := h.len; subst this
 refine (viewPeer id x ad A c ps B d (List.replicate m 0) w ?_ h.C h.le hp hx).mono fun _ _ ⟨a, b⟩ => ⟨a, ⟨b⟩⟩
 have := hv.out
 exact ⟨this.1, this.2.1, by rw [List.length_replicate]; exact this.2.2⟩
theorem viewPassive_ {id x : Int} {ad : Addr} {A B : Option Addr} {n c m d : Nat} {xs : List Int} {w : World} [hv : VAt w ad id A n c B m d] [h : Sr kI w B m d xs] :
 Calls Tryz.prog 40 #[.pointer (some ad), .int .i64 x] w fun e w' => e = .returned (.bool (memB xs x)) ∧ Drawn0 w w' := by
 have := h.len; subst this
 refine viewPassive id x ad A c (List.replicate n z98) B d xs w ?_ h.C h.le
 have := hv.out
 exact ⟨this.1, by rw [List.length_replicate]; exact this.2.1, this.2.2⟩
theorem room_ {id : Int} {g t : Nat} {A B : Option Addr} {n c m d : Nat} {w : World} [h : Blk w g #[.int .i64 id, .slice A n c, .slice B m d] t] (hn : n ≤ 1000000) (hm : m ≤ 1000000) :
 Calls Tryz.prog 98 #[.pointer (some ⟨g, 0, none⟩)] w fun e w' => e = .returned (.bool (decide (n + m < 16))) ∧ Drawn0 w w' := by
 have HD := Aside0.mk (show (decide ((n : Int) + (m : Int) < 16)) = decide (n + m < 16) by rw [decide_eq_decide]; omega)
 go_enter Tryz.func98, Tryz.ntmps98
 go_wp2
 go_quiet (fail)
 go_wp2
 go_ret
 exact ⟨by rw [← HD.out]; rfl, by repeat (first | exact Drawn0.refl _ | apply Drawn0.step)⟩
end Go.Proofs.YtljipbmmgcccnaaGreat.T
end
section
namespace Go.Proofs.YtljipbmmgcccnaaGreat.T
open Go.RowKit Go.Proofs.YtljipbmmgcccnaaGreatW.PrintWords Go.Proofs.YtljipbmmgcccnaaGreatW.PrintLast Go.Proofs.YtljipbmmgcccnaaGreatW.PrintMore
attribute [local go_sem] cell_tc frozen_tc max2_int min2_int
attribute [local go_sem ↓] Go.wp_at_zero Go.wp_at_succ
set_option linter.unusedVariables false
set_option linter.unusedSimpArgs false
def hearPs (id : Int) (ps : List S98) (xs : List Int) (x : Int) : List S98 := if knownB ps x || memB xs x || decide (ps.length + xs.length < 16) then heardL id ps x else ps
def hearXs (ps : List S98) (xs : List Int) (x : Int) : List Int := if knownB ps x || memB xs x || decide (ps.length + xs.length < 16) then withoutL xs x else xs
def ViewIs (w : World) (g b : Nat) (id : Int) (ps : List S98) (xs : List Int) : Prop :=
 ∃ A c B d, BlkL w g #[.int .i64 id, .slice A ps.length c, .slice B xs.length d] 25 ∧ FrL k98 98 w b (But g) A ps.length c ps ∧ FrL kI 3 w b (But g) B xs.length d xs
theorem blkL {W : World} {g : Nat} {cs : Array Value} {t : Nat} [h : Blk W g cs t] : BlkL W g cs t := ⟨h.out⟩
theorem viewIs {w : World} {g b b1 b2 : Nat} {S1 S2 : Nat → Prop} {id : Int} {A B : Option Addr} {n c m d : Nat} {ps : List S98} {xs : List Int} [h : Blk w g #[.int .i64 id, .slice A n c, .slice B m d] 25] [h1 : Fr k98 98 w b1 S1 A n c ps] [h2 : Fr kI 3 w b2 S2 B m d xs]
 [l1 : LeB b b1] [l2 : LeB b b2] [a1 : Avoid g b1 S1] [a2 : Avoid g b2 S2] : ViewIs w g b id ps xs := by
 have := h1.len; subst this
 have := h2.len; subst this
 exact ⟨A, c, B, d, blkL, frl_but, frl_but⟩
set_option maxHeartbeats 2000000 in
theorem heard_ {id x : Int} {g b : Nat} {ps : List S98} {xs : List Int} {w : World} (hv : ViewIs w g b id ps xs) (hp : peersB id ps = true) (hx : placeB x = true) (hb : b ≤ w.heap.size) (hn : ps.length + xs.length ≤ 16) :
 Calls Tryz.prog 38 #[.pointer (some ⟨g, 0, none⟩), .int .i64 x] w fun e w' => e = .returned (.tuple #[]) ∧ ViewIs w' g b id (hearPs id ps xs x) (hearXs ps xs x) ∧ KbL g w w' := by
 obtain ⟨A, c, B, d, hB, hF1, hF2⟩ := hv
 have HLE : LeB b w.heap.size := ⟨hb⟩
 cases k1 : knownB ps x
 ·cases k2 : memB xs x
  ·by_cases k3 : ps.length + xs.length < 16
   ·rw [show hearPs id ps xs x = heardL id ps x by simp [hearPs, k3], show hearXs ps xs x = withoutL xs x by simp [hearXs, k3]]
    have k3' : decide (ps.length + xs.length < 16) = true := decide_eq_true k3
    go_enter Tryz.func38, Tryz.ntmps38
    go_wp2_with (first | (go_at_call 39; (with_reducible refine cM (viewPeer_ hp hx) ?_); rintro e wb ⟨rfl, hb⟩) | (go_at_call 40; (with_reducible refine cM (viewPassive_) ?_); rintro e w' ⟨rfl, ⟨nd, rfl⟩⟩) | (go_at_call 98; (with_reducible refine cM (room_ (by omega) (by omega)) ?_); rintro e w' ⟨rfl, ⟨nd, rfl⟩⟩) | (go_at_call 14; (with_reducible refine cM (passWithout_) ?_); rintro e w1 ⟨A1, c1, rfl, hFa, hb1⟩))
    go_region_with (first | (go_at_call 13; (with_reducible refine cM (peersHeard_) ?_); rintro e w2 ⟨A2, c2, rfl, hFb, hb2⟩))
    go_goals
    all_goals
     go_wp2
     go_end0
     exact ⟨rfl, ⟨_, _, _, _, blkL, frl_but, frl_but⟩, kbL⟩
   ·rw [show hearPs id ps xs x = ps by simp [hearPs, k1, k2, k3], show hearXs ps xs x = xs by simp [hearXs, k1, k2, k3]]
    have k3' : decide (ps.length + xs.length < 16) = false := decide_eq_false k3
    go_enter Tryz.func38, Tryz.ntmps38
    go_wp2_with (first | (go_at_call 39; (with_reducible refine cM (viewPeer_ hp hx) ?_); rintro e wb ⟨rfl, hb⟩) | (go_at_call 40; (with_reducible refine cM (viewPassive_) ?_); rintro e w' ⟨rfl, ⟨nd, rfl⟩⟩) | (go_at_call 98; (with_reducible refine cM (room_ (by omega) (by omega)) ?_); rintro e w' ⟨rfl, ⟨nd, rfl⟩⟩))
    refine bodyPost_ret (results_none rfl _ _ _) rfl ?_
    exact ⟨rfl, ⟨_, _, _, _, blkL, frl_but, frl_but⟩, kbL⟩
  ·rw [show hearPs id ps xs x = heardL id ps x by simp [hearPs, k2], show hearXs ps xs x = withoutL xs x by simp [hearXs, k2]]
   go_enter Tryz.func38, Tryz.ntmps38
   go_wp2_with (first | (go_at_call 39; (with_reducible refine cM (viewPeer_ hp hx) ?_); rintro e wb ⟨rfl, hb⟩) | (go_at_call 40; (with_reducible refine cM (viewPassive_) ?_); rintro e w' ⟨rfl, ⟨nd, rfl⟩⟩) | (go_at_call 98; (with_reducible refine cM (room_ (by omega) (by omega)) ?_); rintro e w' ⟨rfl, ⟨nd, rfl⟩⟩) | (go_at_call 14; (with_reducible refine cM (passWithout_) ?_); rintro e w1 ⟨A1, c1, rfl, hFa, hb1⟩))
   go_region_with (first | (go_at_call 13; (with_reducible refine cM (peersHeard_) ?_); rintro e w2 ⟨A2, c2, rfl, hFb, hb2⟩))
   all_goals
    go_wp2
    go_end0
    exact ⟨rfl, ⟨_, _, _, _, blkL, frl_but, frl_but⟩, kbL⟩
 ·rw [show hearPs id ps xs x = heardL id ps x by simp [hearPs, k1], show hearXs ps xs x = withoutL xs x by simp [hearXs, k1]]
  go_enter Tryz.func38, Tryz.ntmps38
  go_wp2_with (first | (go_at_call 39; (with_reducible refine cM (viewPeer_ hp hx) ?_); rintro e wb ⟨rfl, hb⟩) | (go_at_call 40; (with_reducible refine cM (viewPassive_) ?_); rintro e w' ⟨rfl, ⟨nd, rfl⟩⟩) | (go_at_call 98; (with_reducible refine cM (room_ (by omega) (by omega)) ?_); rintro e w' ⟨rfl, ⟨nd, rfl⟩⟩) | (go_at_call 14; (with_reducible refine cM (passWithout_) ?_); rintro e w1 ⟨A1, c1, rfl, hFa, hb1⟩))
  go_region_with (first | (go_at_call 13; (with_reducible refine cM (peersHeard_) ?_); rintro e w2 ⟨A2, c2, rfl, hFb, hb2⟩))
  all_goals
   go_wp2
   go_end0
   exact ⟨rfl, ⟨_, _, _, _, blkL, frl_but, frl_but⟩, kbL⟩
end Go.Proofs.YtljipbmmgcccnaaGreat.T
end
section
namespace Go.Proofs.YtljipbmmgcccnaaGreat.T
open Go.RowKit Go.Proofs.YtljipbmmgcccnaaGreatW.PrintWords Go.Proofs.YtljipbmmgcccnaaGreatW.PrintLast Go.Proofs.YtljipbmmgcccnaaGreatW.PrintMore
attribute [local go_sem] cell_tc frozen_tc max2_int min2_int
attribute [local go_sem ↓] Go.wp_at_zero Go.wp_at_succ
set_option linter.unusedVariables false
set_option linter.unusedSimpArgs false
def hear1 (id : Int) (s : List S98 × List Int) (x : Int) : List S98 × List Int := (hearPs id s.1 s.2 x, hearXs s.1 s.2 x)
def hearStep (id : Int) (s : List S98 × List Int) (i : Int) : List S98 × List Int := if i == id || knownB s.1 i || memB s.2 i then s else hear1 id s i
def hearMany (id : Int) (s : List S98 × List Int) (ids : List Int) : List S98 × List Int := ids.foldl (hearStep id) s
def takeB (v : S25) (frm : Int) (ids : List Int) : Bool := viewB v.f0 v.f1 v.f2 && placeB frm && !(frm == v.f0) && decide (ids.length ≤ 16) && placesB ids
def takeS (v : S25) (frm : Int) (ids : List Int) : List S98 × List Int := hearMany v.f0 (hear1 v.f0 (v.f1, v.f2) frm) ids
def takeV (v : S25) (frm : Int) (ids : List Int) : S25 := if takeB v frm ids then ⟨v.f0, (takeS v frm ids).1, (takeS v frm ids).2⟩ else z25
def takeE (v : S25) (frm : Int) (ids : List Int) : Int := if takeB v frm ids then 0 else 1000
def HearOk (id : Int) (s : List S98 × List Int) : Prop := peersB id s.1 = true ∧ s.1.length + s.2.length ≤ 16
def ViewR (w' : World) (b : Nat) (v : Value) (r : S25) : Prop := ∃ A c B d, v = .agg #[.int .i64 r.f0, .slice A r.f1.length c, .slice B r.f2.length d] ∧ FrL k98 98 w' b (Under w'.heap.size) A r.f1.length c r.f1 ∧ FrL kI 3 w' b (Under w'.heap.size) B r.f2.length d r.f2
theorem int_tc {W : World} {A : Option Addr} {n c : Nat} {l : List Int} [h : Sr kI W A n c l] (j : Nat) (hj : j < l.length) : ∃ ad, A = some ad ∧ W.cell? (ad.add j) = some (.int .i64 l[j]) := by
 have := h.len; subst this
 exact int_at h.C j hj
theorem int_kb {w3 W : World} {g : Nat} (_ : KbL g w3 W) {A : Option Addr} {n c : Nat} {l : List Int} [h : Sr kI W A n c l] (j : Nat) (hj : j < l.length) : ∃ ad, A = some ad ∧ W.cell? (ad.add j) = some (.int .i64 l[j]) := int_tc (n := n) (c := c) j hj
theorem placesB_at {l : List Int} (h : placesB l = true) (i : Nat) (hi : i < l.length) : placeB l[i] = true := by
 unfold placesB at h; rw [List.all_eq_true] at h; exact h _ (List.getElem_mem hi)
theorem hearMany_snoc {id : Int} {s : List S98 × List Int} {ids : List Int} {i : Nat} (h : i < ids.length) : hearMany id s (ids.take (i + 1)) = hearStep id (hearMany id s (ids.take i)) ids[i] := by
 unfold hearMany; rw [List.take_succ_eq_append_getElem h, List.foldl_append]; rfl
theorem viewB_peers {id : Int} {ps : List S98} {xs : List Int} (h : viewB id ps xs = true) : peersB id ps = true := by
 unfold viewB at h; simp only [Bool.and_eq_true] at h; exact h.1.1.1
theorem viewB_len {id : Int} {ps : List S98} {xs : List Int} (h : viewB id ps xs = true) : ps.length + xs.length ≤ 16 := by
 unfold viewB at h; simp only [Bool.and_eq_true, decide_eq_true_eq] at h; exact h.1.2
theorem takeErr {v : S25} {frm : Int} {ids : List Int} (h : takeB v frm ids = false) : takeV v frm ids = z25 ∧ takeE v frm ids = 1000 := by simp [takeV, takeE, h]
set_option maxHeartbeats 1000000 in
theorem take_a {id frm : Int} {A B C : Option Addr} {n c m d k f : Nat} {ps : List S98} {xs ids : List Int} {w : World} [h : Sr k98 w A n c ps] [g : Sr kI w B m d xs] [q : Sr kI w C k f ids] (h1 : viewB id ps xs = false) :
 Calls Tryz.prog 10 #[.agg #[.int .i64 id, .slice A n c, .slice B m d], .int .i64 frm, .slice C k f] w fun e w' => ∃ v, e = .returned (.tuple #[v, .int .i64 (takeE ⟨id, ps, xs⟩ frm ids)]) ∧ ViewR w' w.heap.size v (takeV ⟨id, ps, xs⟩ frm ids) ∧ BelL w w' := by
 obtain rfl := h.len
 obtain rfl := g.len
 obtain rfl := q.len
 have s1 := sr_l h
 have s2 := sr_l g
 have s3 := sr_l q
 have hb0 : takeB ⟨id, ps, xs⟩ frm ids = false := by simp [takeB, h1]
 clear h g q
 rw [(takeErr hb0).1, (takeErr hb0).2]
 go_enter Tryz.func10, Tryz.ntmps10
 go_wp2_with (first | (with_reducible refine box_tc rfl (N := 3) rfl (cs := #[.int .i64 id, .slice A ps.length c, .slice B xs.length d]) (t := 25) ?hr ?_; (case hr => go_simp <;> rfl); intro g1 wg1 _ _ _) | (with_reducible refine box_tc rfl (N := 6) rfl (cs := #[.int .i64 0, .slice none 0 0, .slice none 0 0]) (t := 25) ?hr ?_; (case hr => go_simp <;> rfl); intro g2 wg2 _ _ _) | (go_at_call 34; (with_reducible refine cM (viewMay_) ?_); rintro e wb ⟨rfl, hb⟩) | (go_at_call 35; (with_reducible refine cM (place _ _) ?_); rintro e w' ⟨rfl, ⟨nd, rfl⟩⟩) | (go_at_call 36; (with_reducible refine cM (places_) ?_); rintro e w' ⟨rfl, ⟨nd, rfl⟩⟩))
 exact bodyPost_ret (v := .tuple #[.agg #[.int .i64 0, .slice none 0 0, .slice none 0 0], .int .i64 1000]) (by simp [results, Tryz.results10, go_sem]) rfl ⟨_, rfl, ⟨_, _, _, _, rfl, frl_nil, frl_nil⟩, belL⟩
set_option maxHeartbeats 1000000 in
theorem take_b {id frm : Int} {A B C : Option Addr} {n c m d k f : Nat} {ps : List S98} {xs ids : List Int} {w : World} [h : Sr k98 w A n c ps] [g : Sr kI w B m d xs] [q : Sr kI w C k f ids] (h1 : viewB id ps xs = true) (h2 : placeB frm = false) :
 Calls Tryz.prog 10 #[.agg #[.int .i64 id, .slice A n c, .slice B m d], .int .i64 frm, .slice C k f] w fun e w' => ∃ v, e = .returned (.tuple #[v, .int .i64 (takeE ⟨id, ps, xs⟩ frm ids)]) ∧ ViewR w' w.heap.size v (takeV ⟨id, ps, xs⟩ frm ids) ∧ BelL w w' := by
 obtain rfl := h.len
 obtain rfl := g.len
 obtain rfl := q.len
 have s1 := sr_l h
 have s2 := sr_l g
 have s3 := sr_l q
 have hb0 : takeB ⟨id, ps, xs⟩ frm ids = false := by simp [takeB, h1, h2]
 clear h g q
 rw [(takeErr hb0).1, (takeErr hb0).2]
 go_enter Tryz.func10, Tryz.ntmps10
 go_wp2_with (first | (with_reducible refine box_tc rfl (N := 3) rfl (cs := #[.int .i64 id, .slice A ps.length c, .slice B xs.length d]) (t := 25) ?hr ?_; (case hr => go_simp <;> rfl); intro g1 wg1 _ _ _) | (with_reducible refine box_tc rfl (N := 6) rfl (cs := #[.int .i64 0, .slice none 0 0, .slice none 0 0]) (t := 25) ?hr ?_; (case hr => go_simp <;> rfl); intro g2 wg2 _ _ _) | (go_at_call 34; (with_reducible refine cM (viewMay_) ?_); rintro e wb ⟨rfl, hb⟩) | (go_at_call 35; (with_reducible refine cM (place _ _) ?_); rintro e w' ⟨rfl, ⟨nd, rfl⟩⟩) | (go_at_call 36; (with_reducible refine cM (places_) ?_); rintro e w' ⟨rfl, ⟨nd, rfl⟩⟩))
 exact bodyPost_ret (v := .tuple #[.agg #[.int .i64 0, .slice none 0 0, .slice none 0 0], .int .i64 1000]) (by simp [results, Tryz.results10, go_sem]) rfl ⟨_, rfl, ⟨_, _, _, _, rfl, frl_nil, frl_nil⟩, belL⟩
set_option maxHeartbeats 1000000 in
theorem take_c {id frm : Int} {A B C : Option Addr} {n c m d k f : Nat} {ps : List S98} {xs ids : List Int} {w : World} [h : Sr k98 w A n c ps] [g : Sr kI w B m d xs] [q : Sr kI w C k f ids] (h1 : viewB id ps xs = true) (h2 : placeB frm = true) (h3 : id = frm) :
 Calls Tryz.prog 10 #[.agg #[.int .i64 id, .slice A n c, .slice B m d], .int .i64 frm, .slice C k f] w fun e w' => ∃ v, e = .returned (.tuple #[v, .int .i64 (takeE ⟨id, ps, xs⟩ frm ids)]) ∧ ViewR w' w.heap.size v (takeV ⟨id, ps, xs⟩ frm ids) ∧ BelL w w' := by
 obtain rfl := h.len
 obtain rfl := g.len
 obtain rfl := q.len
 have s1 := sr_l h
 have s2 := sr_l g
 have s3 := sr_l q
 have hb0 : takeB ⟨id, ps, xs⟩ frm ids = false := by simp [takeB, h1, h2, h3]
 subst h3
 clear h g q
 rw [(takeErr hb0).1, (takeErr hb0).2]
 go_enter Tryz.func10, Tryz.ntmps10
 go_wp2_with (first | (with_reducible refine box_tc rfl (N := 3) rfl (cs := #[.int .i64 id, .slice A ps.length c, .slice B xs.length d]) (t := 25) ?hr ?_; (case hr => go_simp <;> rfl); intro g1 wg1 _ _ _) | (with_reducible refine box_tc rfl (N := 6) rfl (cs := #[.int .i64 0, .slice none 0 0, .slice none 0 0]) (t := 25) ?hr ?_; (case hr => go_simp <;> rfl); intro g2 wg2 _ _ _) | (go_at_call 34; (with_reducible refine cM (viewMay_) ?_); rintro e wb ⟨rfl, hb⟩) | (go_at_call 35; (with_reducible refine cM (place _ _) ?_); rintro e w' ⟨rfl, ⟨nd, rfl⟩⟩) | (go_at_call 36; (with_reducible refine cM (places_) ?_); rintro e w' ⟨rfl, ⟨nd, rfl⟩⟩))
 exact bodyPost_ret (v := .tuple #[.agg #[.int .i64 0, .slice none 0 0, .slice none 0 0], .int .i64 1000]) (by simp [results, Tryz.results10, go_sem]) rfl ⟨_, rfl, ⟨_, _, _, _, rfl, frl_nil, frl_nil⟩, belL⟩
set_option maxHeartbeats 1000000 in
theorem take_d {id frm : Int} {A B C : Option Addr} {n c m d k f : Nat} {ps : List S98} {xs ids : List Int} {w : World} [h : Sr k98 w A n c ps] [g : Sr kI w B m d xs] [q : Sr kI w C k f ids] (h1 : viewB id ps xs = true) (h2 : placeB frm = true) (h3 : frm ≠ id) (h4 : ¬ ids.length ≤ 16) :
 Calls Tryz.prog 10 #[.agg #[.int .i64 id, .slice A n c, .slice B m d], .int .i64 frm, .slice C k f] w fun e w' => ∃ v, e = .returned (.tuple #[v, .int .i64 (takeE ⟨id, ps, xs⟩ frm ids)]) ∧ ViewR w' w.heap.size v (takeV ⟨id, ps, xs⟩ frm ids) ∧ BelL w w' := by
 obtain rfl := h.len
 obtain rfl := g.len
 obtain rfl := q.len
 have s1 := sr_l h
 have s2 := sr_l g
 have s3 := sr_l q
 have hb0 : takeB ⟨id, ps, xs⟩ frm ids = false := by simp [takeB, h1, h2, h3, h4]
 have h4a : decide ((16 : Int) < (ids.length : Int)) = true := decide_eq_true (by omega)
 clear h g q
 rw [(takeErr hb0).1, (takeErr hb0).2]
 go_enter Tryz.func10, Tryz.ntmps10
 go_wp2_with (first | (with_reducible refine box_tc rfl (N := 3) rfl (cs := #[.int .i64 id, .slice A ps.length c, .slice B xs.length d]) (t := 25) ?hr ?_; (case hr => go_simp <;> rfl); intro g1 wg1 _ _ _) | (with_reducible refine box_tc rfl (N := 6) rfl (cs := #[.int .i64 0, .slice none 0 0, .slice none 0 0]) (t := 25) ?hr ?_; (case hr => go_simp <;> rfl); intro g2 wg2 _ _ _) | (go_at_call 34; (with_reducible refine cM (viewMay_) ?_); rintro e wb ⟨rfl, hb⟩) | (go_at_call 35; (with_reducible refine cM (place _ _) ?_); rintro e w' ⟨rfl, ⟨nd, rfl⟩⟩) | (go_at_call 36; (with_reducible refine cM (places_) ?_); rintro e w' ⟨rfl, ⟨nd, rfl⟩⟩))
 exact bodyPost_ret (v := .tuple #[.agg #[.int .i64 0, .slice none 0 0, .slice none 0 0], .int .i64 1000]) (by simp [results, Tryz.results10, go_sem]) rfl ⟨_, rfl, ⟨_, _, _, _, rfl, frl_nil, frl_nil⟩, belL⟩
set_option maxHeartbeats 1000000 in
theorem take_e {id frm : Int} {A B C : Option Addr} {n c m d k f : Nat} {ps : List S98} {xs ids : List Int} {w : World} [h : Sr k98 w A n c ps] [g : Sr kI w B m d xs] [q : Sr kI w C k f ids] (h1 : viewB id ps xs = true) (h2 : placeB frm = true) (h3 : frm ≠ id) (h4 : ids.length ≤ 16) (h5 : placesB ids = false) :
 Calls Tryz.prog 10 #[.agg #[.int .i64 id, .slice A n c, .slice B m d], .int .i64 frm, .slice C k f] w fun e w' => ∃ v, e = .returned (.tuple #[v, .int .i64 (takeE ⟨id, ps, xs⟩ frm ids)]) ∧ ViewR w' w.heap.size v (takeV ⟨id, ps, xs⟩ frm ids) ∧ BelL w w' := by
 obtain rfl := h.len
 obtain rfl := g.len
 obtain rfl := q.len
 have s1 := sr_l h
 have s2 := sr_l g
 have s3 := sr_l q
 have hb0 : takeB ⟨id, ps, xs⟩ frm ids = false := by simp [takeB, h1, h2, h3, h4, h5]
 have h4a : decide ((16 : Int) < (ids.length : Int)) = false := decide_eq_false (by omega)
 have h3b : (frm == id) = false := by simpa using h3
 clear h g q
 rw [(takeErr hb0).1, (takeErr hb0).2]
 go_enter Tryz.func10, Tryz.ntmps10
 go_wp2_with (first | (with_reducible refine box_tc rfl (N := 3) rfl (cs := #[.int .i64 id, .slice A ps.length c, .slice B xs.length d]) (t := 25) ?hr ?_; (case hr => go_simp <;> rfl); intro g1 wg1 _ _ _) | (with_reducible refine box_tc rfl (N := 6) rfl (cs := #[.int .i64 0, .slice none 0 0, .slice none 0 0]) (t := 25) ?hr ?_; (case hr => go_simp <;> rfl); intro g2 wg2 _ _ _) | (go_at_call 34; (with_reducible refine cM (viewMay_) ?_); rintro e wb ⟨rfl, hb⟩) | (go_at_call 35; (with_reducible refine cM (place _ _) ?_); rintro e w' ⟨rfl, ⟨nd, rfl⟩⟩) | (go_at_call 36; (with_reducible refine cM (places_) ?_); rintro e w' ⟨rfl, ⟨nd, rfl⟩⟩))
 exact bodyPost_ret (v := .tuple #[.agg #[.int .i64 0, .slice none 0 0, .slice none 0 0], .int .i64 1000]) (by simp [results, Tryz.results10, go_sem]) rfl ⟨_, rfl, ⟨_, _, _, _, rfl, frl_nil, frl_nil⟩, belL⟩
set_option maxHeartbeats 1000000 in
theorem take_f {id frm : Int} {A B C : Option Addr} {n c m d k f : Nat} {ps : List S98} {xs ids : List Int} {w : World} [h : Sr k98 w A n c ps] [g : Sr kI w B m d xs] [q : Sr kI w C k f ids] (h1 : viewB id ps xs = true) (h2 : placeB frm = true) (h3 : frm ≠ id) (h4 : ids.length ≤ 16) (h5 : placesB ids = true) (HI : Aside0 (∀ i, i ≤ ids.length → HearOk id (hearMany id (hear1 id (ps, xs) frm) (ids.take i)))) :
 Calls Tryz.prog 10 #[.agg #[.int .i64 id, .slice A n c, .slice B m d], .int .i64 frm, .slice C k f] w fun e w' => ∃ v, e = .returned (.tuple #[v, .int .i64 (takeE ⟨id, ps, xs⟩ frm ids)]) ∧ ViewR w' w.heap.size v (takeV ⟨id, ps, xs⟩ frm ids) ∧ BelL w w' := by
 obtain rfl := h.len
 obtain rfl := g.len
 obtain rfl := q.len
 have s1 := sr_l h
 have s2 := sr_l g
 have s3 := sr_l q
 have hb0 : takeB ⟨id, ps, xs⟩ frm ids = true := by simp [takeB, h1, h2, h3, h4, h5]
 have h4a : decide ((16 : Int) < (ids.length : Int)) = false := decide_eq_false (by omega)
 have h3b : (frm == id) = false := by simpa using h3
 have hn16 := viewB_len h1
 clear h g q
 go_enter Tryz.func10, Tryz.ntmps10
 go_wp2_with (first | (with_reducible refine box_tc rfl (N := 3) rfl (cs := #[.int .i64 id, .slice A ps.length c, .slice B xs.length d]) (t := 25) ?hr ?_; (case hr => go_simp <;> rfl); intro g1 wg1 _ _ _) | (with_reducible refine box_tc rfl (N := 6) rfl (cs := #[.int .i64 0, .slice none 0 0, .slice none 0 0]) (t := 25) ?hr ?_; (case hr => go_simp <;> rfl); intro g2 wg2 _ _ _) | (go_at_call 34; (with_reducible refine cM (viewMay_) ?_); rintro e wb ⟨rfl, hb⟩) | (go_at_call 35; (with_reducible refine cM (place _ _) ?_); rintro e w' ⟨rfl, ⟨nd, rfl⟩⟩) | (go_at_call 36; (with_reducible refine cM (places_) ?_); rintro e w' ⟨rfl, ⟨nd, rfl⟩⟩) | (with_reducible refine box_tc rfl (N := 8) rfl (cs := #[.int .i64 0, .slice none 0 0, .slice none 0 0]) (t := 25) ?hr ?_; (case hr => go_simp <;> rfl); intro g3 wg3 _ _ _) | (go_at_call 37; (with_reducible refine cM (viewCopy_ (by omega) (by omega)) ?_); rintro e w1 ⟨A1, c1, B1, d1, rfl, hFa, hFb, hb1⟩) | (go_at_call 38; (with_reducible refine cM (heard_ (b := wg2.heap.size) (ps := ps) (xs := xs) viewIs (viewB_peers h1) h2 (LeB.out) (by omega)) ?_); rintro e w3 ⟨rfl, hV, hkb⟩))
 go_loopg [10, 42] ids.length (fun kq v10 v42 w' => ∃ (i : Nat) (ps' : List S98) (xs' : List Int), v42 = .int .i64 i ∧ i ≤ ids.length ∧ kq = ids.length - i ∧ Aside0 (hearMany id (hear1 id (ps, xs) frm) (ids.take i) = (ps', xs')) ∧ ViewIs w' g3 wg2.heap.size id ps' xs' ∧ Kb g3 w3 w')
 case atStart => exact ⟨0, _, _, rfl, Nat.zero_le _, rfl, ⟨rfl⟩, hV, inferInstance⟩
 case round =>
  clear hV
  obtain ⟨i, ps', xs', rfl, hi, rfl, HS, ⟨A4, c4, B4, d4, hB4, hF4, hG4⟩, hkb4⟩ := hrel
  have hkb5 := kbL (h := hkb4)
  by_cases hlt : i < ids.length
  ·obtain ⟨ad, rfl, hx⟩ := int_kb hkb5 (A := C) (n := ids.length) (c := f) (l := ids) i hlt
   have HH : Aside0 (peersB id ps' = true ∧ ps'.length + xs'.length ≤ 16) := ⟨show HearOk id (ps', xs') by rw [← HS.out]; exact HI.out i hi⟩
   have hpl : placeB ids[i] = true := placesB_at h5 i hlt
   obtain ⟨x, hxe⟩ : ∃ x, x = ids[i] := ⟨_, rfl⟩
   rw [← hxe] at hx hpl
   have HXE := Aside0.mk hxe
   clear hxe
   by_cases he : x = id
   ·have e1 : (x != id) = false := by simp [he]
    have e2 : (x == id) = true := by simp [he]
    have HE := Aside0.mk he
    clear he
    go_wp2_with (first | (go_at_call 39; (with_reducible refine cM (viewPeer_ HH.out.1 hpl) ?_); rintro e w4 ⟨rfl, hb⟩) | (go_at_call 40; (with_reducible refine cM (viewPassive_) ?_); rintro e w' ⟨rfl, ⟨nd, rfl⟩⟩) | (go_at_call 38; (with_reducible refine cM (heard_ (b := wg2.heap.size) (ps := ps') (xs := xs') viewIs HH.out.1 hpl (LeB.out) HH.out.2) ?_); rintro e w5 ⟨rfl, hV5, hkb6⟩))
    go_roundg (ids.length - (i + 1))
    case measure => omega
    case rel => exact ⟨i + 1, ps', xs', by go_num, by omega, rfl, ⟨by rw [hearMany_snoc hlt, HS.out, ← HXE.out]; simp [hearStep, e2]⟩, viewIs, inferInstance⟩
   ·have e1 : (x != id) = true := by simpa using he
    have e2 : (x == id) = false := by simpa using he
    clear he
    cases k1 : knownB ps' x
    ·cases k2 : memB xs' x
     ·go_wp2_with (first | (go_at_call 39; (with_reducible refine cM (viewPeer_ HH.out.1 hpl) ?_); rintro e w4 ⟨rfl, hb⟩) | (go_at_call 40; (with_reducible refine cM (viewPassive_) ?_); rintro e w' ⟨rfl, ⟨nd, rfl⟩⟩) | (go_at_call 38; (with_reducible refine cM (heard_ (b := wg2.heap.size) (ps := ps') (xs := xs') viewIs HH.out.1 hpl (LeB.out) HH.out.2) ?_); rintro e w5 ⟨rfl, hV5, hkb6⟩))
      go_roundg (ids.length - (i + 1))
      case measure => omega
      case rel => exact ⟨i + 1, _, _, by go_num, by omega, rfl, ⟨by rw [hearMany_snoc hlt, HS.out, ← HXE.out]; simp [hearStep, e2, k1, k2]; rfl⟩, hV5, inferInstance⟩
     ·go_wp2_with (first | (go_at_call 39; (with_reducible refine cM (viewPeer_ HH.out.1 hpl) ?_); rintro e w4 ⟨rfl, hb⟩) | (go_at_call 40; (with_reducible refine cM (viewPassive_) ?_); rintro e w' ⟨rfl, ⟨nd, rfl⟩⟩) | (go_at_call 38; (with_reducible refine cM (heard_ (b := wg2.heap.size) (ps := ps') (xs := xs') viewIs HH.out.1 hpl (LeB.out) HH.out.2) ?_); rintro e w5 ⟨rfl, hV5, hkb6⟩))
      go_roundg (ids.length - (i + 1))
      case measure => omega
      case rel => exact ⟨i + 1, ps', xs', by go_num, by omega, rfl, ⟨by rw [hearMany_snoc hlt, HS.out, ← HXE.out]; simp [hearStep, k2]⟩, viewIs, inferInstance⟩
    ·go_wp2_with (first | (go_at_call 39; (with_reducible refine cM (viewPeer_ HH.out.1 hpl) ?_); rintro e w4 ⟨rfl, hb⟩) | (go_at_call 40; (with_reducible refine cM (viewPassive_) ?_); rintro e w' ⟨rfl, ⟨nd, rfl⟩⟩) | (go_at_call 38; (with_reducible refine cM (heard_ (b := wg2.heap.size) (ps := ps') (xs := xs') viewIs HH.out.1 hpl (LeB.out) HH.out.2) ?_); rintro e w5 ⟨rfl, hV5, hkb6⟩))
     go_roundg (ids.length - (i + 1))
     case measure => omega
     case rel => exact ⟨i + 1, ps', xs', by go_num, by omega, rfl, ⟨by rw [hearMany_snoc hlt, HS.out, ← HXE.out]; simp [hearStep, k1]⟩, viewIs, inferInstance⟩
  ·obtain rfl : i = ids.length := by omega
   rw [List.take_length] at HS
   have HV : Aside0 (takeV ⟨id, ps, xs⟩ frm ids = ⟨id, ps', xs'⟩ ∧ takeE ⟨id, ps, xs⟩ frm ids = 0) := ⟨by have := HS.out; constructor <;> simp [takeV, takeE, takeS, hb0, this]⟩
   go_wp2
   exact bodyPost_ret (v := .tuple #[.agg #[.int .i64 id, .slice A4 ps'.length c4, .slice B4 xs'.length d4], .int .i64 0]) (by simp [results, Tryz.results10, go_sem]) rfl ⟨_, by rw [HV.out.2], by rw [HV.out.1]; exact ⟨_, _, _, _, rfl, frl, frl⟩, belL⟩
end Go.Proofs.YtljipbmmgcccnaaGreat.T
end
section
namespace Go.Proofs.YtljipbmmgcccnaaGreat.T
open Go.RowKit Go.Proofs.YtljipbmmgcccnaaGreatW.PrintWords Go.Proofs.YtljipbmmgcccnaaGreatW.PrintLast Go.Proofs.YtljipbmmgcccnaaGreatW.PrintMore
attribute [local go_sem] cell_tc frozen_tc max2_int min2_int
attribute [local go_sem ↓] Go.wp_at_zero Go.wp_at_succ
set_option linter.unusedVariables false
set_option linter.unusedSimpArgs false
set_option synthInstance.maxHeartbeats 400000
set_option synthInstance.maxSize 512
section
theorem eqA46 (d : Nat) (w : World) (x0 y0 : Int) (x1 y1 : Int) :
 (Op.equalIn (d + 2) 46 (.agg #[.int .i64 x0, .int .i64 x1]) (.agg #[.int .i64 y0, .int .i64 y1])).run Tryz.prog w = .ok (x0 == y0 && (x1 == y1)) w := by
 refine eqA_of Tryz.underlying46 (by kernel_rfl) ?_
 refine eqf_cons (by rfl) (by go_simp; rfl) (by go_simp; rfl) (by go_simp) ?_
 exact eqf_last (by rfl) (by go_simp; rfl) (by go_simp; rfl) (by go_simp)
theorem eqA98 (d : Nat) (w : World) (x0 y0 : Int) (x1 y1 : Int) :
 (Op.equalIn (d + 2) 98 (.agg #[.int .i64 x0, .int .i64 x1]) (.agg #[.int .i64 y0, .int .i64 y1])).run Tryz.prog w = .ok (x0 == y0 && (x1 == y1)) w := by
 refine eqA_of Tryz.underlying98 (by kernel_rfl) ?_
 refine eqf_cons (by rfl) (by go_simp; rfl) (by go_simp; rfl) (by go_simp) ?_
 exact eqf_last (by rfl) (by go_simp; rfl) (by go_simp; rfl) (by go_simp)
theorem eqA77 (d : Nat) (w : World) (x0 y0 : Int) (x1 y1 : Bool) (x2 y2 : Int) :
 (Op.equalIn (d + 2) 77 (.agg #[.int .i64 x0, .bool x1, .int .i64 x2]) (.agg #[.int .i64 y0, .bool y1, .int .i64 y2])).run Tryz.prog w = .ok (x0 == y0 && (x1 == y1 && (x2 == y2))) w := by
 refine eqA_of Tryz.underlying77 (by kernel_rfl) ?_
 refine eqf_cons (by rfl) (by go_simp; rfl) (by go_simp; rfl) (by go_simp) ?_
 refine eqf_cons (by rfl) (by go_simp; rfl) (by go_simp; rfl) (by go_simp) ?_
 exact eqf_last (by rfl) (by go_simp; rfl) (by go_simp; rfl) (by go_simp)
attribute [local go_sem high] eqA46
theorem eqA48 (d : Nat) (w : World) (x0 y0 : Int) (x1 y1 : Int) (x2 y2 : Int) (x3 y3 : Int) (x4 y4 : Bool) :
 (Op.equalIn (d + 3) 48 (.agg #[.int .i64 x0, .int .i64 x1, .int .i64 x2, .int .i64 x3, .bool x4]) (.agg #[.int .i64 y0, .int .i64 y1, .int .i64 y2, .int .i64 y3, .bool y4])).run Tryz.prog w = .ok (x0 == y0 && ((x1 == y1 && (x2 == y2)) && (x3 == y3 && (x4 == y4)))) w := by
 refine eqA_of Tryz.underlying48 (by kernel_rfl) ?_
 refine eqf_cons (by rfl) (by go_simp; rfl) (by go_simp; rfl) (by go_simp) ?_
 refine eqf_cons (by rfl) (by go_simp) (by go_simp) (eqA46 (d + 0) w _ _ _ _) ?_
 refine eqf_cons (by rfl) (by go_simp; rfl) (by go_simp; rfl) (by go_simp) ?_
 exact eqf_last (by rfl) (by go_simp; rfl) (by go_simp; rfl) (by go_simp)
end
end Go.Proofs.YtljipbmmgcccnaaGreat.T
end
section
namespace Go.Proofs.YtljipbmmgcccnaaGreat.T
open Go.RowKit Go.Proofs.YtljipbmmgcccnaaGreatW.PrintWords Go.Proofs.YtljipbmmgcccnaaGreatW.PrintLast Go.Proofs.YtljipbmmgcccnaaGreatW.PrintMore
attribute [local go_sem] cell_tc frozen_tc max2_int min2_int
attribute [local go_sem ↓] Go.wp_at_zero Go.wp_at_succ
set_option linter.unusedVariables false
set_option linter.unusedSimpArgs false
attribute [local go_sem high] eqA46 eqA98 eqA77 eqA48
theorem verMay_ {c x : Int} {w : World} : Calls Tryz.prog 61 #[.agg #[.int .i64 c, .int .i64 x]] w fun e w' => e = .returned (.bool (verB c x)) ∧ BelL w w' := (verMay c x w).mono fun _ _ ⟨a, b⟩ => ⟨a, ⟨b⟩⟩
theorem itemMay_ {k c x v : Int} {g : Bool} {w : World} : Calls Tryz.prog 57 #[.agg #[.int .i64 k, .int .i64 c, .int .i64 x, .int .i64 v, .bool g]] w fun e w' => e = .returned (.bool (itemB k c x v g)) ∧ BelL w w' := (itemMay k c x v g w).mono fun _ _ ⟨a, b⟩ => ⟨a, ⟨b⟩⟩
def newerB (ac ax bc bx : Int) : Bool := decide (bc < ac) || (ac == bc && decide (bx < ax))
def newerR (ac ax bc bx : Int) : Bool := verB ac ax && verB bc bx && newerB ac ax bc bx
def newerE (ac ax bc bx : Int) : Int := if verB ac ax && verB bc bx then 0 else 300
set_option maxHeartbeats 1000000 in
theorem newer_ {ac ax bc bx : Int} {w : World} :
 Calls Tryz.prog 21 #[.agg #[.int .i64 ac, .int .i64 ax], .agg #[.int .i64 bc, .int .i64 bx]] w fun e w' => e = .returned (.tuple #[.bool (newerR ac ax bc bx), .int .i64 (newerE ac ax bc bx)]) ∧ BelL w w' := by
 cases h1 : verB ac ax
 ·rw [show newerR ac ax bc bx = false by simp [newerR, h1], show newerE ac ax bc bx = 300 by simp [newerE, h1]]
  go_enter Tryz.func21, Tryz.ntmps21
  go_wp2_with (first | (with_reducible refine box_tc rfl (N := 2) rfl (cs := #[.int .i64 ac, .int .i64 ax]) (t := 46) ?hr ?_; (case hr => go_simp <;> rfl); intro g1 wg1 _ _ _) | (with_reducible refine box_tc rfl (N := 3) rfl (cs := #[.int .i64 bc, .int .i64 bx]) (t := 46) ?hr ?_; (case hr => go_simp <;> rfl); intro g2 wg2 _ _ _) | (go_at_call 61; (with_reducible refine cM (verMay_) ?_); rintro e wb ⟨rfl, hb⟩))
  go_ret2
  exact ⟨rfl, belL⟩
 ·cases h2 : verB bc bx
  ·rw [show newerR ac ax bc bx = false by simp [newerR, h1, h2], show newerE ac ax bc bx = 300 by simp [newerE, h1, h2]]
   go_enter Tryz.func21, Tryz.ntmps21
   go_wp2_with (first | (with_reducible refine box_tc rfl (N := 2) rfl (cs := #[.int .i64 ac, .int .i64 ax]) (t := 46) ?hr ?_; (case hr => go_simp <;> rfl); intro g1 wg1 _ _ _) | (with_reducible refine box_tc rfl (N := 3) rfl (cs := #[.int .i64 bc, .int .i64 bx]) (t := 46) ?hr ?_; (case hr => go_simp <;> rfl); intro g2 wg2 _ _ _) | (go_at_call 61; (with_reducible refine cM (verMay_) ?_); rintro e wb ⟨rfl, hb⟩))
   go_ret2
   exact ⟨rfl, belL⟩
  ·rw [show newerE ac ax bc bx = 0 by simp [newerE, h1, h2]]
   by_cases e1 : bc < ac
   ·rw [show newerR ac ax bc bx = true by simp [newerR, h1, h2, newerB, e1]]
    go_enter Tryz.func21, Tryz.ntmps21
    go_wp2_with (first | (with_reducible refine box_tc rfl (N := 2) rfl (cs := #[.int .i64 ac, .int .i64 ax]) (t := 46) ?hr ?_; (case hr => go_simp <;> rfl); intro g1 wg1 _ _ _) | (with_reducible refine box_tc rfl (N := 3) rfl (cs := #[.int .i64 bc, .int .i64 bx]) (t := 46) ?hr ?_; (case hr => go_simp <;> rfl); intro g2 wg2 _ _ _) | (go_at_call 61; (with_reducible refine cM (verMay_) ?_); rintro e wb ⟨rfl, hb⟩))
    go_ret2
    exact ⟨rfl, belL⟩
   ·by_cases e2 : ac = bc
    ·subst e2
     rw [show newerR ac ax ac bx = decide (bx < ax) by simp [newerR, h1, h2, newerB]]
     go_enter Tryz.func21, Tryz.ntmps21
     go_wp2_with (first | (with_reducible refine box_tc rfl (N := 2) rfl (cs := #[.int .i64 ac, .int .i64 ax]) (t := 46) ?hr ?_; (case hr => go_simp <;> rfl); intro g1 wg1 _ _ _) | (with_reducible refine box_tc rfl (N := 3) rfl (cs := #[.int .i64 ac, .int .i64 bx]) (t := 46) ?hr ?_; (case hr => go_simp <;> rfl); intro g2 wg2 _ _ _) | (go_at_call 61; (with_reducible refine cM (verMay_) ?_); rintro e wb ⟨rfl, hb⟩))
     go_ret2
     exact ⟨rfl, belL⟩
    ·rw [show newerR ac ax bc bx = false by simp [newerR, h1, h2, newerB, e1, e2]]
     have e3 : (ac == bc) = false := by simpa using e2
     have e4 : decide (bc < ac) = false := decide_eq_false e1
     clear e1 e2
     go_enter Tryz.func21, Tryz.ntmps21
     go_wp2_with (first | (with_reducible refine box_tc rfl (N := 2) rfl (cs := #[.int .i64 ac, .int .i64 ax]) (t := 46) ?hr ?_; (case hr => go_simp <;> rfl); intro g1 wg1 _ _ _) | (with_reducible refine box_tc rfl (N := 3) rfl (cs := #[.int .i64 bc, .int .i64 bx]) (t := 46) ?hr ?_; (case hr => go_simp <;> rfl); intro g2 wg2 _ _ _) | (go_at_call 61; (with_reducible refine cM (verMay_) ?_); rintro e wb ⟨rfl, hb⟩))
     go_ret2
     exact ⟨rfl, belL⟩
def betterB (a b : S48) : Bool := if (a.f1.f0 == b.f1.f0 && a.f1.f1 == b.f1.f1) = true then (if a.f3 = b.f3 then decide (b.f2 < a.f2) else a.f3) else newerB a.f1.f0 a.f1.f1 b.f1.f0 b.f1.f1
set_option maxHeartbeats 2000000 in
theorem better_ {ak ac ax av bk bc bx bv : Int} {ag bg : Bool} {g g' t t' : Nat} {w : World} [h : Blk w g #[.int .i64 ak, .int .i64 ac, .int .i64 ax, .int .i64 av, .bool ag] t] [h' : Blk w g' #[.int .i64 bk, .int .i64 bc, .int .i64 bx, .int .i64 bv, .bool bg] t'] (h1 : verB ac ax = true) (h2 : verB bc bx = true) :
 Calls Tryz.prog 60 #[.pointer (some ⟨g, 0, none⟩), .pointer (some ⟨g', 0, none⟩)] w fun e w' => e = .returned (.bool (betterB ⟨ak, ⟨ac, ax⟩, av, ag⟩ ⟨bk, ⟨bc, bx⟩, bv, bg⟩)) ∧ BelL w w' := by
 have HN : Aside0 (newerR ac ax bc bx = newerB ac ax bc bx) := ⟨by simp [newerR, h1, h2]⟩
 clear h1 h2
 cases e1 : (ac == bc && ax == bx)
 ·have HB : Aside0 (betterB ⟨ak, ⟨ac, ax⟩, av, ag⟩ ⟨bk, ⟨bc, bx⟩, bv, bg⟩ = newerB ac ax bc bx) := ⟨by unfold betterB; simp [e1]⟩
  go_enter Tryz.func60, Tryz.ntmps60
  go_wp2
  go_quiet (fail)
  go_wp2
  go_region_with (first | (go_at_call 21; (with_reducible refine Calls.mono newer_ ?_); rintro e w1 ⟨rfl, hb⟩))
  all_goals
   go_wp2
   go_ret
   exact ⟨by rw [HB.out, ← HN.out]; rfl, belL⟩
 ·have e5 : ac = bc ∧ ax = bx := by simpa using e1
  obtain ⟨rfl, rfl⟩ := e5
  by_cases e2 : ag = bg
  ·subst e2
   rw [show betterB ⟨ak, ⟨ac, ax⟩, av, ag⟩ ⟨bk, ⟨ac, ax⟩, bv, ag⟩ = decide (bv < av) by simp [betterB]]
   go_enter Tryz.func60, Tryz.ntmps60
   go_wp2
   go_quiet (fail)
   go_wp2
   go_quiet (fail)
   go_wp2
   go_quiet (fail)
   go_wp2
   go_ret
   exact ⟨rfl, belL⟩
  ·rw [show betterB ⟨ak, ⟨ac, ax⟩, av, ag⟩ ⟨bk, ⟨ac, ax⟩, bv, bg⟩ = ag by simp [betterB, e2]]
   have e4 : (ag == bg) = false := by simpa using e2
   clear e2
   go_enter Tryz.func60, Tryz.ntmps60
   go_wp2
   go_quiet (fail)
   go_wp2
   go_quiet (fail)
   go_wp2
   go_ret
   exact ⟨rfl, belL⟩
end Go.Proofs.YtljipbmmgcccnaaGreat.T
end
section
namespace Go.Proofs.YtljipbmmgcccnaaGreat.T
open Go.RowKit Go.Proofs.YtljipbmmgcccnaaGreatW.PrintWords Go.Proofs.YtljipbmmgcccnaaGreatW.PrintLast Go.Proofs.YtljipbmmgcccnaaGreatW.PrintMore
attribute [local go_sem] cell_tc frozen_tc max2_int min2_int
attribute [local go_sem ↓] Go.wp_at_zero Go.wp_at_succ
set_option linter.unusedVariables false
set_option linter.unusedSimpArgs false
theorem wp_letter {P : Program} {c : Code} {Q : Exit → Act → World → Prop} {a : Act} {W : World} (h : ∀ w1, BelL W w1 → c.wp P Q a w1) : c.wp P Q a W := h W ⟨Below.refl _ _⟩
theorem wp_region_bel {P : Program} {id : Nat} {Q : Exit → Act → World → Prop} {a : Act} {w : World} {l : List Oper} (hm : P.follows .mixedOrders = true) (hB : Region.lexB .any l.toArray = true)
 (h : wpQuiet P l.toArray (fun w' => BelL w w') (fun a' => ∀ w', BelL w w' → Q .normal a' w') l a) : (Code.region id l.toArray true).wp P Q a w :=
 wp_region_quiet (C := fun w' => BelL w w') hm hB ⟨below_drew1 (Below.refl _ _)⟩ (by simpa using h)
class CellL (W : outParam World) (a : Addr) (v : outParam Value) : Prop where out : W.cell? a = some v
class Cell (W : World) (a : Addr) (v : outParam Value) : Prop where out : W.cell? a = some v
instance cell_of {W1 W : World} {a : Addr} {v : Value} [h : CellL W1 a v] [g : Bel W1 W] : Cell W a v := ⟨cell_b h.out g.out⟩
theorem cell_tc2 {W : World} {a : Addr} {v : Value} [h : Cell W a v] : W.cell? a = some v := h.out
theorem el_I {W : World} {A : Option Addr} {n c : Nat} {l : List Int} [h : Sr kI W A n c l] (j : Nat) (hj : j < l.length) : ∃ ad, A = some ad ∧ CellL W (ad.add j) (.int .i64 l[j]) := by
 have := h.len; subst this
 obtain ⟨ad, e, hx⟩ := int_at h.C j hj
 exact ⟨ad, e, ⟨hx⟩⟩
theorem el_T98 {W : World} {A : Option Addr} {n c : Nat} {l : List S98} [h : Sr k98 W A n c l] (j : Nat) (hj : j < l.length) :
 ∃ ad , A = some ad ∧ CellL W (ad.add (j * 2)) (.int .i64 l[j].f0) ∧ CellL W ⟨(ad.add (j * 2)).block, (ad.add (j * 2)).off + 1, none⟩ (.int .i64 l[j].f1) := by
 have hn := h.len
 have hq := at_T98 h.C j (by omega) (by omega)
 have e2 : rd_T98 l (j : Int) = l[j] := by unfold rd_T98; rw [Int.toNat_natCast, List.getD_eq_getElem?_getD, List.getElem?_eq_getElem hj]; rfl
 rw [e2, Int.toNat_natCast] at hq
 obtain ⟨ad, e, h0, h1⟩ := hq
 subst e
 exact ⟨ad, rfl, ⟨h0⟩, ⟨h1⟩⟩
theorem el_T77 {W : World} {A : Option Addr} {n c : Nat} {l : List S77} [h : Sr k77 W A n c l] (j : Nat) (hj : j < l.length) :
 ∃ ad , A = some ad ∧ CellL W (ad.add (j * 3)) (.int .i64 l[j].f0) ∧ CellL W ⟨(ad.add (j * 3)).block, (ad.add (j * 3)).off + 1, none⟩ (.bool l[j].f1) ∧ CellL W ⟨(ad.add (j * 3)).block, (ad.add (j * 3)).off + 2, none⟩ (.int .i64 l[j].f2) := by
 have hn := h.len
 have hq := at_T77 h.C j (by omega) (by omega)
 have e2 : rd_T77 l (j : Int) = l[j] := by unfold rd_T77; rw [Int.toNat_natCast, List.getD_eq_getElem?_getD, List.getElem?_eq_getElem hj]; rfl
 rw [e2, Int.toNat_natCast] at hq
 obtain ⟨ad, e, h0, h1, h2⟩ := hq
 subst e
 exact ⟨ad, rfl, ⟨h0⟩, ⟨h1⟩, ⟨h2⟩⟩
theorem el_T48 {W : World} {A : Option Addr} {n c : Nat} {l : List S48} [h : Sr k48 W A n c l] (j : Nat) (hj : j < l.length) :
 ∃ ad , A = some ad ∧ CellL W (ad.add (j * 5)) (.int .i64 l[j].f0) ∧ CellL W ⟨(ad.add (j * 5)).block, (ad.add (j * 5)).off + 1, none⟩ (.int .i64 l[j].f1.f0) ∧ CellL W ⟨(ad.add (j * 5)).block, (ad.add (j * 5)).off + 2, none⟩ (.int .i64 l[j].f1.f1) ∧ CellL W ⟨(ad.add (j * 5)).block, (ad.add (j * 5)).off + 3, none⟩ (.int .i64 l[j].f2) ∧ CellL W ⟨(ad.add (j * 5)).block, (ad.add (j * 5)).off + 4, none⟩ (.bool l[j].f3) := by
 have hn := h.len
 have hq := at_T48 h.C j (by omega) (by omega)
 have e2 : rd_T48 l (j : Int) = l[j] := by unfold rd_T48; rw [Int.toNat_natCast, List.getD_eq_getElem?_getD, List.getElem?_eq_getElem hj]; rfl
 rw [e2, Int.toNat_natCast] at hq
 obtain ⟨ad, e, h0, h1, h2, h3, h4⟩ := hq
 subst e
 exact ⟨ad, rfl, ⟨h0⟩, ⟨h1⟩, ⟨h2⟩, ⟨h3⟩, ⟨h4⟩⟩
theorem el_T40 {W : World} {A : Option Addr} {n c : Nat} {l : List S40} [h : Sr k40 W A n c l] (j : Nat) (hj : j < l.length) :
 ∃ ad A2 c2 A3 c3 A4 c4 A5 c5, A = some ad ∧ CellL W (ad.add (j * 6)) (.bool l[j].f0) ∧ CellL W ⟨(ad.add (j * 6)).block, (ad.add (j * 6)).off + 1, none⟩ (.int .i64 l[j].f1.f0) ∧ CellL W ⟨(ad.add (j * 6)).block, (ad.add (j * 6)).off + 2, none⟩ (.slice A2 l[j].f1.f1.length c2) ∧ CellL W ⟨(ad.add (j * 6)).block, (ad.add (j * 6)).off + 3, none⟩ (.slice A3 l[j].f1.f2.length c3) ∧ CellL W ⟨(ad.add (j * 6)).block, (ad.add (j * 6)).off + 4, none⟩ (.slice A4 l[j].f2.length c4) ∧ CellL W ⟨(ad.add (j * 6)).block, (ad.add (j * 6)).off + 5, none⟩ (.slice A5 l[j].f3.length c5) ∧ SrL k98 W A2 l[j].f1.f1.length c2 l[j].f1.f1 ∧ SrL kI W A3 l[j].f1.f2.length c3 l[j].f1.f2 ∧ SrL k48 W A4 l[j].f2.length c4 l[j].f2 ∧ SrL k77 W A5 l[j].f3.length c5 l[j].f3 := by
 have hn := h.len
 have hq := at_T40 h.C j (by omega) (by omega)
 have e2 : rd_T40 l (j : Int) = l[j] := by unfold rd_T40; rw [Int.toNat_natCast, List.getD_eq_getElem?_getD, List.getElem?_eq_getElem hj]; rfl
 rw [e2, Int.toNat_natCast] at hq
 obtain ⟨ad, A2, c2, A3, c3, A4, c4, A5, c5, e, h0, h1, h2, h3, h4, h5, l2, g2, l3, g3, l4, g4, l5, g5⟩ := hq
 subst e
 exact ⟨ad, A2, c2, A3, c3, A4, c4, A5, c5, rfl, ⟨h0⟩, ⟨h1⟩, ⟨h2⟩, ⟨h3⟩, ⟨h4⟩, ⟨h5⟩, ⟨rfl, l2, g2⟩, ⟨rfl, l3, g3⟩, ⟨rfl, l4, g4⟩, ⟨rfl, l5, g5⟩⟩
theorem el_T126 {W : World} {A : Option Addr} {n c : Nat} {l : List S126} [h : Sr k126 W A n c l] (j : Nat) (hj : j < l.length) :
 ∃ ad A3 c3, A = some ad ∧ CellL W (ad.add (j * 11)) (.int .i64 l[j].f0) ∧ CellL W ⟨(ad.add (j * 11)).block, (ad.add (j * 11)).off + 1, none⟩ (.int .i64 l[j].f1) ∧ CellL W ⟨(ad.add (j * 11)).block, (ad.add (j * 11)).off + 2, none⟩ (.int .i64 l[j].f2) ∧ CellL W ⟨(ad.add (j * 11)).block, (ad.add (j * 11)).off + 3, none⟩ (.slice A3 l[j].f3.length c3) ∧ CellL W ⟨(ad.add (j * 11)).block, (ad.add (j * 11)).off + 4, none⟩ (.int .i64 l[j].f4) ∧ CellL W ⟨(ad.add (j * 11)).block, (ad.add (j * 11)).off + 5, none⟩ (.int .i64 l[j].f5.f0) ∧ CellL W ⟨(ad.add (j * 11)).block, (ad.add (j * 11)).off + 6, none⟩ (.int .i64 l[j].f5.f1.f0) ∧ CellL W ⟨(ad.add (j * 11)).block, (ad.add (j * 11)).off + 7, none⟩ (.int .i64 l[j].f5.f1.f1) ∧ CellL W ⟨(ad.add (j * 11)).block, (ad.add (j * 11)).off + 8, none⟩ (.int .i64 l[j].f5.f2) ∧ CellL W ⟨(ad.add (j * 11)).block, (ad.add (j * 11)).off + 9, none⟩ (.bool l[j].f5.f3) ∧ CellL W ⟨(ad.add (j * 11)).block, (ad.add (j * 11)).off + 10, none⟩ (.bool l[j].f6) ∧ SrL kI W A3 l[j].f3.length c3 l[j].f3 := by
 have hn := h.len
 have hq := at_T126 h.C j (by omega) (by omega)
 have e2 : rd_T126 l (j : Int) = l[j] := by unfold rd_T126; rw [Int.toNat_natCast, List.getD_eq_getElem?_getD, List.getElem?_eq_getElem hj]; rfl
 rw [e2, Int.toNat_natCast] at hq
 obtain ⟨ad, A3, c3, e, h0, h1, h2, h3, h4, h5, h6, h7, h8, h9, h10, l3, g3⟩ := hq
 subst e
 exact ⟨ad, A3, c3, rfl, ⟨h0⟩, ⟨h1⟩, ⟨h2⟩, ⟨h3⟩, ⟨h4⟩, ⟨h5⟩, ⟨h6⟩, ⟨h7⟩, ⟨h8⟩, ⟨h9⟩, ⟨h10⟩, ⟨rfl, l3, g3⟩⟩
end Go.Proofs.YtljipbmmgcccnaaGreat.T
end
section
namespace Go.Proofs.YtljipbmmgcccnaaGreat.T
open Go.RowKit Go.Proofs.YtljipbmmgcccnaaGreatW.PrintWords Go.Proofs.YtljipbmmgcccnaaGreatW.PrintLast Go.Proofs.YtljipbmmgcccnaaGreatW.PrintMore
attribute [local go_sem] cell_tc frozen_tc max2_int min2_int
attribute [local go_sem ↓] Go.wp_at_zero Go.wp_at_succ
set_option linter.unusedVariables false
set_option linter.unusedSimpArgs false
attribute [local go_sem high] eqA46 eqA98 eqA77 eqA48
def itemV (i : S48) : Value := .agg #[.int .i64 i.f0, .int .i64 i.f1.f0, .int .i64 i.f1.f1, .int .i64 i.f2, .bool i.f3]
def itemOk (i : S48) : Bool := itemB i.f0 i.f1.f0 i.f1.f1 i.f2 i.f3
def bestB (a b : S48) : Bool := itemOk a && itemOk b && (a.f0 == b.f0)
def bestI (a b : S48) : S48 := if bestB a b then (if betterB a b then a else b) else z48
def bestE (a b : S48) : Int := if bestB a b then 0 else 400
theorem itemOk_ver {k c x v : Int} {g : Bool} (h : itemB k c x v g = true) : verB c x = true := by unfold itemB at h; simp only [Bool.and_eq_true] at h; exact h.1.2
set_option maxHeartbeats 1000000 in
theorem best_ {ak ac ax av bk bc bx bv : Int} {ag bg : Bool} {w : World} :
 Calls Tryz.prog 20 #[.agg #[.int .i64 ak, .int .i64 ac, .int .i64 ax, .int .i64 av, .bool ag], .agg #[.int .i64 bk, .int .i64 bc, .int .i64 bx, .int .i64 bv, .bool bg]] w fun e w' => e = .returned (.tuple #[itemV (bestI ⟨ak, ⟨ac, ax⟩, av, ag⟩ ⟨bk, ⟨bc, bx⟩, bv, bg⟩), .int .i64 (bestE ⟨ak, ⟨ac, ax⟩, av, ag⟩ ⟨bk, ⟨bc, bx⟩, bv, bg⟩)]) ∧ BelL w w' := by
 cases h1 : itemB ak ac ax av ag
 ·rw [show bestI ⟨ak, ⟨ac, ax⟩, av, ag⟩ ⟨bk, ⟨bc, bx⟩, bv, bg⟩ = z48 by simp [bestI, bestB, itemOk, h1], show bestE ⟨ak, ⟨ac, ax⟩, av, ag⟩ ⟨bk, ⟨bc, bx⟩, bv, bg⟩ = 400 by simp [bestE, bestB, itemOk, h1]]
  go_enter Tryz.func20, Tryz.ntmps20
  go_wp2_with (first | (with_reducible refine box_tc rfl (N := 2) rfl (cs := #[.int .i64 ak, .int .i64 ac, .int .i64 ax, .int .i64 av, .bool ag]) (t := 48) ?hr ?_; (case hr => go_simp <;> rfl); intro g1 wg1 _ _ _) | (with_reducible refine box_tc rfl (N := 3) rfl (cs := #[.int .i64 bk, .int .i64 bc, .int .i64 bx, .int .i64 bv, .bool bg]) (t := 48) ?hr ?_; (case hr => go_simp <;> rfl); intro g2 wg2 _ _ _) | (with_reducible refine box_tc rfl (N := 4) rfl (cs := #[.int .i64 0, .int .i64 0, .int .i64 0, .int .i64 0, .bool false]) (t := 48) ?hr ?_; (case hr => go_simp <;> rfl); intro g3 wg3 _ _ _) | (go_at_call 57; (with_reducible refine cM (itemMay_) ?_); rintro e wb ⟨rfl, hb⟩) | (go_at_call 60; (with_reducible refine cM (better_ (by assumption) (by assumption)) ?_); rintro e wb ⟨rfl, hb⟩))
  exact bodyPost_ret (v := .tuple #[.agg #[.int .i64 0, .int .i64 0, .int .i64 0, .int .i64 0, .bool false], .int .i64 400]) (by simp [results, Tryz.results20, go_sem]) rfl ⟨rfl, belL⟩
 ·cases h2 : itemB bk bc bx bv bg
  ·rw [show bestI ⟨ak, ⟨ac, ax⟩, av, ag⟩ ⟨bk, ⟨bc, bx⟩, bv, bg⟩ = z48 by simp [bestI, bestB, itemOk, h2], show bestE ⟨ak, ⟨ac, ax⟩, av, ag⟩ ⟨bk, ⟨bc, bx⟩, bv, bg⟩ = 400 by simp [bestE, bestB, itemOk, h2]]
   go_enter Tryz.func20, Tryz.ntmps20
   go_wp2_with (first | (with_reducible refine box_tc rfl (N := 2) rfl (cs := #[.int .i64 ak, .int .i64 ac, .int .i64 ax, .int .i64 av, .bool ag]) (t := 48) ?hr ?_; (case hr => go_simp <;> rfl); intro g1 wg1 _ _ _) | (with_reducible refine box_tc rfl (N := 3) rfl (cs := #[.int .i64 bk, .int .i64 bc, .int .i64 bx, .int .i64 bv, .bool bg]) (t := 48) ?hr ?_; (case hr => go_simp <;> rfl); intro g2 wg2 _ _ _) | (with_reducible refine box_tc rfl (N := 4) rfl (cs := #[.int .i64 0, .int .i64 0, .int .i64 0, .int .i64 0, .bool false]) (t := 48) ?hr ?_; (case hr => go_simp <;> rfl); intro g3 wg3 _ _ _) | (go_at_call 57; (with_reducible refine cM (itemMay_) ?_); rintro e wb ⟨rfl, hb⟩) | (go_at_call 60; (with_reducible refine cM (better_ (by assumption) (by assumption)) ?_); rintro e wb ⟨rfl, hb⟩))
   exact bodyPost_ret (v := .tuple #[.agg #[.int .i64 0, .int .i64 0, .int .i64 0, .int .i64 0, .bool false], .int .i64 400]) (by simp [results, Tryz.results20, go_sem]) rfl ⟨rfl, belL⟩
  ·cases h3 : (ak == bk)
   ·rw [show bestI ⟨ak, ⟨ac, ax⟩, av, ag⟩ ⟨bk, ⟨bc, bx⟩, bv, bg⟩ = z48 by simp [bestI, bestB, itemOk, h3], show bestE ⟨ak, ⟨ac, ax⟩, av, ag⟩ ⟨bk, ⟨bc, bx⟩, bv, bg⟩ = 400 by simp [bestE, bestB, itemOk, h3]]
    have h4 : (ak != bk) = true := by simpa using h3
    go_enter Tryz.func20, Tryz.ntmps20
    go_wp2_with (first | (with_reducible refine box_tc rfl (N := 2) rfl (cs := #[.int .i64 ak, .int .i64 ac, .int .i64 ax, .int .i64 av, .bool ag]) (t := 48) ?hr ?_; (case hr => go_simp <;> rfl); intro g1 wg1 _ _ _) | (with_reducible refine box_tc rfl (N := 3) rfl (cs := #[.int .i64 bk, .int .i64 bc, .int .i64 bx, .int .i64 bv, .bool bg]) (t := 48) ?hr ?_; (case hr => go_simp <;> rfl); intro g2 wg2 _ _ _) | (with_reducible refine box_tc rfl (N := 4) rfl (cs := #[.int .i64 0, .int .i64 0, .int .i64 0, .int .i64 0, .bool false]) (t := 48) ?hr ?_; (case hr => go_simp <;> rfl); intro g3 wg3 _ _ _) | (go_at_call 57; (with_reducible refine cM (itemMay_) ?_); rintro e wb ⟨rfl, hb⟩) | (go_at_call 60; (with_reducible refine cM (better_ (by assumption) (by assumption)) ?_); rintro e wb ⟨rfl, hb⟩))
    exact bodyPost_ret (v := .tuple #[.agg #[.int .i64 0, .int .i64 0, .int .i64 0, .int .i64 0, .bool false], .int .i64 400]) (by simp [results, Tryz.results20, go_sem]) rfl ⟨rfl, belL⟩
   ·have h4 : (ak != bk) = false := by simpa using h3
    have v1 := itemOk_ver h1
    have v2 := itemOk_ver h2
    cases h5 : betterB ⟨ak, ⟨ac, ax⟩, av, ag⟩ ⟨bk, ⟨bc, bx⟩, bv, bg⟩
    ·rw [show bestI ⟨ak, ⟨ac, ax⟩, av, ag⟩ ⟨bk, ⟨bc, bx⟩, bv, bg⟩ = ⟨bk, ⟨bc, bx⟩, bv, bg⟩ by simp only [bestI, bestB, itemOk, h1, h2, h3, h5]; rfl, show bestE ⟨ak, ⟨ac, ax⟩, av, ag⟩ ⟨bk, ⟨bc, bx⟩, bv, bg⟩ = 0 by simp only [bestE, bestB, itemOk, h1, h2, h3]; rfl]
     go_enter Tryz.func20, Tryz.ntmps20
     go_wp2_with (first | (with_reducible refine box_tc rfl (N := 2) rfl (cs := #[.int .i64 ak, .int .i64 ac, .int .i64 ax, .int .i64 av, .bool ag]) (t := 48) ?hr ?_; (case hr => go_simp <;> rfl); intro g1 wg1 _ _ _) | (with_reducible refine box_tc rfl (N := 3) rfl (cs := #[.int .i64 bk, .int .i64 bc, .int .i64 bx, .int .i64 bv, .bool bg]) (t := 48) ?hr ?_; (case hr => go_simp <;> rfl); intro g2 wg2 _ _ _) | (with_reducible refine box_tc rfl (N := 4) rfl (cs := #[.int .i64 0, .int .i64 0, .int .i64 0, .int .i64 0, .bool false]) (t := 48) ?hr ?_; (case hr => go_simp <;> rfl); intro g3 wg3 _ _ _) | (go_at_call 57; (with_reducible refine cM (itemMay_) ?_); rintro e wb ⟨rfl, hb⟩) | (go_at_call 60; (with_reducible refine cM (better_ (by assumption) (by assumption)) ?_); rintro e wb ⟨rfl, hb⟩))
     exact bodyPost_ret (v := .tuple #[.agg #[.int .i64 bk, .int .i64 bc, .int .i64 bx, .int .i64 bv, .bool bg], .int .i64 0]) (by simp [results, Tryz.results20, go_sem]) rfl ⟨rfl, belL⟩
    ·rw [show bestI ⟨ak, ⟨ac, ax⟩, av, ag⟩ ⟨bk, ⟨bc, bx⟩, bv, bg⟩ = ⟨ak, ⟨ac, ax⟩, av, ag⟩ by simp only [bestI, bestB, itemOk, h1, h2, h3, h5]; rfl, show bestE ⟨ak, ⟨ac, ax⟩, av, ag⟩ ⟨bk, ⟨bc, bx⟩, bv, bg⟩ = 0 by simp only [bestE, bestB, itemOk, h1, h2, h3]; rfl]
     go_enter Tryz.func20, Tryz.ntmps20
     go_wp2_with (first | (with_reducible refine box_tc rfl (N := 2) rfl (cs := #[.int .i64 ak, .int .i64 ac, .int .i64 ax, .int .i64 av, .bool ag]) (t := 48) ?hr ?_; (case hr => go_simp <;> rfl); intro g1 wg1 _ _ _) | (with_reducible refine box_tc rfl (N := 3) rfl (cs := #[.int .i64 bk, .int .i64 bc, .int .i64 bx, .int .i64 bv, .bool bg]) (t := 48) ?hr ?_; (case hr => go_simp <;> rfl); intro g2 wg2 _ _ _) | (with_reducible refine box_tc rfl (N := 4) rfl (cs := #[.int .i64 0, .int .i64 0, .int .i64 0, .int .i64 0, .bool false]) (t := 48) ?hr ?_; (case hr => go_simp <;> rfl); intro g3 wg3 _ _ _) | (go_at_call 57; (with_reducible refine cM (itemMay_) ?_); rintro e wb ⟨rfl, hb⟩) | (go_at_call 60; (with_reducible refine cM (better_ (by assumption) (by assumption)) ?_); rintro e wb ⟨rfl, hb⟩))
     exact bodyPost_ret (v := .tuple #[.agg #[.int .i64 ak, .int .i64 ac, .int .i64 ax, .int .i64 av, .bool ag], .int .i64 0]) (by simp [results, Tryz.results20, go_sem]) rfl ⟨rfl, belL⟩
theorem byKey_ {k c x v key : Int} {g : Bool} {w : World} : Calls Tryz.prog 55 #[.agg #[.int .i64 k, .int .i64 c, .int .i64 x, .int .i64 v, .bool g], .int .i64 key] w fun e w' => e = .returned (.int .i64 (cmpI k key)) ∧ BelL w w' := by
 go_enter Tryz.func55, Tryz.ntmps55
 go_wp2_with (first | (with_reducible refine box_tc rfl (N := 2) rfl (cs := #[.int .i64 k, .int .i64 c, .int .i64 x, .int .i64 v, .bool g]) (t := 48) ?hr ?_; (case hr => go_simp <;> rfl); intro g1 wg1 _ _ _) | (go_at_call 107; (with_reducible refine cM (compare _ _ _) ?_); rintro e w' ⟨rfl, ⟨nd, rfl⟩⟩))
 go_ret
 exact ⟨rfl, belL⟩
end Go.Proofs.YtljipbmmgcccnaaGreat.T
end
section
namespace Go.Proofs.YtljipbmmgcccnaaGreat.T
open Go.RowKit Go.Proofs.YtljipbmmgcccnaaGreatW.PrintWords Go.Proofs.YtljipbmmgcccnaaGreatW.PrintLast Go.Proofs.YtljipbmmgcccnaaGreatW.PrintMore
attribute [local go_sem] cell_tc frozen_tc max2_int min2_int
attribute [local go_sem ↓] Go.wp_at_zero Go.wp_at_succ
set_option linter.unusedVariables false
set_option linter.unusedSimpArgs false
attribute [local go_sem] cell_tc2
theorem getD48 {l : List S48} {i : Nat} (h : i < l.length) : l.getD i z48 = l[i] := by
 rw [List.getD_eq_getElem?_getD, List.getElem?_eq_getElem h]; rfl
set_option maxHeartbeats 4000000 in
theorem bsItem_ {key : Int} {A : Option Addr} {n c : Nat} {l : List S48} {w : World} [h : Sr k48 w A n c l] (hl : n ≤ 1000000) 
 (hm : ∀ a b, a ≤ b → b < l.length → (fun i => cmpI (l.getD i z48).f0 key) b < 0 → (fun i => cmpI (l.getD i z48).f0 key) a < 0) :
 Calls Tryz.prog 54 #[.slice A n c, .int .i64 key, .func (.func 55) #[] #[]] w fun e w' => e = .returned (.tuple #[.int .i64 (cnt (fun i => cmpI (l.getD i z48).f0 key) l.length : Nat), .bool (hit (fun i => cmpI (l.getD i z48).f0 key) l.length)]) ∧ BelL w w' := by
 obtain rfl := h.len
 have HS := sr_l h
 clear h
 have M := Aside0.mk hm
 generalize hcf : (fun i => cmpI (l.getD i z48).f0 key) = cf at M ⊢
 have CF := Aside0.mk hcf
 generalize hn : cnt cf l.length = n0
 have CN := Aside0.mk hn
 generalize hh : hit cf l.length = h0_
 have CH := Aside0.mk hh
 clear hm hn hh hcf
 go_enter Tryz.func54, Tryz.ntmps54
 go_wp2
 go_loopg [9, 10] l.length (fun kx s9 s10 w' => ∃ lo hi : Nat, s9 = .int .i64 lo ∧ s10 = .int .i64 hi ∧ lo ≤ hi ∧ hi ≤ l.length ∧ hi - lo ≤ kx ∧ BelL w w' ∧ Aside0 ((∀ t, t < lo → cf t < 0) ∧ (∀ t, hi ≤ t → t < l.length → 0 ≤ cf t)))
 case atStart => exact ⟨0, l.length, rfl, rfl, Nat.zero_le _, Nat.le_refl _, by omega, belL, ⟨fun t ht => absurd ht (Nat.not_lt_zero _), fun t h1 h2 => by omega⟩⟩
 case round =>
  obtain ⟨lo, hi, rfl, rfl, hlh, hin, hg, hbr, II⟩ := hrel
  by_cases hlt : lo < hi
  ·have hmid : (lo + hi) / 2 < l.length := by omega
   obtain ⟨ad, rfl, hx0, hx1, hx2, hx3, hx4⟩ := el_T48 (W := wr) (A := A) (n := l.length) (c := c) (l := l) ((lo + hi) / 2) hmid
   have HC := Aside0.mk (show (fun i => cmpI (l.getD i z48).f0 key) ((lo + hi) / 2) = cf ((lo + hi) / 2) by rw [CF.out])
   by_cases hyx : cf ((lo + hi) / 2) < 0
   ·go_wp2_with (first | (go_at_call 55; (with_reducible refine Calls.mono byKey_ ?_); rintro e w5 ⟨rfl, hb⟩; rw [show cmpI l[((lo + hi) / 2)].f0 key = cf (((lo + hi) / 2)) by rw [← HC.out]; show _ = cmpI (l.getD (((lo + hi) / 2)) z48).f0 key; rw [getD48 hmid]]))
    go_roundg (hi - ((lo + hi) / 2 + 1))
    case measure => omega
    case rel =>
     exact ⟨(lo + hi) / 2 + 1, hi, by rw [show ((lo : Int) + (hi : Int)) / 2 + 1 = (((lo + hi) / 2 + 1 : Nat) : Int) by omega], rfl, by omega, hin, Nat.le_refl _, belL, ⟨fun t ht => M.out t ((lo + hi) / 2) (by omega) (by omega) hyx, II.out.2⟩⟩
   ·go_wp2_with (first | (go_at_call 55; (with_reducible refine Calls.mono byKey_ ?_); rintro e w5 ⟨rfl, hb⟩; rw [show cmpI l[((lo + hi) / 2)].f0 key = cf (((lo + hi) / 2)) by rw [← HC.out]; show _ = cmpI (l.getD (((lo + hi) / 2)) z48).f0 key; rw [getD48 hmid]]))
    go_roundg ((lo + hi) / 2 - lo)
    case measure => omega
    case rel =>
     exact ⟨lo, (lo + hi) / 2, rfl, by rw [show ((lo : Int) + (hi : Int)) / 2 = (((lo + hi) / 2 : Nat) : Int) by omega], by omega, by omega, Nat.le_refl _, belL, ⟨II.out.1, fun t ht htn => Int.not_lt.1 fun h => by have := M.out ((lo + hi) / 2) t ht htn h; omega⟩⟩
  ·obtain rfl : hi = lo := by omega
   have EN := Aside0.mk (show n0 = hi by rw [← CN.out]; exact cnt_eq hin II.out.1 II.out.2)
   have EH := Aside0.mk (show h0_ = (decide (hi < l.length) && (cf hi == 0)) by rw [← CH.out]; exact hit_of (cnt_eq hin II.out.1 II.out.2))
   by_cases hn : hi < l.length
   ·obtain ⟨ad, rfl, hx0, hx1, hx2, hx3, hx4⟩ := el_T48 (W := wr) (A := A) (n := l.length) (c := c) (l := l) hi hn
    have HC := Aside0.mk (show (fun i => cmpI (l.getD i z48).f0 key) hi = cf hi by rw [CF.out])
    go_wp2_with (first | (go_at_call 55; (with_reducible refine Calls.mono byKey_ ?_); rintro e w5 ⟨rfl, hb⟩; rw [show cmpI l[hi].f0 key = cf (hi) by rw [← HC.out]; show _ = cmpI (l.getD (hi) z48).f0 key; rw [getD48 hn]]))
    go_ret2
    exact ⟨by rw [EN.out, EH.out, decide_eq_true hn]; rfl, belL⟩
   ·go_wp2
    go_ret2
    exact ⟨by rw [EN.out, EH.out, decide_eq_false hn]; rfl, belL⟩
end Go.Proofs.YtljipbmmgcccnaaGreat.T
end
section
namespace Go.Proofs.YtljipbmmgcccnaaGreat.T
open Go.RowKit Go.Proofs.YtljipbmmgcccnaaGreatW.PrintWords Go.Proofs.YtljipbmmgcccnaaGreatW.PrintLast Go.Proofs.YtljipbmmgcccnaaGreatW.PrintMore
attribute [local go_sem] cell_tc frozen_tc max2_int min2_int
attribute [local go_sem ↓] Go.wp_at_zero Go.wp_at_succ
set_option linter.unusedVariables false
set_option linter.unusedSimpArgs false
attribute [local go_sem] cell_tc2
def storeAt (l : List S48) (i : Nat) : Bool := itemOk (l.getD i z48) && (decide (i = 0) || decide ((l.getD (i - 1) z48).f0 < (l.getD i z48).f0))
def storeB (l : List S48) : Bool := (List.range l.length).all (storeAt l) && decide (l.length ≤ 16)
theorem storeAt_yes {l : List S48} {i : Nat} (h : i < l.length) (h1 : itemOk l[i] = true) (h2 : i = 0 ∨ (l.getD (i - 1) z48).f0 < l[i].f0) : storeAt l i = true := by
 unfold storeAt; rw [getD48 h, h1]; rcases h2 with h2 | h2 <;> simp only [h2, decide_true, Bool.true_or, Bool.or_true, Bool.and_true]
theorem storeAt_no1 {l : List S48} {i : Nat} (h : i < l.length) (h1 : itemOk l[i] = false) : storeAt l i = false := by unfold storeAt; rw [getD48 h, h1]; rfl
theorem storeAt_no2 {l : List S48} {i : Nat} (h : i < l.length) (h0 : i ≠ 0) (h2 : ¬ (l.getD (i - 1) z48).f0 < l[i].f0) : storeAt l i = false := by
 unfold storeAt; rw [getD48 h, decide_eq_false h0, decide_eq_false h2]; simp
set_option maxRecDepth 100000 in
set_option maxHeartbeats 4000000 in
theorem storeMay_ {A : Option Addr} {n c : Nat} {l : List S48} {w : World} [h : Sr k48 w A n c l] :
 Calls Tryz.prog 53 #[.slice A n c] w fun e w' => e = .returned (.bool (storeB l)) ∧ BelL w w' := by
 obtain rfl := h.len
 have HS := sr_l h
 have hlen : l.length ≤ 9223372036854775807 := h.C.2.1
 clear h
 go_enter Tryz.func53, Tryz.ntmps53
 go_wp2
 go_loopg [3, 4, 7] l.length (fun kq v3 v4 v7 w' => ∃ i : Nat, v7 = .int .i64 i ∧ i ≤ l.length ∧ kq = l.length - i ∧ Aside0 ((List.range i).all (storeAt l) = true) ∧ BelL w w')
 case atStart => exact ⟨0, rfl, Nat.zero_le _, rfl, ⟨by simp⟩, belL⟩
 case round =>
  obtain ⟨i, rfl, hi, rfl, HA, hbr⟩ := hrel
  by_cases hlt : i < l.length
  ·obtain ⟨ad, rfl, hx0, hx1, hx2, hx3, hx4⟩ := el_T48 (W := wr) (A := A) (n := l.length) (c := c) (l := l) i hlt
   cases h1 : itemB l[i].f0 l[i].f1.f0 l[i].f1.f1 l[i].f2 l[i].f3
   ·have HF := Aside0.mk (show storeB l = false by unfold storeB; rw [range_no hlt (storeAt_no1 hlt h1)]; rfl)
    go_wp2_with (first | (with_reducible refine box_tc rfl (N := 4) rfl (cs := #[.int .i64 0, .int .i64 0, .int .i64 0, .int .i64 0, .bool false]) (t := 48) ?hr ?_; (case hr => go_simp <;> rfl); intro g1 wg1 _ _ _))
    (refine wp_region_bel (by kernel_rfl) (by kernel_rfl) ?_; (repeat (first | go_big_quiet_skip | (go_big_quiet_want; first | (go_big_quiet_op; go_big_quiet_on) | (apply Exists.intro; refine ⟨fun wq hq => ?_, ?_⟩; (focus (unfold Oper.quietAt; go_simp; first | done | exact ⟨rfl, rfl⟩ | exact rfl | ((go_at_call 57; refine Calls.mono (itemMay_) ?_; rintro e w1 ⟨rfl, hb⟩; exact ⟨by rw [h1], belL⟩)))); (try simp only [Act.put, put3]); go_big_quiet_on)))); refine wpQuiet_nil ?_; intro w7 hb7)
    all_goals
     go_wp2
     go_ret
     exact ⟨by rw [HF.out]; rfl, belL⟩
   ·by_cases h0 : i = 0
    ·have h0_ := h0
     have HT := Aside0.mk (range_all HA.out (storeAt_yes hlt h1 (.inl h0)))
     have hgt : decide ((0 : Int) < (i : Int)) = false := decide_eq_false (by omega)
     have hgn : decide (0 < i) = false := decide_eq_false (by omega)
     clear h0 h0_
     go_wp2_with (first | (with_reducible refine box_tc rfl (N := 4) rfl (cs := #[.int .i64 0, .int .i64 0, .int .i64 0, .int .i64 0, .bool false]) (t := 48) ?hr ?_; (case hr => go_simp <;> rfl); intro g1 wg1 _ _ _))
     (refine wp_region_bel (by kernel_rfl) (by kernel_rfl) ?_; (repeat (first | go_big_quiet_skip | (go_big_quiet_want; first | (go_big_quiet_op; go_big_quiet_on) | (apply Exists.intro; refine ⟨fun wq hq => ?_, ?_⟩; (focus (unfold Oper.quietAt; go_simp; first | done | exact ⟨rfl, rfl⟩ | exact rfl | ((go_at_call 57; refine Calls.mono (itemMay_) ?_; rintro e w1 ⟨rfl, hb⟩; exact ⟨by rw [h1], belL⟩)))); (try simp only [Act.put, put3]); go_big_quiet_on)))); refine wpQuiet_nil ?_; intro w7 hb7)
     all_goals
      go_wp2
      go_roundg (l.length - (i + 1))
      case measure => omega
      case rel => exact ⟨i + 1, by go_num, by omega, rfl, HT, belL⟩
    ·have hgt : decide ((0 : Int) < (i : Int)) = true := decide_eq_true (by omega)
     have hgn : decide (0 < i) = true := decide_eq_true (by omega)
     obtain ⟨ad', he, hy0, hy1, hy2, hy3, hy4⟩ := el_T48 (W := wr) (A := some ad) (n := l.length) (c := c) (l := l) (i - 1) (by omega)
     obtain rfl := Option.some.inj he
     have e1 : (i : Int) - 1 = ((i - 1 : Nat) : Int) := by omega
     have e1w : IntKind.i64.wrap ((i - 1 : Nat) : Int) = ((i - 1 : Nat) : Int) := IntWalk.i64_in _ (by omega)
     have hj1 : i - 1 < l.length := by omega
     have e2 : l.getD (i - 1) z48 = l[i - 1] := getD48 (by omega)
     by_cases h2 : l[i - 1].f0 < l[i].f0
     ·have HT := Aside0.mk (range_all HA.out (storeAt_yes hlt h1 (.inr (by rw [e2]; exact h2))))
      have h3 : decide (l[i].f0 ≤ l[i - 1].f0) = false := decide_eq_false (by omega)
      clear e2
      go_wp2_with (first | (with_reducible refine box_tc rfl (N := 4) rfl (cs := #[.int .i64 0, .int .i64 0, .int .i64 0, .int .i64 0, .bool false]) (t := 48) ?hr ?_; (case hr => go_simp <;> rfl); intro g1 wg1 _ _ _))
      (refine wp_region_bel (by kernel_rfl) (by kernel_rfl) ?_; (repeat (first | go_big_quiet_skip | (go_big_quiet_want; first | (go_big_quiet_op; go_big_quiet_on) | (apply Exists.intro; refine ⟨fun wq hq => ?_, ?_⟩; (focus (unfold Oper.quietAt; go_simp; first | done | exact ⟨rfl, rfl⟩ | exact rfl | ((go_at_call 57; refine Calls.mono (itemMay_) ?_; rintro e w1 ⟨rfl, hb⟩; exact ⟨by rw [h1], belL⟩)))); (try simp only [Act.put, put3]); go_big_quiet_on)))); refine wpQuiet_nil ?_; intro w7 hb7)
      all_goals
       go_wp2
       go_roundg (l.length - (i + 1))
       case measure => omega
       case rel => exact ⟨i + 1, by go_num, by omega, rfl, HT, belL⟩
     ·have HF := Aside0.mk (show storeB l = false by unfold storeB; rw [range_no hlt (storeAt_no2 hlt h0 (by rw [e2]; exact h2))]; rfl)
      have h3 : decide (l[i].f0 ≤ l[i - 1].f0) = true := decide_eq_true (by omega)
      clear e2
      go_wp2_with (first | (with_reducible refine box_tc rfl (N := 4) rfl (cs := #[.int .i64 0, .int .i64 0, .int .i64 0, .int .i64 0, .bool false]) (t := 48) ?hr ?_; (case hr => go_simp <;> rfl); intro g1 wg1 _ _ _))
      (refine wp_region_bel (by kernel_rfl) (by kernel_rfl) ?_; (repeat (first | go_big_quiet_skip | (go_big_quiet_want; first | (go_big_quiet_op; go_big_quiet_on) | (apply Exists.intro; refine ⟨fun wq hq => ?_, ?_⟩; (focus (unfold Oper.quietAt; go_simp; first | done | exact ⟨rfl, rfl⟩ | exact rfl | ((go_at_call 57; refine Calls.mono (itemMay_) ?_; rintro e w1 ⟨rfl, hb⟩; exact ⟨by rw [h1], belL⟩)))); (try simp only [Act.put, put3]); go_big_quiet_on)))); refine wpQuiet_nil ?_; intro w7 hb7)
      all_goals
       go_wp2
       go_ret
       exact ⟨by rw [HF.out]; rfl, belL⟩
  ·have HT := Aside0.mk (show storeB l = decide ((l.length : Int) ≤ 16) by
    have e : i = l.length := by omega
    have := HA.out
    rw [e] at this
    unfold storeB; rw [this, Bool.true_and]; exact decide_eq_decide.2 (by omega))
   go_wp2
   go_ret
   exact ⟨by rw [HT.out]; rfl, belL⟩
end Go.Proofs.YtljipbmmgcccnaaGreat.T
end
section
namespace Go.Proofs.YtljipbmmgcccnaaGreat.T
open Go.RowKit Go.Proofs.YtljipbmmgcccnaaGreatW.PrintWords Go.Proofs.YtljipbmmgcccnaaGreatW.PrintLast Go.Proofs.YtljipbmmgcccnaaGreatW.PrintMore
attribute [local go_sem] cell_tc frozen_tc max2_int min2_int
attribute [local go_sem ↓] Go.wp_at_zero Go.wp_at_succ
set_option linter.unusedVariables false
set_option linter.unusedSimpArgs false
attribute [local go_sem] cell_tc2
theorem storeB_at {l : List S48} (h : storeB l = true) (i : Nat) (hi : i < l.length) : itemOk l[i] = true ∧ (i = 0 ∨ (l.getD (i - 1) z48).f0 < l[i].f0) := by
 unfold storeB at h
 have h2 := (Bool.and_eq_true_iff.1 h).1
 rw [List.all_eq_true] at h2
 have h3 := h2 i (List.mem_range.2 hi)
 unfold storeAt at h3
 rw [getD48 hi] at h3
 simp only [Bool.and_eq_true, Bool.or_eq_true, decide_eq_true_eq] at h3
 exact h3
theorem storeB_len {l : List S48} (h : storeB l = true) : l.length ≤ 16 := by
 unfold storeB at h
 exact of_decide_eq_true (Bool.and_eq_true_iff.1 h).2
theorem storeB_lt {l : List S48} (h : storeB l = true) : ∀ (d a : Nat) (hb : a + d + 1 < l.length), (l[a]'(by omega)).f0 < l[a + d + 1].f0
 | 0, a, hb => by
   have := (storeB_at h (a + 1) hb).2
   rcases this with h0 | h1
   ·omega
   ·rwa [Nat.add_sub_cancel, getD48 (by omega)] at h1
 | d + 1, a, hb => by
   have h1 := storeB_lt h d a (by omega)
   have h2 := (storeB_at h (a + (d + 1) + 1) hb).2
   rcases h2 with h0 | h2
   ·omega
   ·rw [show a + (d + 1) + 1 - 1 = a + d + 1 by omega, getD48 (by omega)] at h2
    exact Int.lt_trans h1 h2
theorem storeB_lt' {l : List S48} (h : storeB l = true) {a b : Nat} (hab : a < b) (hb : b < l.length) : (l[a]'(by omega)).f0 < l[b].f0 := by
 have := storeB_lt h (b - a - 1) a (by omega)
 have e : a + (b - a - 1) + 1 = b := by omega
 simp only [e] at this
 exact this
def itemC (l : List S48) (key : Int) : Nat → Int := fun i => cmpI (l.getD i z48).f0 key
theorem itemC_at {l : List S48} {key : Int} {i : Nat} (hi : i < l.length) : itemC l key i = cmpI l[i].f0 key := by unfold itemC; rw [getD48 hi]
theorem itemC_mono {l : List S48} (h : storeB l = true) (key : Int) (a b : Nat) (hab : a ≤ b) (hb : b < l.length) (hc : itemC l key b < 0) : itemC l key a < 0 := by
 unfold itemC at hc ⊢
 rw [getD48 hb, cmpI_neg] at hc
 rw [getD48 (by omega), cmpI_neg]
 rcases Nat.lt_or_eq_of_le hab with h1 | h1
 ·exact Int.lt_trans (storeB_lt' h h1 hb) hc
 ·subst h1; exact hc
theorem bsItemC_ {key : Int} {A : Option Addr} {n c : Nat} {l : List S48} {w : World} [h : Sr k48 w A n c l] (hl : n ≤ 1000000) (hs : storeB l = true) :
 Calls Tryz.prog 54 #[.slice A n c, .int .i64 key, .func (.func 55) #[] #[]] w fun e w' => e = .returned (.tuple #[.int .i64 (cnt (itemC l key) l.length : Nat), .bool (hit (itemC l key) l.length)]) ∧ BelL w w' := bsItem_ hl (itemC_mono hs key)
def getI (l : List S48) (key : Int) : Option S48 := if storeB l then l.find? (fun i => i.f0 == key) else none
theorem find_at {l : List S48} {key : Int} : ∀ (n : Nat) (hn : n < l.length), l[n].f0 = key → (∀ j (h : j < l.length), j < n → l[j].f0 ≠ key) → l.find? (fun i => i.f0 == key) = some l[n] := by
 induction l with
 | nil => intro n hn; exact absurd hn (Nat.not_lt_zero _)
 | cons x xs ih =>
   intro n hn hk hj
   cases n with
   | zero => simp only [List.getElem_cons_zero] at hk ⊢; simp [List.find?, hk]
   | succ n =>
     have h0 := hj 0 (Nat.zero_lt_succ _) (Nat.zero_lt_succ _)
     simp only [List.getElem_cons_zero] at h0
     rw [List.find?_cons_of_neg (by simpa using h0)]
     exact ih n (by simpa using hn) (by simpa using hk) (fun j hj1 hj2 => fun hx => hj (j + 1) (by simpa using hj1) (by omega) (by rw [List.getElem_cons_succ]; exact hx))
theorem getI_hit {l : List S48} {key : Int} (h : storeB l = true) (hh : hit (itemC l key) l.length = true) : ∃ hn : cnt (itemC l key) l.length < l.length, getI l key = some l[cnt (itemC l key) l.length] := by
 obtain ⟨h1, h2, h3⟩ := cnt_spec (itemC l key) l.length (itemC_mono h key)
 unfold hit at hh
 simp only [Bool.and_eq_true, decide_eq_true_eq, beq_iff_eq] at hh
 refine ⟨hh.1, ?_⟩
 unfold getI
 rw [if_pos h]
 refine find_at _ hh.1 ?_ (fun j hj hlt => ?_)
 ·have := hh.2
  rwa [itemC_at hh.1, cmpI_zero] at this
 ·have := h2 j hlt
  rw [itemC_at hj, cmpI_neg] at this
  omega
theorem getI_miss {l : List S48} {key : Int} (h : storeB l = true) (hh : hit (itemC l key) l.length = false) : getI l key = none := by
 obtain ⟨h1, h2, h3⟩ := cnt_spec (itemC l key) l.length (itemC_mono h key)
 unfold getI
 rw [if_pos h, List.find?_eq_none]
 intro x hx hk
 obtain ⟨i, hi, rfl⟩ := List.getElem_of_mem hx
 have hk' : l[i].f0 = key := by simpa using hk
 have hz : itemC l key i = 0 := by rw [itemC_at hi, cmpI_zero]; exact hk'
 unfold hit at hh
 have hle : cnt (itemC l key) l.length ≤ i := Nat.not_lt.1 fun hlt => by have := h2 i hlt; omega
 have hc : cnt (itemC l key) l.length < l.length := by omega
 rcases Nat.lt_or_eq_of_le hle with hlt | he
 ·have h5 := h3 _ (Nat.le_refl _) hc
  have h6 := storeB_lt' h hlt hi
  rw [itemC_at hc] at h5
  have : cmpI l[cnt (itemC l key) l.length].f0 key < 0 := cmpI_neg.2 (by omega)
  omega
 ·rw [he, decide_eq_true hi, hz] at hh; simp at hh
set_option maxHeartbeats 1000000 in
theorem get_ {key : Int} {A : Option Addr} {n c : Nat} {l : List S48} {w : World} [h : Sr k48 w A n c l] :
 Calls Tryz.prog 18 #[.slice A n c, .int .i64 key] w fun e w' => e = .returned (.tuple #[itemV ((getI l key).getD z48), .bool (getI l key).isSome]) ∧ BelL w w' := by
 obtain rfl := h.len
 have HS := sr_l h
 clear h
 cases h1 : storeB l
 ·rw [show getI l key = none by simp [getI, h1]]
  go_enter Tryz.func18, Tryz.ntmps18
  go_wp2_with (first | (with_reducible refine box_tc rfl (N := 4) rfl (cs := #[.int .i64 0, .int .i64 0, .int .i64 0, .int .i64 0, .bool false]) (t := 48) ?hr ?_; (case hr => go_simp <;> rfl); intro g1 wg1 _ _ _) | (go_at_call 53; (with_reducible refine cM (storeMay_) ?_); rintro e wb ⟨rfl, hb⟩) | (go_at_call 54; (with_reducible refine cM (bsItemC_ (by omega) h1) ?_); rintro e wb ⟨rfl, hb⟩))
  exact bodyPost_ret (v := .tuple #[.agg #[.int .i64 0, .int .i64 0, .int .i64 0, .int .i64 0, .bool false], .bool false]) (by simp [results, Tryz.results18, go_sem]) rfl ⟨rfl, belL⟩
 ·have h16 := storeB_len h1
  cases h2 : hit (itemC l key) l.length
  ·rw [getI_miss h1 h2]
   go_enter Tryz.func18, Tryz.ntmps18
   go_wp2_with (first | (with_reducible refine box_tc rfl (N := 4) rfl (cs := #[.int .i64 0, .int .i64 0, .int .i64 0, .int .i64 0, .bool false]) (t := 48) ?hr ?_; (case hr => go_simp <;> rfl); intro g1 wg1 _ _ _) | (go_at_call 53; (with_reducible refine cM (storeMay_) ?_); rintro e wb ⟨rfl, hb⟩) | (go_at_call 54; (with_reducible refine cM (bsItemC_ (by omega) h1) ?_); rintro e wb ⟨rfl, hb⟩))
   exact bodyPost_ret (v := .tuple #[.agg #[.int .i64 0, .int .i64 0, .int .i64 0, .int .i64 0, .bool false], .bool false]) (by simp [results, Tryz.results18, go_sem]) rfl ⟨rfl, belL⟩
  ·obtain ⟨hn, hg⟩ := getI_hit h1 h2
   rw [hg]
   obtain ⟨ad, rfl, hx0, hx1, hx2, hx3, hx4⟩ := el_T48 (W := w) (A := A) (n := l.length) (c := c) (l := l) (cnt (itemC l key) l.length) hn
   go_enter Tryz.func18, Tryz.ntmps18
   go_wp2_with (first | (with_reducible refine box_tc rfl (N := 4) rfl (cs := #[.int .i64 0, .int .i64 0, .int .i64 0, .int .i64 0, .bool false]) (t := 48) ?hr ?_; (case hr => go_simp <;> rfl); intro g1 wg1 _ _ _) | (go_at_call 53; (with_reducible refine cM (storeMay_) ?_); rintro e wb ⟨rfl, hb⟩) | (go_at_call 54; (with_reducible refine cM (bsItemC_ (by omega) h1) ?_); rintro e wb ⟨rfl, hb⟩))
   exact bodyPost_ret (v := .tuple #[.agg #[.int .i64 l[cnt (itemC l key) l.length].f0, .int .i64 l[cnt (itemC l key) l.length].f1.f0, .int .i64 l[cnt (itemC l key) l.length].f1.f1, .int .i64 l[cnt (itemC l key) l.length].f2, .bool l[cnt (itemC l key) l.length].f3], .bool true]) (by simp [results, Tryz.results18, go_sem]) rfl ⟨rfl, belL⟩
end Go.Proofs.YtljipbmmgcccnaaGreat.T
end
section
namespace Go.Proofs.YtljipbmmgcccnaaGreat.T
open Go.RowKit Go.Proofs.YtljipbmmgcccnaaGreatW.PrintWords Go.Proofs.YtljipbmmgcccnaaGreatW.PrintLast Go.Proofs.YtljipbmmgcccnaaGreatW.PrintMore
attribute [local go_sem] cell_tc frozen_tc max2_int min2_int
attribute [local go_sem ↓] Go.wp_at_zero Go.wp_at_succ
set_option linter.unusedVariables false
set_option linter.unusedSimpArgs false
set_option maxHeartbeats 4000000 in
set_option maxRecDepth 100000 in
theorem insertItemEnd (v : Value) (n : Nat) (xs news : List Value) (w : World) (b0 vb : Nat) (hown : w.ownsRow b0 48 5 v n xs) (hvb : w.heap[vb]? = some (.cells news.toArray 48 (0, 0))) (hnl : news.length = 5)
 (h1v : ∀ u ∈ news, u.oneCell' = true) (hn : n ≤ 1000000) (hb0 : b0 ≤ w.heap.size) :
 Calls Tryz.prog 111 #[v, .int .i64 n, .slice (some ⟨vb, 0, none⟩) 1 1] w fun e w' => ∃ v', e = .returned v' ∧ w'.ownsRow b0 48 5 v' (n + 1) (xs ++ news) ∧ w.grownBy w' v.ownBlock := by
 obtain ⟨i0, hi0, hz0, hzs, hzb⟩ := info_parts (P := Tryz.prog) (e := 48) (z := .agg #[.int .i64 0, .int .i64 0, .int .i64 0, .int .i64 0, .bool false]) (size := 5) (bytes := 40) (by kernel_rfl)
 have HOW := Aside0.mk hown
 have HNW := Aside0.mk (show ∀ j u, news[j]? = some u → w.cell? ((⟨vb, 0, none⟩ : Addr).add j) = some u from fun j u h => by rw [Addr.add_lit, blk_cell hvb]; simpa using h)
 have HI := Aside0.mk hi0
 have HZ := Aside0.mk hz0
 have HS := Aside0.mk hzs
 have HY := Aside0.mk hzb
 have HV := Aside0.mk h1v
 have HL := Aside0.mk hnl
 have hz1 : ¬ ((1 : Nat) = 0) := by omega
 clear hi0 hz0 hzs hzb h1v hnl hvb
 rcases hown.2 with ⟨hv, h0⟩ | ⟨g, cap, cur, hv, hbg, hg, hnc, hcm, hcs, htake⟩
 ·subst h0
  subst hv
  clear hown
  go_enter Tryz.func111, Tryz.ntmps111
  go_wp2_with (first | (at_builtin; refine wpList_append_own _ rfl _ _ 37 rfl b0 48 i0 _ 5 40 Tryz.underlying37 HI.out HZ.out HS.out HY.out rfl (by decide) _ _ _ rfl HOW.out _ _ _ _ rfl (by rw [HL.out]) HNW.out HV.out (by simp only [maxLen]; omega) (by omega) hb0 ?_; intro v1 w1 ho hg1 hnil; have HO := Aside0.mk ho; have HG := Aside0.mk hg1; clear ho hg1 hnil))
  go_ret
  exact ⟨v1, rfl, HO.out, HG.out⟩
 ·subst hv
  clear hown hg hcs htake
  have HC := Aside0.mk hnc
  go_enter Tryz.func111, Tryz.ntmps111
  go_wp2_with (first | (at_builtin; refine wpList_append_own _ rfl _ _ 37 rfl b0 48 i0 _ 5 40 Tryz.underlying37 HI.out HZ.out HS.out HY.out rfl (by decide) _ _ _ rfl HOW.out _ _ _ _ rfl (by rw [HL.out]) HNW.out HV.out (by simp only [maxLen]; omega) (by omega) hb0 ?_; intro v1 w1 ho hg1 hnil; have HO := Aside0.mk ho; have HG := Aside0.mk hg1; clear ho hg1 hnil))
  all_goals (go_ret; exact ⟨v1, rfl, HO.out, HG.out⟩)
set_option maxHeartbeats 4000000 in
set_option maxRecDepth 100000 in
theorem insertItemGrow (g n cap i : Nat) (cur : Array Value) (xs news : List Value) (w : World) (b0 vb : Nat) (hbg : b0 ≤ g) (hg : w.heap[g]? = some (.cells cur 48 (0, 0))) (hnc : n ≤ cap) (hcm : cap ≤ maxLen) (hcs : cur.size = cap * 5) (htake : cur.toList.take (n * 5) = xs) (h1x : ∀ u ∈ xs, u.oneCell' = true)
 (hvb : w.heap[vb]? = some (.cells news.toArray 48 (0, 0))) (hnl : news.length = 5) (h1v : ∀ u ∈ news, u.oneCell' = true) (hne : vb ≠ g) (hi : i < n) (hn : n ≤ 1000000) (hb0 : b0 ≤ w.heap.size) (hroom : cap < n + 1) :
 Calls Tryz.prog 111 #[.slice (some ⟨g, 0, none⟩) n cap, .int .i64 i, .slice (some ⟨vb, 0, none⟩) 1 1] w fun e w' => ∃ v', e = .returned v' ∧ w'.ownsRow b0 48 5 v' (n + 1) (xs.take (i * 5) ++ news ++ xs.drop (i * 5)) ∧ w.grownBy w' (some g) := by
 obtain ⟨i0, hi0, hz0, hzs, hzb⟩ := info_parts (P := Tryz.prog) (e := 48) (z := .agg #[.int .i64 0, .int .i64 0, .int .i64 0, .int .i64 0, .bool false]) (size := 5) (bytes := 40) (by kernel_rfl)
 have hxl : xs.length = n * 5 := by rw [← htake, List.length_take, Array.length_toList, hcs]; omega
 have hsz : (Tryz.prog.info? 48).map (·.size) = some 5 := by rw [hi0]; simp [hzs]
 have hold : (Builtin.firstCells i0.size i (.slice (some ⟨g, 0, none⟩) i cap)).run Tryz.prog w.drew = .ok (xs.take (i * 5)).toArray w.drew := by
  rw [hzs]
  exact run_firstCells_some w.drew 5 i ⟨g, 0, none⟩ i cap (xs.take (i * 5)) (by rw [List.length_take, hxl]; omega) (fun j u hj => by
   rw [List.getElem?_take] at hj
   split at hj
   ·exact cell_own (w := w) hg htake 0 j u (by simpa using hj)
   ·simp at hj)
 have hfit : Builtin.nextslicecap (n + 1) cap * i0.bytes ≤ 281474976710656 := by rw [hzb]; exact growslice_fits hroom (by omega)
 have hrun : ∀ ty, (Builtin.append_ #[37, 3] ty #[.slice (some ⟨g, 0, none⟩) i cap, .int .i64 ((n : Int) + 1 - (i : Int))]).run Tryz.prog w = .ok (.slice (some ⟨w.heap.size, 0, none⟩) (n + 1) (grownCap w (n + 1) cap 48)) (w.drew.alloc (.cells ((xs.take (i * 5) ++ (Builtin.zeroCells (.agg #[.int .i64 0, .int .i64 0, .int .i64 0, .int .i64 0, .bool false] : Value).cells (n + 1 - i)).toList).toArray ++ Builtin.zeroCells (.agg #[.int .i64 0, .int .i64 0, .int .i64 0, .int .i64 0, .bool false] : Value).cells (grownCap w (n + 1) cap 48 - (n + 1))) 48)) := fun ty => by
  have h := run_append_zeros (P := Tryz.prog) w 37 3 ty 48 i0 _ .i64 .i64 Tryz.underlying37 Tryz.underlying3 hi0 hz0 (some ⟨g, 0, none⟩) i cap (xs.take (i * 5)) hold (n + 1 - i) (by omega) (by rw [hzs]; decide) (by omega) (by omega) (by rw [show i + (n + 1 - i) = n + 1 by omega]; exact hfit)
  rw [show ((n + 1 - i : Nat) : Int) = (n : Int) + 1 - (i : Int) by omega, show i + (n + 1 - i) = n + 1 by omega] at h
  exact h
 have hcap : n + 1 ≤ grownCap w (n + 1) cap 48 := grownCap_ge w (n + 1) cap 48
 have hcapm : grownCap w (n + 1) cap 48 ≤ maxLen := grownCap_le_maxLen w (n + 1) cap 48 (by simp only [maxLen]; omega)
 generalize grownCap w (n + 1) cap 48 = c2 at hrun hcap hcapm
 generalize hC : ((xs.take (i * 5) ++ (Builtin.zeroCells (.agg #[.int .i64 0, .int .i64 0, .int .i64 0, .int .i64 0, .bool false] : Value).cells (n + 1 - i)).toList).toArray ++ Builtin.zeroCells (.agg #[.int .i64 0, .int .i64 0, .int .i64 0, .int .i64 0, .bool false] : Value).cells (c2 - (n + 1))) = C0 at hrun
 have hC0 : C0.size = c2 * 5 := by
  have hzc : (.agg #[.int .i64 0, .int .i64 0, .int .i64 0, .int .i64 0, .bool false] : Value).cells.size = 5 := rfl
  rw [← hC]; simp only [Array.size_append, List.size_toArray, List.length_append, Array.length_toList, size_zeroCells, hzc, List.length_take, hxl]; omega
 have hCt : C0.toList.take (i * 5) = xs.take (i * 5) := by
  rw [← hC]; simp only [Array.toList_append, List.append_assoc]
  rw [List.take_append_of_le_length (by rw [List.length_take, hxl]; omega), List.take_take, Nat.min_self]
 generalize hC1 : (C0.toList.take (i * 5) ++ news ++ C0.toList.drop (i * 5 + news.length)).toArray = C1
 have hC1s : C1.size = c2 * 5 := by rw [← hC1]; simp only [List.size_toArray, List.length_append, List.length_take, List.length_drop, Array.length_toList, hC0, hnl]; omega
 have HCP1 := Aside0.mk (show ∀ (W : World) ty dc, W.heap[w.heap.size]? = some (.cells C0 48 (0, 0)) → W.heap[vb]? = some (.cells news.toArray 48 (0, 0)) → (Builtin.copy_ #[37, 37] ty #[.slice (some ⟨w.heap.size, i * 5, none⟩) (n + 1 - i) dc, .slice (some ⟨vb, 0, none⟩) 1 1]).run Tryz.prog W = .ok (goInt 1) (W.setRow w.heap.size C1) from fun W ty dc h0 h1 => by
  rw [← hC1]
  exact run_copy_k W 37 37 ty 48 5 w.heap.size (i * 5) (n + 1 - i) dc ⟨vb, 0, none⟩ 1 1 C0 48 news 1 Tryz.underlying37 hsz h0 (by simp only [Nat.min_def]; split <;> omega) (by rw [hnl]) (fun j u h => by rw [Addr.add_lit, blk_cell h1]; simpa using h) (by rw [hnl, hC0]; omega) h1v)
 generalize hC2 : (C1.toList.take ((i + 1) * 5) ++ xs.drop (i * 5) ++ C1.toList.drop ((i + 1) * 5 + (xs.drop (i * 5)).length)).toArray = C2
 have hdl : (xs.drop (i * 5)).length = (n - i) * 5 := by rw [List.length_drop, hxl]; omega
 have hC2s : C2.size = c2 * 5 := by rw [← hC2]; simp only [List.size_toArray, List.length_append, List.length_take, List.length_drop, Array.length_toList, hC1s, hxl]; omega
 have HCP2 := Aside0.mk (show ∀ (W : World) ty dc sc, W.heap[w.heap.size]? = some (.cells C1 48 (0, 0)) → W.heap[g]? = some (.cells cur 48 (0, 0)) → (Builtin.copy_ #[37, 37] ty #[.slice (some ⟨w.heap.size, (i + 1) * 5, none⟩) (n - i) dc, .slice (some ⟨g, i * 5, none⟩) (n - i) sc]).run Tryz.prog W = .ok (goInt ((n - i : Nat) : Int)) (W.setRow w.heap.size C2) from fun W ty dc sc h0 h1 => by
  rw [← hC2]
  exact run_copy_k W 37 37 ty 48 5 w.heap.size ((i + 1) * 5) (n - i) dc ⟨g, i * 5, none⟩ (n - i) sc C1 48 (xs.drop (i * 5)) (n - i) Tryz.underlying37 hsz h0 (Nat.min_self _) hdl (cell_own h1 htake (i * 5)) (by rw [hdl, hC1s]; omega) (fun u hu => h1x u (List.mem_of_mem_drop hu)))
 have HFIN := Aside0.mk (show C2.toList.take ((n + 1) * 5) = xs.take (i * 5) ++ news ++ xs.drop (i * 5) by
  have e1 : C1.toList.take ((i + 1) * 5) = xs.take (i * 5) ++ news := by
   rw [← hC1, ← hCt]
   have : (i + 1) * 5 = (C0.toList.take (i * 5) ++ news).length := by rw [List.length_append, List.length_take, Array.length_toList, hC0, hnl]; omega
   rw [this]
   exact List.take_left
  have : (n + 1) * 5 = (C1.toList.take ((i + 1) * 5) ++ xs.drop (i * 5)).length := by rw [List.length_append, List.length_take, Array.length_toList, hC1s, hdl]; omega
  rw [← hC2, this]
  show List.take _ (_ ++ _) = _
  rw [List.take_left, e1])
 have HC2 := Aside0.mk hC2s
 have HDL := Aside0.mk hdl
 have HXL := Aside0.mk hxl
 have HNL := Aside0.mk hnl
 clear hC1 hC1s hC2 hC2s hdl
 have HR := Aside0.mk hrun
 have HG0 := Aside0.mk hg
 have HX := Aside0.mk htake
 have HVB := Aside0.mk hvb
 have HC0 := Aside0.mk hC
 have HCT := Aside0.mk hCt
 have HCZ := Aside0.mk hC0
 clear hrun hg htake hvb hC hCt hC0 hold hfit h1x h1v hsz hcs hxl hnl hi0 hz0 hzs hzb
 have hb1 : ¬ c2 = i := by omega
 have hb2 : ¬ c2 = i + 1 := by omega
 have hb3 : ¬ cap = i := by omega
 have hz1 : ¬ ((i : Int) = (n : Int)) := by omega
 go_enter Tryz.func111, Tryz.ntmps111
 go_wp2_with (first | (at_builtin; refine Lib.wpList_append_run _ rfl _ _ _ _ rfl _ _ rfl rfl _ _ (HR.out _) ?_) | ((with_reducible refine gate_builtin (b := .copy) (xs := #[.tmp 43, .tmp 44]) rfl ?_); refine wpList_copy_runI _ rfl _ _ 37 37 rfl _ _ rfl rfl (HCP1.out _ _ _ (blk_drew (blk_new w _)) (blk_drew (blk_alloc HVB.out _))) ?_))
 (try simp only [Act.put, put3])
 have hlt : g < w.heap.size := blk_lt HG0.out
 obtain ⟨W1, hW1⟩ : ∃ W1, W1 = (w.alloc (Obj.cells C0 48)).drew.setRow w.heap.size C1 := ⟨_, rfl⟩
 have HA1 := Aside0.mk (show W1.heap[w.heap.size]? = some (.cells C1 48 (0, 0)) by rw [hW1]; exact setRow_heap _ _ C0 _ 48 (0, 0) (blk_drew (blk_new w _)))
 have HA2 := Aside0.mk (show W1.heap[g]? = some (.cells cur 48 (0, 0)) by rw [hW1, setRow_other _ _ _ _ (by omega)]; exact blk_drew (blk_alloc HG0.out _))
 have HA3 := Aside0.mk (show w.grownBy W1 (some g) by rw [hW1]; exact ⟨rfl, rfl, rfl, by simp only [World.setRow, World.alloc, World.drew, Array.size_modify, Array.size_push]; omega, fun k hk _ => by rw [setRow_other _ _ _ _ (by omega)]; exact Below.heap_alloc w _ k hk⟩)
 rw [← hW1]
 clear hW1
 have mixed : Tryz.prog.follows Departure.mixedOrders = true := by kernel_rfl
 have hw1 : IntKind.i64.wrap ((i : Int) + 1) = (i : Int) + 1 := by rw [IntKind.wrap_i64]; omega
 have hb4 : (0 : Int) ≤ (i : Int) + 1 := by omega
 have hb5 : (i : Int) + 1 ≤ (n : Int) + 1 := by omega
 have htn : ((i : Int) + 1).toNat = i + 1 := by omega
 have hb6 : i ≤ n := by omega
 go_region_law_o (go_loud (refine step_copy_runI rfl _ _ 37 37 rfl (.slice (some ⟨w.heap.size, (i + 1) * 5, none⟩) (n - i) (c2 - (i + 1))) (.slice (some ⟨g, i * 5, none⟩) (n - i) (cap - i)) (by simp [Act.eval, Act.put]) (by simp [Act.eval, Act.put]) (HCP2.out _ _ _ _ (blk_drew HA1.out) (blk_drew HA2.out)) ?_))
 (try simp only [Act.put, put3])
 have HO1 := Aside0.mk (show (W1.drew.setRow w.heap.size C2).ownsRow b0 48 5 (.slice (some ⟨w.heap.size, 0, none⟩) (n + 1) c2) (n + 1) (xs.take (i * 5) ++ news ++ xs.drop (i * 5)) from
  ⟨by rw [List.length_append, List.length_append, List.length_take, List.length_drop, HXL.out, HNL.out]; omega, .inr ⟨w.heap.size, c2, C2, rfl, hb0, setRow_heap _ _ C1 _ 48 (0, 0) (blk_drew HA1.out), hcap, hcapm, HC2.out, HFIN.out⟩⟩)
 have HG1 := Aside0.mk (show w.grownBy (W1.drew.setRow w.heap.size C2) (some g) from
  ⟨HA3.out.os, HA3.out.tape, HA3.out.output, by have := HA3.out.size; simp only [World.setRow, World.drew, Array.size_modify]; exact this, fun k hk hne => by rw [setRow_other _ _ _ _ (by omega)]; exact HA3.out.block k hk hne⟩)
 go_wp2
 go_ret
 exact ⟨_, rfl, HO1.out, HG1.out⟩
set_option maxHeartbeats 4000000 in
set_option maxRecDepth 100000 in
theorem insertItemShift (g n cap i : Nat) (cur : Array Value) (xs news : List Value) (w : World) (b0 vb : Nat) (hbg : b0 ≤ g) (hg : w.heap[g]? = some (.cells cur 48 (0, 0))) (hnc : n ≤ cap) (hcm : cap ≤ maxLen) (hcs : cur.size = cap * 5) (htake : cur.toList.take (n * 5) = xs) (h1x : ∀ u ∈ xs, u.oneCell' = true)
 (hvb : w.heap[vb]? = some (.cells news.toArray 48 (0, 0))) (hnl : news.length = 5) (h1v : ∀ u ∈ news, u.oneCell' = true) (hne : vb ≠ g) (hi : i < n) (hn : n ≤ 1000000) (hb0 : b0 ≤ w.heap.size) (hroom : n + 1 ≤ cap) :
 Calls Tryz.prog 111 #[.slice (some ⟨g, 0, none⟩) n cap, .int .i64 i, .slice (some ⟨vb, 0, none⟩) 1 1] w fun e w' => ∃ v', e = .returned v' ∧ w'.ownsRow b0 48 5 v' (n + 1) (xs.take (i * 5) ++ news ++ xs.drop (i * 5)) ∧ w.grownBy w' (some g) := by
 have hxl : xs.length = n * 5 := by rw [← htake, List.length_take, Array.length_toList, hcs]; omega
 obtain ⟨i0, hi0, hz0, hzs, hzb⟩ := info_parts (P := Tryz.prog) (e := 48) (z := .agg #[.int .i64 0, .int .i64 0, .int .i64 0, .int .i64 0, .bool false]) (size := 5) (bytes := 40) (by kernel_rfl)
 have hsz : (Tryz.prog.info? 48).map (·.size) = some 5 := by rw [hi0]; simp [hzs]
 have hdl : (xs.drop (i * 5)).length = (n - i) * 5 := by rw [List.length_drop, hxl]; omega
 generalize hC1 : (cur.toList.take ((i + 1) * 5) ++ xs.drop (i * 5) ++ cur.toList.drop ((i + 1) * 5 + (xs.drop (i * 5)).length)).toArray = C1
 have hC1s : C1.size = cap * 5 := by rw [← hC1]; simp only [List.size_toArray, List.length_append, List.length_take, List.length_drop, Array.length_toList, hcs, hxl]; omega
 have HCP1 := Aside0.mk (show ∀ (W : World) ty dc sc, W.heap[g]? = some (.cells cur 48 (0, 0)) → (Builtin.copy_ #[37, 37] ty #[.slice (some ⟨g, (i + 1) * 5, none⟩) (n - i) dc, .slice (some ⟨g, i * 5, none⟩) (n + 1 - i) sc]).run Tryz.prog W = .ok (goInt ((n - i : Nat) : Int)) (W.setRow g C1) from fun W ty dc sc h1 => by
  rw [← hC1]
  exact run_copy_k W 37 37 ty 48 5 g ((i + 1) * 5) (n - i) dc ⟨g, i * 5, none⟩ (n + 1 - i) sc cur 48 (xs.drop (i * 5)) (n - i) Tryz.underlying37 hsz h1 (by simp only [Nat.min_def]; split <;> omega) hdl (cell_own h1 htake (i * 5)) (by rw [hdl, hcs]; omega) (fun u hu => h1x u (List.mem_of_mem_drop hu)))
 generalize hC2 : (C1.toList.take (i * 5) ++ news ++ C1.toList.drop (i * 5 + news.length)).toArray = C2
 have hC2s : C2.size = cap * 5 := by rw [← hC2]; simp only [List.size_toArray, List.length_append, List.length_take, List.length_drop, Array.length_toList, hC1s, hnl]; omega
 have HCP2 := Aside0.mk (show ∀ (W : World) ty dc, W.heap[g]? = some (.cells C1 48 (0, 0)) → W.heap[vb]? = some (.cells news.toArray 48 (0, 0)) → (Builtin.copy_ #[37, 37] ty #[.slice (some ⟨g, i * 5, none⟩) (n + 1 - i) dc, .slice (some ⟨vb, 0, none⟩) 1 1]).run Tryz.prog W = .ok (goInt 1) (W.setRow g C2) from fun W ty dc h0 h1 => by
  rw [← hC2]
  exact run_copy_k W 37 37 ty 48 5 g (i * 5) (n + 1 - i) dc ⟨vb, 0, none⟩ 1 1 C1 48 news 1 Tryz.underlying37 hsz h0 (by simp only [Nat.min_def]; split <;> omega) (by rw [hnl]) (fun j u h => by rw [Addr.add_lit, blk_cell h1]; simpa using h) (by rw [hnl, hC1s]; omega) h1v)
 have HFIN := Aside0.mk (show C2.toList.take ((n + 1) * 5) = xs.take (i * 5) ++ news ++ xs.drop (i * 5) by
  have e0 : cur.toList.take (i * 5) = xs.take (i * 5) := by rw [← htake, List.take_take, Nat.min_eq_left (by omega)]
  have e1 : C1.toList.take (i * 5) = xs.take (i * 5) := by
   rw [← hC1]
   show List.take _ (_ ++ _ ++ _) = _
   rw [List.append_assoc, List.take_append_of_le_length (by rw [List.length_take, Array.length_toList, hcs]; omega), List.take_take, Nat.min_eq_left (by omega), e0]
  have e2 : (C1.toList.drop (i * 5 + news.length)).take ((n - i) * 5) = xs.drop (i * 5) := by
   rw [← hC1]
   show (List.drop _ (_ ++ _ ++ _)).take _ = _
   have h9 : cur.toList.length = cap * 5 := Array.length_toList.trans hcs
   have e3 : i * 5 + news.length = (cur.toList.take ((i + 1) * 5)).length := by rw [List.length_take, h9, hnl]; omega
   rw [e3, List.append_assoc, List.drop_left, ← hdl, List.take_left]
  rw [← hC2]
  show List.take _ (_ ++ _ ++ _) = _
  have e4 : (n + 1) * 5 = (C1.toList.take (i * 5) ++ news).length + (n - i) * 5 := by rw [List.length_append, List.length_take, Array.length_toList, hC1s, hnl]; omega
  rw [e4, List.take_length_add_append, e2, e1])
 have HC2 := Aside0.mk hC2s
 have HXL := Aside0.mk hxl
 have HNL := Aside0.mk hnl
 have HVB := Aside0.mk hvb
 have HG0 := Aside0.mk hg
 have hov : ∀ lb cb, (callFunc 153 #[.slice (some ⟨vb, 0, none⟩) 1 1, .slice (some ⟨g, (i + 1) * 5, none⟩) lb cb]).run Tryz.prog w = .ok (.value (.bool false)) w := fun lb cb => by
  rw [run_callFunc_extern Tryz.func153 (by kernel_rfl) (by kernel_rfl) (by kernel_rfl) (e := Extern.SlicesOverlaps.overlaps #[37, 37] #[4]) (by kernel_rfl),
   Lib.run_overlaps_apart w 37 4 48 Tryz.underlying37 5 Tryz.sizeOf48 ⟨vb, 0, none⟩ ⟨g, (i + 1) * 5, none⟩ 1 1 lb cb hne 48 48 news.length cur.size (by simp [World.shape?, hvb]) (by simp [World.shape?, hg]) (by omega) (blk_frozen hvb 0) (blk_frozen hvb _)]
  rfl
 clear hC1 hC1s hC2 hC2s hdl hg htake hvb h1x h1v hsz hcs hxl hnl hi0 hz0 hzs hzb
 have hb1 : ¬ cap = i := by omega
 have hb2 : ¬ cap = i + 1 := by omega
 have hz1 : ¬ ((i : Int) = (n : Int)) := by omega
 have mixed : Tryz.prog.follows Departure.mixedOrders = true := by kernel_rfl
 have hw1 : IntKind.i64.wrap ((i : Int) + 1) = (i : Int) + 1 := by rw [IntKind.wrap_i64]; omega
 have hb4 : (0 : Int) ≤ (i : Int) + 1 := by omega
 have hb5 : (i : Int) + 1 ≤ (n : Int) + 1 := by omega
 have htn : ((i : Int) + 1).toNat = i + 1 := by omega
 have hb6 : i ≤ n := by omega
 have hb7 : (i : Int) ≤ (n : Int) + 1 := by omega
 go_enter Tryz.func111, Tryz.ntmps111
 go_wp2_with (simp only [hov])
 go_region_law_o (refine step_copy_runI rfl _ _ 37 37 rfl (.slice (some ⟨g, (i + 1) * 5, none⟩) (n - i) (cap - (i + 1))) (.slice (some ⟨g, i * 5, none⟩) (n + 1 - i) (cap - i)) (by simp [Act.eval, Act.put]) (by simp [Act.eval, Act.put]) (HCP1.out _ _ _ _ (blk_drew HG0.out)) ?_)
 (try simp only [Act.put, put3])
 obtain ⟨W1, hW1⟩ : ∃ W1, W1 = w.drew.setRow g C1 := ⟨_, rfl⟩
 have HA1 := Aside0.mk (show W1.heap[g]? = some (.cells C1 48 (0, 0)) by rw [hW1]; exact setRow_heap _ _ cur _ 48 (0, 0) (blk_drew HG0.out))
 have HA2 := Aside0.mk (show W1.heap[vb]? = some (.cells news.toArray 48 (0, 0)) by rw [hW1, setRow_other _ _ _ _ hne]; exact blk_drew HVB.out)
 have HA3 := Aside0.mk (show w.grownBy W1 (some g) by rw [hW1]; exact ⟨rfl, rfl, rfl, by simp only [World.setRow, World.drew, Array.size_modify]; omega, fun k hk hne => setRow_other _ _ _ _ (fun e => hne (by rw [e]))⟩)
 rw [← hW1]
 clear hW1
 go_wp2_with (first | ((with_reducible refine gate_builtin (b := .copy) (xs := #[.tmp 80, .tmp 81]) rfl ?_); refine wpList_copy_runI _ rfl _ _ 37 37 rfl _ _ rfl rfl (HCP2.out _ _ _ HA1.out HA2.out) ?_))
 have HO1 := Aside0.mk (show (W1.setRow g C2).ownsRow b0 48 5 (.slice (some ⟨g, 0, none⟩) (n + 1) cap) (n + 1) (xs.take (i * 5) ++ news ++ xs.drop (i * 5)) from
  ⟨by rw [List.length_append, List.length_append, List.length_take, List.length_drop, HXL.out, HNL.out]; omega, .inr ⟨g, cap, C2, rfl, hbg, setRow_heap _ _ C1 _ 48 (0, 0) HA1.out, hroom, hcm, HC2.out, HFIN.out⟩⟩)
 have HG1 := Aside0.mk (show w.grownBy (W1.setRow g C2) (some g) from
  ⟨HA3.out.os, HA3.out.tape, HA3.out.output, by have := HA3.out.size; simp only [World.setRow, Array.size_modify]; exact this, fun k hk hne => by rw [setRow_other _ _ _ _ (fun e => hne (by rw [e]))]; exact HA3.out.block k hk hne⟩)
 (try simp only [Act.put, put3])
 go_wp2
 go_ret
 exact ⟨_, rfl, HO1.out, HG1.out⟩
theorem insertItem (v : Value) (n i : Nat) (xs news : List Value) (w : World) (b0 vb : Nat) (hown : w.ownsRow b0 48 5 v n xs) (h1x : ∀ u ∈ xs, u.oneCell' = true) (hvb : w.heap[vb]? = some (.cells news.toArray 48 (0, 0))) (hnl : news.length = 5)
 (h1v : ∀ u ∈ news, u.oneCell' = true) (hne : v.ownBlock ≠ some vb) (hi : i ≤ n) (hn : n ≤ 1000000) (hb0 : b0 ≤ w.heap.size) :
 Calls Tryz.prog 111 #[v, .int .i64 i, .slice (some ⟨vb, 0, none⟩) 1 1] w fun e w' => ∃ v', e = .returned v' ∧ w'.ownsRow b0 48 5 v' (n + 1) (xs.take (i * 5) ++ news ++ xs.drop (i * 5)) ∧ w.grownBy w' v.ownBlock := by
 by_cases h : i = n
 ·subst h
  rw [List.take_of_length_le (by rw [hown.1]; exact Nat.le_refl _), List.drop_of_length_le (by rw [hown.1]; exact Nat.le_refl _), List.append_nil]
  exact insertItemEnd v i xs news w b0 vb hown hvb hnl h1v hn hb0
 ·rcases hown.2 with ⟨hv, h0⟩ | ⟨g, cap, cur, hv, hbg, hg, hnc, hcm, hcs, htake⟩
  ·omega
  ·subst hv
   have hne' : vb ≠ g := fun h => hne (by rw [h]; rfl)
   by_cases hr : n + 1 ≤ cap
   ·exact insertItemShift g n cap i cur xs news w b0 vb hbg hg hnc hcm hcs htake h1x hvb hnl h1v hne' (by omega) hn hb0 hr
   ·exact insertItemGrow g n cap i cur xs news w b0 vb hbg hg hnc hcm hcs htake h1x hvb hnl h1v hne' (by omega) hn hb0 (by omega)
end Go.Proofs.YtljipbmmgcccnaaGreat.T
end
