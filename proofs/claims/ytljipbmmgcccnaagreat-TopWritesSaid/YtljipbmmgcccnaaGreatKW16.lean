/- Words and lemmas that the claim's proof names, part 16: what the program's functions answer, at the inputs that each theorem's premises name. Conditions: each theorem's own premises. -/
import Derived.Test.YtljipbmmgcccnaaGreatKW15
import Derived.Test.YtljipbmmgcccnaaGreatRows
import Derived.ProofKit
import Derived.OpenShut
import Derived.Lib.SmallJoins
import Derived.SizedLaws
import Derived.Deep.Slices
section
namespace Go.Proofs.YtljipbmmgcccnaaGreat.T
open Go.ChangeShapes Go.WideShapes Go.ChangeAt Go.Joins Go.Deep Go.RowKit Go.Proofs.YtljipbmmgcccnaaGreatW.PrintWords Go.Proofs.YtljipbmmgcccnaaGreatW.PrintLast Go.Proofs.YtljipbmmgcccnaaGreatW.PrintMore
attribute [local go_sem] cell_tc frozen_tc max2_int min2_int
attribute [local go_sem ↓] Go.wp_at_zero Go.wp_at_succ
set_option linter.unusedVariables false
set_option linter.unusedSimpArgs false
set_option synthInstance.maxHeartbeats 400000
set_option synthInstance.maxSize 512
set_option maxRecDepth 100000
theorem laidOut : laidOutB Tryz.prog = true := by kernel_rfl
theorem cells25 : Tryz.prog.cellsOf 25 = 3 := by kernel_rfl
theorem cells22 : Tryz.prog.cellsOf 22 = 1 := by kernel_rfl
theorem cells23 : Tryz.prog.cellsOf 23 = 1 := by kernel_rfl
theorem cells98 : Tryz.prog.cellsOf 98 = 2 := by kernel_rfl
theorem cells3 : Tryz.prog.cellsOf 3 = 1 := by kernel_rfl
theorem cells4 : Tryz.prog.cellsOf 4 = 1 := by kernel_rfl
theorem cells46 : Tryz.prog.cellsOf 46 = 2 := by kernel_rfl
theorem cells48 : Tryz.prog.cellsOf 48 = 5 := by kernel_rfl
theorem cells77 : Tryz.prog.cellsOf 77 = 3 := by kernel_rfl
theorem cells37 : Tryz.prog.cellsOf 37 = 1 := by kernel_rfl
theorem cells38 : Tryz.prog.cellsOf 38 = 1 := by kernel_rfl
theorem cells40 : Tryz.prog.cellsOf 40 = 6 := by kernel_rfl
def Opn {α : Type} (k : Kd α) (T : TypeId) : Prop := ∀ {H : Type} {enc : TypeId × Value → H} {W : World} {base : Nat} {spare : Nat → Bool} {held : Bool} {n : Nat} {cs : List Value} {y : DataW H × List MemPlace},
  DataW.trod enc Tryz.prog W base spare held n T cs = some y → ∃ x : α, k.K W x cs
theorem opn3 : Opn kI 3 := by
  intro H enc W base spare held n cs y h
  obtain ⟨k, e0, _, _⟩ := DataW.trod_int Tryz.underlying3 h
  exact ⟨k, e0⟩
theorem opn98 : Opn k98 98 := by
  intro H enc W base spare held n cs y h
  obtain ⟨y0, y1, m, hx, hl, h0, h1⟩ := trod_struct2 Tryz.underlying98 h
  rw [cells98] at hl
  match cs, hl with
  | [c0, c1], _ =>
    simp only [cells3, List.drop, List.take] at h0 h1
    obtain ⟨a, e0, _, _⟩ := DataW.trod_int Tryz.underlying3 h0
    obtain ⟨b, e1, _, _⟩ := DataW.trod_int Tryz.underlying3 h1
    simp only [List.cons.injEq, and_true] at e0 e1
    subst e0 e1
    exact ⟨⟨a, b⟩, k98_mk W ⟨a, b⟩⟩
theorem opn48 : Opn k48 48 := by
  intro H enc W base spare held n cs y h
  obtain ⟨y0, y1, y2, y3, m, hx, hl, h0, h1, h2, h3⟩ := trod_struct4 Tryz.underlying48 h
  rw [cells48] at hl
  match cs, hl with
  | [c0, c1, c2, c3, c4], _ =>
    simp only [cells3, cells4, cells46, List.drop, List.take] at h0 h1 h2 h3
    obtain ⟨k, e0, _, _⟩ := DataW.trod_int Tryz.underlying3 h0
    obtain ⟨v', e2, _, _⟩ := DataW.trod_int Tryz.underlying3 h2
    obtain ⟨g, e3, _⟩ := DataW.trod_bool Tryz.underlying4 h3
    obtain ⟨z0, z1, m', _, _, g0, g1⟩ := trod_struct2 Tryz.underlying46 h1
    simp only [cells3, List.drop, List.take] at g0 g1
    obtain ⟨c, f0, _, _⟩ := DataW.trod_int Tryz.underlying3 g0
    obtain ⟨x, f1, _, _⟩ := DataW.trod_int Tryz.underlying3 g1
    simp only [List.cons.injEq, and_true] at e0 e2 e3 f0 f1
    subst e0 e2 e3 f0 f1
    exact ⟨⟨k, ⟨c, x⟩, v', g⟩, k48_mk W ⟨k, ⟨c, x⟩, v', g⟩⟩
theorem opn77 : Opn k77 77 := by
  intro H enc W base spare held n cs y h
  obtain ⟨y0, y1, y2, m, hx, hl, h0, h1, h2⟩ := trod_struct3 Tryz.underlying77 h
  rw [cells77] at hl
  match cs, hl with
  | [c0, c1, c2], _ =>
    simp only [cells3, cells4, List.drop, List.take] at h0 h1 h2
    obtain ⟨k, e0, _, _⟩ := DataW.trod_int Tryz.underlying3 h0
    obtain ⟨g, e1, _⟩ := DataW.trod_bool Tryz.underlying4 h1
    obtain ⟨v', e2, _, _⟩ := DataW.trod_int Tryz.underlying3 h2
    simp only [List.cons.injEq, and_true] at e0 e1 e2
    subst e0 e1 e2
    exact ⟨⟨k, g, v'⟩, k77_mk W ⟨k, g, v'⟩⟩
end Go.Proofs.YtljipbmmgcccnaaGreat.T
end
section
namespace Go.Proofs.YtljipbmmgcccnaaGreat.T
open Go.RowKit Go.Proofs.YtljipbmmgcccnaaGreatW.PrintWords Go.Proofs.YtljipbmmgcccnaaGreatW.PrintLast Go.Proofs.YtljipbmmgcccnaaGreatW.PrintMore
attribute [local go_sem] cell_tc frozen_tc max2_int min2_int
attribute [local go_sem ↓] Go.wp_at_zero Go.wp_at_succ
set_option linter.unusedVariables false
set_option linter.unusedSimpArgs false
set_option synthInstance.maxHeartbeats 400000
set_option synthInstance.maxSize 512
attribute [local go_sem] cell_tc2
attribute [local go_sem high] eqA46 eqA98 eqA77 eqA48
theorem any_step {α : Type} {p : α → Bool} {l : List α} {i : Nat} (h : i < l.length) (ha : (l.take i).any p = false) (hp : p l[i] = false) : (l.take (i + 1)).any p = false := by
  rw [List.take_succ_eq_append_getElem h, List.any_append, ha]
  simp [hp]
end Go.Proofs.YtljipbmmgcccnaaGreat.T
end
section
namespace Go.Proofs.YtljipbmmgcccnaaGreat.T
open Go.RowKit Go.Proofs.YtljipbmmgcccnaaGreatW.PrintWords Go.Proofs.YtljipbmmgcccnaaGreatW.PrintLast Go.Proofs.YtljipbmmgcccnaaGreatW.PrintMore
attribute [local go_sem] cell_tc frozen_tc max2_int min2_int
attribute [local go_sem ↓] Go.wp_at_zero Go.wp_at_succ
set_option linter.unusedVariables false
set_option linter.unusedSimpArgs false
set_option synthInstance.maxHeartbeats 400000
set_option synthInstance.maxSize 512
attribute [local go_sem] cell_tc2
attribute [local go_sem high] eqA46 eqA98 eqA77 eqA48
def atI (l : List S40) (id : Int) : Int := if l.findIdx (fun x => x.f1.f0 == id) < l.length then (l.findIdx (fun x => x.f1.f0 == id) : Nat) else -1
theorem atI_some {l : List S40} {id : Int} {i : Nat} (hi : i < l.length) (hp : (l[i].f1.f0 == id) = true) (ha : (l.take i).any (fun x => x.f1.f0 == id) = false) : atI l id = i := by
  have e : l.findIdx (fun x => x.f1.f0 == id) = i := by
    rw [List.findIdx_eq hi]
    refine ⟨hp, fun j hj => ?_⟩
    rw [List.any_eq_false] at ha
    have := ha l[j] (List.mem_take_iff_getElem.2 ⟨j, by omega, rfl⟩)
    simpa using this
  unfold atI
  rw [e, if_pos hi]
theorem atI_none {l : List S40} {id : Int} (ha : l.any (fun x => x.f1.f0 == id) = false) : atI l id = -1 := by
  have e : ¬ l.findIdx (fun x => x.f1.f0 == id) < l.length := by
    rw [List.findIdx_lt_length]
    rintro ⟨x, hx, hp⟩
    rw [List.any_eq_false] at ha
    exact ha x hx hp
  unfold atI
  rw [if_neg e]
theorem at_ {id : Int} {A : Option Addr} {n c : Nat} {l : List S40} {w : World} [h : Sr k40 w A n c l] :
    Calls Tryz.prog 64 #[.slice A n c, .int .i64 id] w fun e w' => e = .returned (.int .i64 (atI l id)) ∧ BelL w w' := by
  obtain rfl := h.len
  have HS := sr_l h
  have hlen : l.length ≤ 9223372036854775807 := h.C.2.1
  clear h
  go_enter Tryz.func64, Tryz.ntmps64
  go_wp2
  go_loopg [5] l.length (fun kq v5 w' => ∃ i : Nat, v5 = .int .i64 i ∧ i ≤ l.length ∧ kq = l.length - i ∧ Aside0 ((l.take i).any (fun x => x.f1.f0 == id) = false) ∧ BelL w w')
  case atStart => exact ⟨0, rfl, Nat.zero_le _, rfl, ⟨rfl⟩, belL⟩
  case round =>
    obtain ⟨i, rfl, hi, rfl, HA, hbr⟩ := hrel
    by_cases hlt : i < l.length
    · obtain ⟨ad, X2, y2, X3, y3, X4, y4, X5, y5, rfl, x0, x1, x2, x3, x4, x5, r2, r3, r4, r5⟩ := el_T40 (W := wr) (A := A) (n := l.length) (c := c) (l := l) i hlt
      clear r2 r3 r4 r5 x2 x3 x4 x5
      cases h1 : (l[i].f1.f0 == id)
      · have HT := Aside0.mk (any_step (p := fun x : S40 => x.f1.f0 == id) hlt HA.out h1)
        go_wp2
        go_roundg (l.length - (i + 1))
        case measure => omega
        case rel => exact ⟨i + 1, by go_num, by omega, rfl, HT, belL⟩
      · have HF := Aside0.mk (atI_some hlt h1 HA.out)
        go_wp2
        go_ret
        exact ⟨by rw [HF.out]; rfl, belL⟩
    · have HT := Aside0.mk (show atI l id = -1 from atI_none (by
        have := HA.out
        rwa [List.take_of_length_le (by omega)] at this))
      go_wp2
      go_ret
      exact ⟨by rw [HT.out]; rfl, belL⟩
end Go.Proofs.YtljipbmmgcccnaaGreat.T
end
section
namespace Go.Proofs.YtljipbmmgcccnaaGreat.T
open Go.RowKit Go.Proofs.YtljipbmmgcccnaaGreatW.PrintWords Go.Proofs.YtljipbmmgcccnaaGreatW.PrintLast Go.Proofs.YtljipbmmgcccnaaGreatW.PrintMore
attribute [local go_sem] cell_tc frozen_tc max2_int min2_int
attribute [local go_sem ↓] Go.wp_at_zero Go.wp_at_succ
set_option linter.unusedVariables false
set_option linter.unusedSimpArgs false
set_option synthInstance.maxHeartbeats 400000
set_option synthInstance.maxSize 512
attribute [local go_sem] cell_tc2
attribute [local go_sem high] eqA46 eqA98 eqA77 eqA48
theorem eqZ48 (d : Nat) (w : World) (x0 x1 x2 x3 : Int) (x4 : Bool) :
    (Op.equalIn (d + 3) 48 (.agg #[.int .i64 x0, .int .i64 x1, .int .i64 x2, .int .i64 x3, .bool x4]) (.agg #[.int .i64 0, .int .i64 0, .int .i64 0, .int .i64 0, .bool false])).run Tryz.prog w = .ok (itemZ ⟨x0, ⟨x1, x2⟩, x3, x4⟩) w := by
  rw [eqA48]
  congr 1
  unfold itemZ
  cases x4 <;> simp [Bool.and_assoc]
attribute [-go_sem] eqA48
attribute [local go_sem high] eqZ48
end Go.Proofs.YtljipbmmgcccnaaGreat.T
end
section
namespace Go.Proofs.YtljipbmmgcccnaaGreat.T
open Go.RowKit Go.Proofs.YtljipbmmgcccnaaGreatW.PrintWords Go.Proofs.YtljipbmmgcccnaaGreatW.PrintLast Go.Proofs.YtljipbmmgcccnaaGreatW.PrintMore
attribute [local go_sem] cell_tc frozen_tc max2_int min2_int
attribute [local go_sem ↓] Go.wp_at_zero Go.wp_at_succ
set_option linter.unusedVariables false
set_option linter.unusedSimpArgs false
set_option synthInstance.maxHeartbeats 400000
set_option synthInstance.maxSize 512
section
variable {P : Program} {ops : Array Oper} {Q : Exit → Act → World → Prop} {S : World → Prop}
def lexH (P : Program) (ops : Array Oper) (S : World → Prop) (Q : Exit → Act → World → Prop) : List Oper → Nat → Array Bool → Act → World → Prop
  | [], _, _, a, w => Q .normal a w
  | o :: rest, k, listed, a, w =>
    if Region.wanted o (yielded ops a.tmps) = true then
      (∃ v, (∀ w', S w' → (execOp a.eval o).run P w' = .ok (.value v) w') ∧ lexH P ops S Q rest (k + 1) (listed.setIfInBounds k true) (a.put o.dst v) w) ∨
      (Region.ready .any ops listed = [k] ∧ ∀ K : Act → World → Prop, (∀ a' w', S w' → lexH P ops S Q rest (k + 1) (listed.setIfInBounds k true) a' w' → K a' w') → o.wp P a w K Q)
    else lexH P ops S Q rest (k + 1) (listed.setIfInBounds k true) (a.put o.dst undef) w
structure LexW (P : Program) (ops : Array Oper) (S : World → Prop) (Q : Exit → Act → World → Prop) (l : List Oper) (k : Nat) (listed : Array Bool) (a : Act) (w : World) : Prop where out : lexH P ops S Q l k listed a w
structure LexR (P : Program) (ops : Array Oper) (S : World → Prop) (Q : Exit → Act → World → Prop) (fuel : Nat) (listed : Array Bool) (a : Act) (w : World) : Prop where out : wpAnyH P .any ops (NoPanic Q) S fuel listed a w
end
end Go.Proofs.YtljipbmmgcccnaaGreat.T
end
section
namespace Go.Proofs.YtljipbmmgcccnaaGreat.T
open Go.ChangeShapes Go.WideShapes Go.ChangeAt Go.Joins Go.Deep Go.RowKit Go.Proofs.YtljipbmmgcccnaaGreatW.PrintWords Go.Proofs.YtljipbmmgcccnaaGreatW.PrintLast Go.Proofs.YtljipbmmgcccnaaGreatW.PrintMore
set_option linter.unusedVariables false
set_option linter.unusedSimpArgs false
set_option maxRecDepth 100000
def Fits (l : List Nat) : Prop := ∀ q ∈ l, q ≤ reachBytes
theorem Fits.left {a b : List Nat} (h : Fits (a ++ b)) : Fits a := fun q hq => h q (List.mem_append_left _ hq)
theorem Fits.right {a b : List Nat} (h : Fits (a ++ b)) : Fits b := fun q hq => h q (List.mem_append_right _ hq)
theorem fits_all {H : Type} {e : TypeId} : ∀ {l : List (DataW H)}, Fits (DataW.weightsAll Tryz.prog e l) → ∀ d ∈ l, Fits (d.weights Tryz.prog e)
  | [], _, d, hd => nomatch hd
  | x :: l, h, d, hd => by
    unfold DataW.weightsAll at h
    rcases List.mem_cons.1 hd with rfl | hd
    · exact h.left
    · exact fits_all h.right d hd
def Opg {α : Type} (k : Kd α) (T : TypeId) (G : α → Prop) : Prop := ∀ {H : Type} {enc : TypeId × Value → H} {W : World} {base : Nat} {spare : Nat → Bool} {held : Bool} {n : Nat} {cs : List Value} {y : DataW H × List MemPlace},
  DataW.trod enc Tryz.prog W base spare held n T cs = some y → Fits (y.1.weights Tryz.prog T) → ∃ x : α, k.K W x cs ∧ G x
theorem opg_of {α : Type} {k : Kd α} {T : TypeId} (h : Opn k T) : Opg k T fun _ => True := fun hy _ => by
  obtain ⟨x, hx⟩ := h hy
  exact ⟨x, hx, trivial⟩
theorem open_slg {α : Type} {k : Kd α} {G : α → Prop} {e T : TypeId} (hu : Tryz.prog.underlying T = some (.slice e)) (hs : Tryz.prog.cellsOf e = k.sz) (ho : Opg k e G) (z : α)
    {H : Type} {enc : TypeId × Value → H} {W : World} {base : Nat} {spare : Nat → Bool} {held : Bool} {n : Nat} {cs : List Value} {y : DataW H × List MemPlace}
    (h : DataW.trod enc Tryz.prog W base spare held n T cs = some y) (hw : Fits (y.1.weights Tryz.prog T)) :
    ∃ A len cap xs, cs = [.slice A len cap] ∧ Sr k W A len cap xs ∧ len * Tryz.prog.bytesOf e ≤ reachBytes ∧ ∀ x ∈ xs, G x := by
  rcases open_slice hu h with ⟨rfl, _⟩ | ⟨x, l, c, m, q, D, Pl, rfl, hb, hl, hm, hmm, hx, hall⟩
  · exact ⟨none, 0, 0, [], rfl, ⟨rfl, Nat.le_refl _, ⟨rfl, by omega, fun h => absurd h (by omega)⟩⟩, by rw [Nat.zero_mul]; exact Nat.zero_le _, fun x hx => nomatch hx⟩
  · have hlm : l ≤ m := by rw [hmm]; split <;> omega
    rw [hx] at hw
    simp only [DataW.weights, hu] at hw
    have hbytes : l * Tryz.prog.bytesOf e ≤ reachBytes := by
      have h1 := hw _ (List.mem_cons_self ..)
      rw [List.length_map, List.length_range] at h1
      exact Nat.le_trans (Nat.mul_le_mul_right _ (Nat.le_add_right _ _)) h1
    have hel : ∀ i, i < l → Fits ((D i).weights Tryz.prog e) := fun i hi => by
      have h2 : Fits (DataW.weightsAll Tryz.prog e ((List.range l).map D)) := fun q hq => hw q (List.mem_cons_of_mem _ (List.mem_append_left _ hq))
      exact fits_all h2 (D i) (List.mem_map.2 ⟨i, List.mem_range.2 hi, rfl⟩)
    have each : ∀ i, i < l → ∃ (y : α), G y ∧ ∃ (cs' : List Value), k.K W y cs' ∧ ∀ q u, cs'[q]? = some u → W.cell? (x.add (i * k.sz + q)) = some u := by
      intro i hi
      obtain ⟨cs', h1, h2⟩ := hall i (by omega)
      rw [hs] at h1
      obtain ⟨y, hy, hg⟩ := ho h2 (hel i hi)
      refine ⟨y, hg, cs', hy, fun q u hu' => ?_⟩
      obtain ⟨_, _, hc⟩ := World.cells?_some h1
      have hq : q < k.sz := by
        have := (List.getElem?_eq_some_iff.1 hu').1
        rwa [k.K_len hy] at this
      have := (hc q hq).trans hu'
      rw [show x.add (i * k.sz + q) = (x.add (i * k.sz)).add q from (Addr.add_add x (i * k.sz) q).symm]
      exact this
    obtain ⟨f, hfun⟩ : ∃ f : Nat → α, ∀ i, i < l → G (f i) ∧ ∃ cs' : List Value, k.K W (f i) cs' ∧ ∀ q u, cs'[q]? = some u → W.cell? (x.add (i * k.sz + q)) = some u := by
      refine ⟨fun i => if h : i < l then (each i h).choose else z, fun i hi => ?_⟩
      simp only [dif_pos hi]
      exact (each i hi).choose_spec
    refine ⟨some x, l, c, (List.range l).map f, rfl, ⟨by simp, hl, ⟨by simp, ?_, fun _ => ⟨x, rfl, fun i y hy => ?_⟩⟩⟩, hbytes, fun y hy => ?_⟩
    · unfold maxLen at hm; omega
    · have hi : i < l := by
        rcases Nat.lt_or_ge i l with h | h
        · exact h
        · rw [List.getElem?_eq_none (by simpa using h)] at hy; cases hy
      rw [List.getElem?_map, List.getElem?_range hi] at hy
      obtain rfl := Option.some.inj hy
      obtain ⟨_, cs', hk, hcell⟩ := hfun i hi
      exact ⟨cs', k.K_len hk, hk, hcell⟩
    · obtain ⟨i, hi, rfl⟩ := List.mem_map.1 hy
      exact (hfun i (List.mem_range.1 hi)).1
def FitV (v : S25) : Prop := v.f1.length * 16 ≤ reachBytes ∧ v.f2.length * 8 ≤ reachBytes
def FitN (x : S40) : Prop := FitV x.f1 ∧ x.f2.length * 40 ≤ reachBytes ∧ x.f3.length * 24 ≤ reachBytes
theorem opg25 : Opg k25 25 FitV := by
  intro H enc W base spare held n cs y h hw
  obtain ⟨y0, y1, y2, m, hx, hl, h0, h1, h2⟩ := trod_struct3 Tryz.underlying25 h
  rw [cells25] at hl
  rw [hx] at hw
  simp only [DataW.weights, Tryz.underlying25] at hw
  have hw' : Fits (DataW.weightsEach Tryz.prog [3, 22, 23] [y0.1, y1.1, y2.1]) := hw
  simp only [DataW.weightsEach] at hw'
  match cs, hl with
  | [c0, c1, c2], _ =>
    simp only [cells3, cells22, cells23, List.drop, List.take] at h0 h1 h2
    obtain ⟨id, e0, _, _⟩ := DataW.trod_int Tryz.underlying3 h0
    obtain ⟨A, n, c, ps, e1, s1, b1, _⟩ := open_slg Tryz.underlying22 cells98 (opg_of opn98) z98 h1 hw'.right.left
    obtain ⟨B, m, e, xs, e2, s2, b2, _⟩ := open_slg Tryz.underlying23 cells3 (opg_of opn3) 0 h2 hw'.right.right.left
    simp only [List.cons.injEq, and_true] at e0 e1 e2
    subst e0 e1 e2
    obtain rfl := s1.len
    obtain rfl := s2.len
    rw [by98] at b1
    rw [by3] at b2
    exact ⟨⟨id, ps, xs⟩, k25_mk W ⟨id, ps, xs⟩ s1.le s1.C s2.le s2.C, b1, b2⟩
theorem opg40 : Opg k40 40 FitN := by
  intro H enc W base spare held n cs y h hw
  obtain ⟨y0, y1, y2, y3, m, hx, hl, h0, h1, h2, h3⟩ := trod_struct4 Tryz.underlying40 h
  rw [cells40] at hl
  rw [hx] at hw
  simp only [DataW.weights, Tryz.underlying40] at hw
  have hw' : Fits (DataW.weightsEach Tryz.prog [4, 25, 37, 38] [y0.1, y1.1, y2.1, y3.1]) := hw
  simp only [DataW.weightsEach] at hw'
  match cs, hl with
  | [c0, c1, c2, c3, c4, c5], _ =>
    simp only [cells4, cells25, cells37, cells38, List.drop, List.take] at h0 h1 h2 h3
    obtain ⟨up, e0, _⟩ := DataW.trod_bool Tryz.underlying4 h0
    obtain ⟨v, hv, g1⟩ := opg25 h1 hw'.right.left
    obtain ⟨A1, d1, A2, d2, e1, l1, q1, l2, q2⟩ := k25_open hv
    obtain ⟨I, ni, ci, is, e2, s2, b2, _⟩ := open_slg Tryz.underlying37 cells48 (opg_of opn48) z48 h2 hw'.right.right.left
    obtain ⟨L, nl, cl, ls, e3, s3, b3, _⟩ := open_slg Tryz.underlying38 cells77 (opg_of opn77) z77 h3 hw'.right.right.right.left
    simp only [List.cons.injEq, and_true] at e0 e1 e2 e3
    obtain ⟨rfl, rfl, rfl⟩ := e1
    subst e0 e2 e3
    obtain rfl := s2.len
    obtain rfl := s3.len
    rw [by48] at b2
    rw [by77] at b3
    exact ⟨⟨up, v, is, ls⟩, k40_mk W ⟨up, v, is, ls⟩ l1 q1 l2 q2 s2.le s2.C s3.le s3.C, g1, b2, b3⟩
end Go.Proofs.YtljipbmmgcccnaaGreat.T
end
section
namespace Go.Proofs.YtljipbmmgcccnaaGreat.T
open Go.RowKit Go.Proofs.YtljipbmmgcccnaaGreatW.PrintWords Go.Proofs.YtljipbmmgcccnaaGreatW.PrintLast Go.Proofs.YtljipbmmgcccnaaGreatW.PrintMore
attribute [local go_sem] cell_tc frozen_tc max2_int min2_int
attribute [local go_sem ↓] Go.wp_at_zero Go.wp_at_succ
set_option linter.unusedVariables false
set_option linter.unusedSimpArgs false
set_option synthInstance.maxHeartbeats 400000
set_option synthInstance.maxSize 512
attribute [local go_sem] cell_tc2
theorem topWrites_ {up : Bool} {id key u other : Int} {A B I L : Option Addr} {n c m d ni ci nl cl : Nat} {ps : List S98} {xs : List Int} {is : List S48} {ls : List S77} {w : World} [h1 : Sr k98 w A n c ps] [h2 : Sr kI w B m d xs] [h3 : Sr k48 w I ni ci is] [h4 : Sr k77 w L nl cl ls]
    (l1 : n * 16 ≤ 140737488351232) (l2 : m * 8 ≤ 140737488351232) (l3 : ni * 40 ≤ 140737488351232) (l4 : nl * 24 ≤ 140737488351232) :
    Calls Tryz.prog 4 #[.agg #[.bool up, .int .i64 id, .slice A n c, .slice B m d, .slice I ni ci, .slice L nl cl], .int .i64 key, .int .i64 u, .int .i64 other] w fun e w' => e = .returned (.bool true) ∧ BelL w w' := by
  cases hx : (up && nodeB ⟨up, ⟨id, ps, xs⟩, is, ls⟩)
  · exact tw_a l1 l2 l3 l4 hx
  · obtain rfl : up = true := (Bool.and_eq_true _ _ ▸ hx : _ ∧ _).1
    have hn : nodeB ⟨true, ⟨id, ps, xs⟩, is, ls⟩ = true := (Bool.and_eq_true _ _ ▸ hx : _ ∧ _).2
    cases hw : writeB id is (bits BinOp.and IntKind.i64 key 255) (bits BinOp.and IntKind.i64 u 255) false
    · exact tw_b l1 l2 l3 l4 hn hw
    · cases hw2 : writeB (bits BinOp.and IntKind.i64 other 255) is (bits BinOp.and IntKind.i64 key 255) 0 true
      · exact tw_c l1 l2 l3 l4 hn hw hw2
      · rcases Classical.em (id = (bits BinOp.and IntKind.i64 other 255)) with hi | hne
        · exact tw_d l1 l2 l3 l4 hn hw hw2 hi
        · cases hq : decide ((bits BinOp.and IntKind.i64 other 255) < id)
          · exact tw_e2 l1 l2 l3 l4 hn hw hw2 hne hq
          · exact tw_e1 l1 l2 l3 l4 hn hw hw2 hne hq
end Go.Proofs.YtljipbmmgcccnaaGreat.T
namespace Go.Proofs.YtljipbmmgcccnaaGreat.T
open Go.ChangeShapes Go.WideShapes Go.ChangeAt Go.Joins Go.Deep Go.RowKit Go.Proofs.YtljipbmmgcccnaaGreatW.PrintWords Go.Proofs.YtljipbmmgcccnaaGreatW.PrintLast Go.Proofs.YtljipbmmgcccnaaGreatW.PrintMore
set_option maxRecDepth 100000
set_option linter.constructorNameAsVariable false
set_option linter.unusedVariables false
theorem open_node {H : Type} {enc : TypeId × Value → H} {w : World} {r : _root_.Go.Reach} {b0 base : Nat} {spare : Nat → Bool} {held : Bool} {v : Value} {d : DataW H} {p : List MemPlace}
    (hv : Value.okWide Tryz.prog w r b0 40 v) (h : DataW.Trod enc Tryz.prog w base spare held 40 v d p) (hw : Fits (d.weights Tryz.prog 40)) :
    ∃ (up : Bool) (id : Int) (A : Option Addr) (n c : Nat) (ps : List S98) (B : Option Addr) (m e : Nat) (xs : List Int) (I : Option Addr) (ni ci : Nat) (is : List S48) (L : Option Addr) (nl cl : Nat) (ls : List S77),
      v = .agg #[.bool up, .int .i64 id, .slice A n c, .slice B m e, .slice I ni ci, .slice L nl cl] ∧ Sr k98 w A n c ps ∧ Sr kI w B m e xs ∧ Sr k48 w I ni ci is ∧ Sr k77 w L nl cl ls ∧
      n * 16 ≤ reachBytes ∧ m * 8 ≤ reachBytes ∧ ni * 40 ≤ reachBytes ∧ nl * 24 ≤ reachBytes := by
  obtain ⟨cs, rfl, hsz⟩ := okWide_struct Tryz.underlying40 hv
  obtain ⟨fuel, hf⟩ := h
  obtain ⟨x, hk, ⟨g1, g2⟩, g3, g4⟩ := opg40 hf hw
  obtain ⟨A2, c2, A3, c3, A4, c4, A5, c5, he, l2, q2, l3, q3, l4, q4, l5, q5⟩ := k40_open hk
  obtain rfl : cs = #[.bool x.f0, .int .i64 x.f1.f0, .slice A2 x.f1.f1.length c2, .slice A3 x.f1.f2.length c3, .slice A4 x.f2.length c4, .slice A5 x.f3.length c5] := by
    cases cs
    simpa [Value.cells] using he
  exact ⟨x.f0, x.f1.f0, A2, _, c2, x.f1.f1, A3, _, c3, x.f1.f2, A4, _, c4, x.f2, A5, _, c5, x.f3, rfl, ⟨rfl, l2, q2⟩, ⟨rfl, l3, q3⟩, ⟨rfl, l4, q4⟩, ⟨rfl, l5, q5⟩, g1, g2, g3, g4⟩
end Go.Proofs.YtljipbmmgcccnaaGreat.T
end
