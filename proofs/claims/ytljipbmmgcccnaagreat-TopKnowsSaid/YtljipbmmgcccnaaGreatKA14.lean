/- Words and lemmas that the claim's proof names, part 14: what the program's functions answer, at the inputs that each theorem's premises name. Conditions: each theorem's own premises. -/
import Derived.Test.YtljipbmmgcccnaaGreatKA13
import Derived.Test.YtljipbmmgcccnaaGreatRows
import Derived.ProofKit
import Derived.OpenShut
import Derived.Lib.SmallJoins
import Derived.SizedLaws
import Derived.Deep.Slices
section
namespace Go.Proofs.YtljipbmmgcccnaaGreat.T
open Go.ChangeShapes Go.WideShapes Go.ChangeAt Go.Joins Go.Deep Go.RowKit Go.Proofs.YtljipbmmgcccnaaGreatW.PrintWords Go.Proofs.YtljipbmmgcccnaaGreatW.PrintLast Go.Proofs.YtljipbmmgcccnaaGreatW.PrintMore
attribute [local go_sem] cell_tc frozen_tc max2_int min2_int
attribute [local go_sem ↓] Go.wp_at_zero Go.wp_at_succ
set_option linter.unusedVariables false
set_option linter.unusedSimpArgs false
set_option synthInstance.maxHeartbeats 400000
set_option synthInstance.maxSize 512
set_option maxRecDepth 100000
theorem laidOut : laidOutB Tryz.prog = true := by kernel_rfl
theorem cells25 : Tryz.prog.cellsOf 25 = 3 := by kernel_rfl
theorem cells22 : Tryz.prog.cellsOf 22 = 1 := by kernel_rfl
theorem cells23 : Tryz.prog.cellsOf 23 = 1 := by kernel_rfl
theorem cells98 : Tryz.prog.cellsOf 98 = 2 := by kernel_rfl
theorem cells3 : Tryz.prog.cellsOf 3 = 1 := by kernel_rfl
theorem array3 {α : Type} {a : Array α} (h : a.size = 3) : ∃ x y z, a = #[x, y, z] := by
  obtain ⟨l⟩ := a
  match l, h with
  | [x, y, z], _ => exact ⟨x, y, z, rfl⟩
def Opn {α : Type} (k : Kd α) (T : TypeId) : Prop := ∀ {H : Type} {enc : TypeId × Value → H} {W : World} {base : Nat} {spare : Nat → Bool} {held : Bool} {n : Nat} {cs : List Value} {y : DataW H × List MemPlace},
  DataW.trod enc Tryz.prog W base spare held n T cs = some y → ∃ x : α, k.K W x cs
theorem opn3 : Opn kI 3 := by
  intro H enc W base spare held n cs y h
  obtain ⟨k, e0, _, _⟩ := DataW.trod_int Tryz.underlying3 h
  exact ⟨k, e0⟩
theorem opn98 : Opn k98 98 := by
  intro H enc W base spare held n cs y h
  obtain ⟨y0, y1, m, hx, hl, h0, h1⟩ := trod_struct2 Tryz.underlying98 h
  rw [cells98] at hl
  match cs, hl with
  | [c0, c1], _ =>
    simp only [cells3, List.drop, List.take] at h0 h1
    obtain ⟨a, e0, _, _⟩ := DataW.trod_int Tryz.underlying3 h0
    obtain ⟨b, e1, _, _⟩ := DataW.trod_int Tryz.underlying3 h1
    simp only [List.cons.injEq, and_true] at e0 e1
    subst e0 e1
    exact ⟨⟨a, b⟩, k98_mk W ⟨a, b⟩⟩
theorem open_sl {α : Type} {k : Kd α} {e T : TypeId} (hu : Tryz.prog.underlying T = some (.slice e)) (hs : Tryz.prog.cellsOf e = k.sz) (ho : Opn k e) (z : α)
    {H : Type} {enc : TypeId × Value → H} {W : World} {base : Nat} {spare : Nat → Bool} {held : Bool} {n : Nat} {cs : List Value} {y : DataW H × List MemPlace}
    (h : DataW.trod enc Tryz.prog W base spare held n T cs = some y) :
    ∃ A len cap xs, cs = [.slice A len cap] ∧ Sr k W A len cap xs := by
  rcases open_slice hu h with ⟨rfl, _⟩ | ⟨x, l, c, m, q, D, Pl, rfl, hb, hl, hm, hmm, hx, hall⟩
  · exact ⟨none, 0, 0, [], rfl, ⟨rfl, Nat.le_refl _, ⟨rfl, by omega, fun h => absurd h (by omega)⟩⟩⟩
  · have hlm : l ≤ m := by rw [hmm]; split <;> omega
    have each : ∀ i, i < l → ∃ (y : α) (cs' : List Value), k.K W y cs' ∧ ∀ q u, cs'[q]? = some u → W.cell? (x.add (i * k.sz + q)) = some u := by
      intro i hi
      obtain ⟨cs', h1, h2⟩ := hall i (by omega)
      rw [hs] at h1
      obtain ⟨y, hy⟩ := ho h2
      refine ⟨y, cs', hy, fun q u hu' => ?_⟩
      obtain ⟨_, _, hc⟩ := World.cells?_some h1
      have hq : q < k.sz := by
        have := (List.getElem?_eq_some_iff.1 hu').1
        rwa [k.K_len hy] at this
      have := (hc q hq).trans hu'
      rw [show x.add (i * k.sz + q) = (x.add (i * k.sz)).add q from (Addr.add_add x (i * k.sz) q).symm]
      exact this
    obtain ⟨f, hfun⟩ : ∃ f : Nat → α, ∀ i, i < l → ∃ cs' : List Value, k.K W (f i) cs' ∧ ∀ q u, cs'[q]? = some u → W.cell? (x.add (i * k.sz + q)) = some u := by
      refine ⟨fun i => if h : i < l then (each i h).choose else z, fun i hi => ?_⟩
      simp only [dif_pos hi]
      exact (each i hi).choose_spec
    refine ⟨some x, l, c, (List.range l).map f, rfl, ⟨by simp, hl, ⟨by simp, ?_, fun _ => ⟨x, rfl, fun i y hy => ?_⟩⟩⟩⟩
    · unfold maxLen at hm; omega
    · have hi : i < l := by
        rcases Nat.lt_or_ge i l with h | h
        · exact h
        · rw [List.getElem?_eq_none (by simpa using h)] at hy; cases hy
      rw [List.getElem?_map, List.getElem?_range hi] at hy
      obtain rfl := Option.some.inj hy
      obtain ⟨cs', hk, hcell⟩ := hfun i hi
      exact ⟨cs', k.K_len hk, hk, hcell⟩
theorem open_view {H : Type} {enc : TypeId × Value → H} {w : World} {r : Reach} {b0 base : Nat} {spare : Nat → Bool} {held : Bool} {v : Value} {d : DataW H} {p : List MemPlace}
    (hv : Value.okWide Tryz.prog w r b0 25 v) (h : DataW.Trod enc Tryz.prog w base spare held 25 v d p) :
    ∃ (id : Int) (A : Option Addr) (n c : Nat) (ps : List S98) (B : Option Addr) (m e : Nat) (xs : List Int), v = .agg #[.int .i64 id, .slice A n c, .slice B m e] ∧ Sr k98 w A n c ps ∧ Sr kI w B m e xs := by
  obtain ⟨cs, rfl, hsz⟩ := okWide_struct Tryz.underlying25 hv
  obtain ⟨fuel, hf⟩ := h
  obtain ⟨y0, y1, y2, m, hx, hl, h0, h1, h2⟩ := trod_struct3 Tryz.underlying25 hf
  obtain ⟨c0, c1, c2, rfl⟩ := array3 (hsz.trans cells25)
  simp only [Value.cells, cells3, cells22, cells23, List.drop, List.take] at h0 h1 h2
  obtain ⟨id, e0, _, _⟩ := DataW.trod_int Tryz.underlying3 h0
  obtain ⟨A, n, c, ps, e1, s1⟩ := open_sl Tryz.underlying22 cells98 opn98 z98 h1
  obtain ⟨B, m, e, xs, e2, s2⟩ := open_sl Tryz.underlying23 cells3 opn3 0 h2
  simp only [List.cons.injEq, and_true] at e0 e1 e2
  subst e0 e1 e2
  exact ⟨id, A, n, c, ps, B, m, e, xs, rfl, s1, s2⟩
end Go.Proofs.YtljipbmmgcccnaaGreat.T
end
