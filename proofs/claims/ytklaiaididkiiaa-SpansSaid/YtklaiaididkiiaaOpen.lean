/- An item that comes as a parameter by value, opened: its five numbers; and shut again, in whatever memory. -/
import Derived.Test.YtklaiaididkiiaaRows
import Derived.WalkKit
import Derived.ProofKit
import Derived.OpenShut
import Derived.Lib.SmallJoins
namespace Go.Proofs.Ytklaiaididkiiaa.Open
open Go.ChangeShapes Go.WideShapes Go.ChangeAt Go.RowKit Go.Joins
set_option linter.unusedVariables false
theorem cells25 : Try.prog.cellsOf 25 = 5 := by kernel_rfl
theorem cells23 : Try.prog.cellsOf 23 = 2 := by kernel_rfl
theorem cells3 : Try.prog.cellsOf 3 = 1 := by kernel_rfl
theorem cells4 : Try.prog.cellsOf 4 = 1 := by kernel_rfl

theorem array5 {α : Type} {a : Array α} (h : a.size = 5) : ∃ x y z u v, a = #[x, y, z, u, v] := by
  obtain ⟨l⟩ := a
  match l, h with
  | [x, y, z, u, v], _ => exact ⟨x, y, z, u, v, rfl⟩

/-- An item's datum. -/
def dat {H : Type} (k c x v : Int) (g : Bool) : DataW H := .agg [.lit (.int .i64 k), .agg [.lit (.int .i64 c), .lit (.int .i64 x)], .lit (.int .i64 v), .lit (.bool g)]
/-- Its value. -/
def val (k c x v : Int) (g : Bool) : Value := .agg #[.int .i64 k, .int .i64 c, .int .i64 x, .int .i64 v, .bool g]

theorem trod_item {H : Type} {enc : TypeId × Value → H} {w : World} {base : Nat} {spare : Nat → Bool} {held : Bool} {n : Nat} {cs : List Value} {y : DataW H × List MemPlace}
    (h : DataW.trod enc Try.prog w base spare held n 25 cs = some y) :
    ∃ (k c x v' : Int) (g : Bool), cs = [.int .i64 k, .int .i64 c, .int .i64 x, .int .i64 v', .bool g] ∧ y = (dat k c x v' g, []) ∧
      (Lit.int .i64 k).wf = true ∧ (Lit.int .i64 c).wf = true ∧ (Lit.int .i64 x).wf = true ∧ (Lit.int .i64 v').wf = true := by
  obtain ⟨y0, y1, y2, y3, m, hx, hl, h0, h1, h2, h3⟩ := trod_struct4 Try.underlying25 h
  rw [cells25] at hl
  match cs, hl with
  | [c0, c1, c2, c3, c4], _ =>
    simp only [cells3, cells4, cells23, List.drop, List.take] at h0 h1 h2 h3
    obtain ⟨k, e0, rfl, wk⟩ := DataW.trod_int Try.underlying3 h0
    obtain ⟨v', e2, rfl, wv⟩ := DataW.trod_int Try.underlying3 h2
    obtain ⟨g, e3, rfl⟩ := DataW.trod_bool Try.underlying4 h3
    obtain ⟨z0, z1, m', rfl, _, g0, g1⟩ := trod_struct2 Try.underlying23 h1
    simp only [cells3, List.drop, List.take] at g0 g1
    obtain ⟨c, f0, rfl, wc⟩ := DataW.trod_int Try.underlying3 g0
    obtain ⟨x, f1, rfl, wx⟩ := DataW.trod_int Try.underlying3 g1
    simp only [List.cons.injEq, and_true] at e0 e2 e3 f0 f1
    subst e0 e2 e3 f0 f1
    exact ⟨k, c, x, v', g, rfl, hx, wk, wc, wx, wv⟩

theorem open_item {H : Type} {enc : TypeId × Value → H} {w : World} {r : Reach} {b0 base : Nat} {spare : Nat → Bool} {held : Bool} {v : Value} {d : DataW H} {p : List MemPlace}
    (hv : Value.okWide Try.prog w r b0 25 v) (h : DataW.Trod enc Try.prog w base spare held 25 v d p) :
    ∃ (k c x v' : Int) (g : Bool), v = val k c x v' g ∧ d = dat k c x v' g ∧ p = [] ∧
      (Lit.int .i64 k).wf = true ∧ (Lit.int .i64 c).wf = true ∧ (Lit.int .i64 x).wf = true ∧ (Lit.int .i64 v').wf = true := by
  obtain ⟨cs, rfl, hsz⟩ := okWide_struct Try.underlying25 hv
  obtain ⟨fuel, hf⟩ := h
  obtain ⟨k, c, x, v', g, hc, hy, w1, w2, w3, w4⟩ := trod_item hf
  simp only [Prod.mk.injEq] at hy
  obtain ⟨c0, c1, c2, c3, c4, rfl⟩ := array5 (hsz.trans cells25)
  simp only [Value.cells, List.cons.injEq, and_true] at hc
  obtain ⟨rfl, rfl, rfl, rfl, rfl⟩ := hc
  exact ⟨k, c, x, v', g, rfl, hy.1, hy.2, w1, w2, w3, w4⟩

theorem shut_item {H : Type} {enc : TypeId × Value → H} (w : World) (base : Nat) (spare : Nat → Bool) (held : Bool) {k c x v : Int} (g : Bool)
    (wk : (Lit.int .i64 k).wf = true) (wc : (Lit.int .i64 c).wf = true) (wx : (Lit.int .i64 x).wf = true) (wv : (Lit.int .i64 v).wf = true) :
    DataW.Trod enc Try.prog w base spare held 25 (val k c x v g) (dat k c x v g) [] := by
  have t0 : ∀ (n : Int), (Lit.int .i64 n).wf = true → ∀ m, DataW.trod enc Try.prog w base spare held (m + 1) 3 [.int .i64 n] = some (.lit (.int .i64 n), []) := fun n hn m => trod_int_mk m Try.underlying3 hn
  have tv : DataW.trod enc Try.prog w base spare held 2 23 [.int .i64 c, .int .i64 x] = some (.agg [.lit (.int .i64 c), .lit (.int .i64 x)], []) := by
    have := trod_struct2_mk (enc := enc) (P := Try.prog) (w := w) (base := base) (spare := spare) (held := held) (n := 1) (cs := [.int .i64 c, .int .i64 x]) (y0 := (.lit (.int .i64 c), [])) (y1 := (.lit (.int .i64 x), [])) Try.underlying23 (by rw [cells23]; rfl) (by simpa [cells3] using t0 c wc 0) (by simpa [cells3] using t0 x wx 0)
    simpa using this
  have tb : DataW.trod enc Try.prog w base spare held 2 4 [.bool g] = some (.lit (.bool g), []) := by simp [DataW.trod, Try.underlying4]
  have ti := trod_struct4_mk (enc := enc) (P := Try.prog) (w := w) (base := base) (spare := spare) (held := held) (n := 2) (cs := [.int .i64 k, .int .i64 c, .int .i64 x, .int .i64 v, .bool g]) (y0 := (.lit (.int .i64 k), [])) (y1 := (.agg [.lit (.int .i64 c), .lit (.int .i64 x)], [])) (y2 := (.lit (.int .i64 v), [])) (y3 := (.lit (.bool g), [])) Try.underlying25 (by rw [cells25]; rfl)
    (by simpa [cells3] using t0 k wk 1) (by simpa [cells23] using tv) (by simpa [cells3] using t0 v wv 1) (by simpa [cells4] using tb)
  exact ⟨3, by simpa [val, dat, Value.cells] using ti⟩
end Go.Proofs.Ytklaiaididkiiaa.Open
