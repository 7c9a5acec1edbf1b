/- A slice of items that comes as a parameter, opened: it reads as a list of items, no longer than the row's weight allows. -/
import Derived.Test.YtklaiaididkiiaaOpen
import Derived.Test.YtklaiaididkiiaaMSx0
import Derived.SizedLaws
import Derived.Deep.Slices
namespace Go.Proofs.Ytklaiaididkiiaa.Open
open Go.ChangeShapes Go.WideShapes Go.ChangeAt Go.RowKit Go.Joins Go.Deep
open Go.Proofs.YtklaiaididkiiaaW.PrintWords
set_option linter.unusedVariables false
theorem laidOut : laidOutB Try.prog = true := by kernel_rfl
theorem bytes25 : Try.prog.bytesOf 25 = 40 := by kernel_rfl

theorem open_items {T : TypeId} (hu : Try.prog.underlying T = some (.slice 25)) {H : Type} {enc : TypeId × Value → H} {W : World} {base : Nat} {spare : Nat → Bool} {held : Bool} {a : Option Addr} {len cap : Nat} {d : DataW H} {p : List MemPlace}
    {ts : List TypeId} {ds : List (DataW H)} {j : Nat} (hsz : (DataW.weightsEach Try.prog ts ds).all (· ≤ reachBytes) = true) (ht : ts[j]? = some T) (hd : ds[j]? = some d)
    (h : DataW.Trod enc Try.prog W base spare held T (.slice a len cap) d p) :
    ∃ xs : List MS.S25, Kd.C MS.k25 W a len xs ∧ xs.length = len ∧ len ≤ cap ∧ len * 40 ≤ 140737488351232 := by
  obtain ⟨fuel, hf⟩ := h
  rcases open_slice hu hf with ⟨hcs, _⟩ | ⟨x, l, c, m, n, D, Pl, hcs, hb, hl, hm, hmm, hx, hall⟩
  · simp [Value.cells] at hcs
    obtain ⟨rfl, rfl, rfl⟩ := hcs
    exact ⟨[], ⟨rfl, by omega, fun h => absurd h (by omega)⟩, rfl, Nat.le_refl _, by simp⟩
  · simp [Value.cells] at hcs
    obtain ⟨rfl, rfl, rfl⟩ := hcs
    have hlm : len ≤ m := by rw [hmm]; split <;> omega
    obtain ⟨hd', _⟩ := Prod.mk.inj hx
    have hw : len * 40 ≤ 140737488351232 := by
      rw [hd'] at hd
      have z := sized_slice hsz ht hd hu
      rw [bytes25] at z
      simp only [List.length_map, List.length_range] at z
      refine Nat.le_trans ?_ z
      exact Nat.mul_le_mul_right _ (by omega)
    have each : ∀ i, i < len → ∃ y : MS.S25, ∀ q u, ([.int .i64 y.f0, .int .i64 y.f1.f0, .int .i64 y.f1.f1, .int .i64 y.f2, .bool y.f3] : List Value)[q]? = some u → W.cell? (x.add (i * 5 + q)) = some u := by
      intro i hi
      obtain ⟨cs', h1, h2⟩ := hall i (by omega)
      rw [cells25] at h1
      obtain ⟨k, c', x', v', g, rfl, _, _⟩ := trod_item h2
      refine ⟨⟨k, ⟨c', x'⟩, v', g⟩, ?_⟩
      obtain ⟨_, _, hc⟩ := World.cells?_some h1
      intro q u hu'
      have hq : q < 5 := (List.getElem?_eq_some_iff.1 hu').1
      have := (hc q hq).trans hu'
      rw [show x.add (i * 5 + q) = (x.add (i * 5)).add q from (Addr.add_add x (i * 5) q).symm]
      exact this
    obtain ⟨f, hfun⟩ : ∃ f : Nat → MS.S25, ∀ i, i < len → ∀ q u, ([.int .i64 (f i).f0, .int .i64 (f i).f1.f0, .int .i64 (f i).f1.f1, .int .i64 (f i).f2, .bool (f i).f3] : List Value)[q]? = some u → W.cell? (x.add (i * 5 + q)) = some u := by
      refine ⟨fun i => if h : i < len then (each i h).choose else MS.z25, fun i hi => ?_⟩
      simp only [dif_pos hi]
      exact (each i hi).choose_spec
    refine ⟨(List.range len).map f, ⟨by simp, ?_, fun _ => ⟨x, rfl, fun i y hy => ?_⟩⟩, by simp, hl, hw⟩
    · unfold maxLen at hm; omega
    · have hi : i < len := by
        rcases Nat.lt_or_ge i len with h | h
        · exact h
        · rw [List.getElem?_eq_none (by simpa using h)] at hy; cases hy
      rw [List.getElem?_map, List.getElem?_range hi] at hy
      obtain rfl := Option.some.inj hy
      exact ⟨_, rfl, MS.k25_mk W (f i), hfun i hi⟩
end Go.Proofs.Ytklaiaididkiiaa.Open
