/- Words and lemmas that the claim's proof names, part 17: what the program's functions answer, at the inputs that each theorem's premises name. Conditions: each theorem's own premises. -/
import Derived.Test.YtljipbmmgcccnaaGreatKS16
import Derived.Test.YtljipbmmgcccnaaGreatRows
import Derived.ProofKit
import Derived.OpenShut
import Derived.Lib.SmallJoins
import Derived.SizedLaws
import Derived.Deep.Slices
section
namespace Go.Proofs.YtljipbmmgcccnaaGreat.T
open Go.ChangeShapes Go.WideShapes Go.ChangeAt Go.Joins Go.Deep Go.RowKit Go.Proofs.YtljipbmmgcccnaaGreatW.PrintWords Go.Proofs.YtljipbmmgcccnaaGreatW.PrintLast Go.Proofs.YtljipbmmgcccnaaGreatW.PrintMore
attribute [local go_sem] cell_tc frozen_tc max2_int min2_int
attribute [local go_sem ↓] Go.wp_at_zero Go.wp_at_succ
set_option linter.unusedVariables false
set_option linter.unusedSimpArgs false
set_option synthInstance.maxHeartbeats 400000
set_option synthInstance.maxSize 512
set_option maxRecDepth 100000
theorem laidOut : laidOutB Tryz.prog = true := by kernel_rfl
theorem cells25 : Tryz.prog.cellsOf 25 = 3 := by kernel_rfl
theorem cells22 : Tryz.prog.cellsOf 22 = 1 := by kernel_rfl
theorem cells23 : Tryz.prog.cellsOf 23 = 1 := by kernel_rfl
theorem cells98 : Tryz.prog.cellsOf 98 = 2 := by kernel_rfl
theorem cells3 : Tryz.prog.cellsOf 3 = 1 := by kernel_rfl
theorem cells4 : Tryz.prog.cellsOf 4 = 1 := by kernel_rfl
theorem cells46 : Tryz.prog.cellsOf 46 = 2 := by kernel_rfl
theorem cells48 : Tryz.prog.cellsOf 48 = 5 := by kernel_rfl
theorem cells77 : Tryz.prog.cellsOf 77 = 3 := by kernel_rfl
theorem cells37 : Tryz.prog.cellsOf 37 = 1 := by kernel_rfl
theorem cells38 : Tryz.prog.cellsOf 38 = 1 := by kernel_rfl
theorem cells40 : Tryz.prog.cellsOf 40 = 6 := by kernel_rfl
theorem array3 {α : Type} {a : Array α} (h : a.size = 3) : ∃ x y z, a = #[x, y, z] := by
  obtain ⟨l⟩ := a
  match l, h with
  | [x, y, z], _ => exact ⟨x, y, z, rfl⟩
def Opn {α : Type} (k : Kd α) (T : TypeId) : Prop := ∀ {H : Type} {enc : TypeId × Value → H} {W : World} {base : Nat} {spare : Nat → Bool} {held : Bool} {n : Nat} {cs : List Value} {y : DataW H × List MemPlace},
  DataW.trod enc Tryz.prog W base spare held n T cs = some y → ∃ x : α, k.K W x cs
theorem opn3 : Opn kI 3 := by
  intro H enc W base spare held n cs y h
  obtain ⟨k, e0, _, _⟩ := DataW.trod_int Tryz.underlying3 h
  exact ⟨k, e0⟩
theorem opn98 : Opn k98 98 := by
  intro H enc W base spare held n cs y h
  obtain ⟨y0, y1, m, hx, hl, h0, h1⟩ := trod_struct2 Tryz.underlying98 h
  rw [cells98] at hl
  match cs, hl with
  | [c0, c1], _ =>
    simp only [cells3, List.drop, List.take] at h0 h1
    obtain ⟨a, e0, _, _⟩ := DataW.trod_int Tryz.underlying3 h0
    obtain ⟨b, e1, _, _⟩ := DataW.trod_int Tryz.underlying3 h1
    simp only [List.cons.injEq, and_true] at e0 e1
    subst e0 e1
    exact ⟨⟨a, b⟩, k98_mk W ⟨a, b⟩⟩
theorem opn48 : Opn k48 48 := by
  intro H enc W base spare held n cs y h
  obtain ⟨y0, y1, y2, y3, m, hx, hl, h0, h1, h2, h3⟩ := trod_struct4 Tryz.underlying48 h
  rw [cells48] at hl
  match cs, hl with
  | [c0, c1, c2, c3, c4], _ =>
    simp only [cells3, cells4, cells46, List.drop, List.take] at h0 h1 h2 h3
    obtain ⟨k, e0, _, _⟩ := DataW.trod_int Tryz.underlying3 h0
    obtain ⟨v', e2, _, _⟩ := DataW.trod_int Tryz.underlying3 h2
    obtain ⟨g, e3, _⟩ := DataW.trod_bool Tryz.underlying4 h3
    obtain ⟨z0, z1, m', _, _, g0, g1⟩ := trod_struct2 Tryz.underlying46 h1
    simp only [cells3, List.drop, List.take] at g0 g1
    obtain ⟨c, f0, _, _⟩ := DataW.trod_int Tryz.underlying3 g0
    obtain ⟨x, f1, _, _⟩ := DataW.trod_int Tryz.underlying3 g1
    simp only [List.cons.injEq, and_true] at e0 e2 e3 f0 f1
    subst e0 e2 e3 f0 f1
    exact ⟨⟨k, ⟨c, x⟩, v', g⟩, k48_mk W ⟨k, ⟨c, x⟩, v', g⟩⟩
theorem opn77 : Opn k77 77 := by
  intro H enc W base spare held n cs y h
  obtain ⟨y0, y1, y2, m, hx, hl, h0, h1, h2⟩ := trod_struct3 Tryz.underlying77 h
  rw [cells77] at hl
  match cs, hl with
  | [c0, c1, c2], _ =>
    simp only [cells3, cells4, List.drop, List.take] at h0 h1 h2
    obtain ⟨k, e0, _, _⟩ := DataW.trod_int Tryz.underlying3 h0
    obtain ⟨g, e1, _⟩ := DataW.trod_bool Tryz.underlying4 h1
    obtain ⟨v', e2, _, _⟩ := DataW.trod_int Tryz.underlying3 h2
    simp only [List.cons.injEq, and_true] at e0 e1 e2
    subst e0 e1 e2
    exact ⟨⟨k, g, v'⟩, k77_mk W ⟨k, g, v'⟩⟩
theorem open_sl {α : Type} {k : Kd α} {e T : TypeId} (hu : Tryz.prog.underlying T = some (.slice e)) (hs : Tryz.prog.cellsOf e = k.sz) (ho : Opn k e) (z : α)
    {H : Type} {enc : TypeId × Value → H} {W : World} {base : Nat} {spare : Nat → Bool} {held : Bool} {n : Nat} {cs : List Value} {y : DataW H × List MemPlace}
    (h : DataW.trod enc Tryz.prog W base spare held n T cs = some y) :
    ∃ A len cap xs, cs = [.slice A len cap] ∧ Sr k W A len cap xs := by
  rcases open_slice hu h with ⟨rfl, _⟩ | ⟨x, l, c, m, q, D, Pl, rfl, hb, hl, hm, hmm, hx, hall⟩
  · exact ⟨none, 0, 0, [], rfl, ⟨rfl, Nat.le_refl _, ⟨rfl, by omega, fun h => absurd h (by omega)⟩⟩⟩
  · have hlm : l ≤ m := by rw [hmm]; split <;> omega
    have each : ∀ i, i < l → ∃ (y : α) (cs' : List Value), k.K W y cs' ∧ ∀ q u, cs'[q]? = some u → W.cell? (x.add (i * k.sz + q)) = some u := by
      intro i hi
      obtain ⟨cs', h1, h2⟩ := hall i (by omega)
      rw [hs] at h1
      obtain ⟨y, hy⟩ := ho h2
      refine ⟨y, cs', hy, fun q u hu' => ?_⟩
      obtain ⟨_, _, hc⟩ := World.cells?_some h1
      have hq : q < k.sz := by
        have := (List.getElem?_eq_some_iff.1 hu').1
        rwa [k.K_len hy] at this
      have := (hc q hq).trans hu'
      rw [show x.add (i * k.sz + q) = (x.add (i * k.sz)).add q from (Addr.add_add x (i * k.sz) q).symm]
      exact this
    obtain ⟨f, hfun⟩ : ∃ f : Nat → α, ∀ i, i < l → ∃ cs' : List Value, k.K W (f i) cs' ∧ ∀ q u, cs'[q]? = some u → W.cell? (x.add (i * k.sz + q)) = some u := by
      refine ⟨fun i => if h : i < l then (each i h).choose else z, fun i hi => ?_⟩
      simp only [dif_pos hi]
      exact (each i hi).choose_spec
    refine ⟨some x, l, c, (List.range l).map f, rfl, ⟨by simp, hl, ⟨by simp, ?_, fun _ => ⟨x, rfl, fun i y hy => ?_⟩⟩⟩⟩
    · unfold maxLen at hm; omega
    · have hi : i < l := by
        rcases Nat.lt_or_ge i l with h | h
        · exact h
        · rw [List.getElem?_eq_none (by simpa using h)] at hy; cases hy
      rw [List.getElem?_map, List.getElem?_range hi] at hy
      obtain rfl := Option.some.inj hy
      obtain ⟨cs', hk, hcell⟩ := hfun i hi
      exact ⟨cs', k.K_len hk, hk, hcell⟩
end Go.Proofs.YtljipbmmgcccnaaGreat.T
end
section
namespace Go.Proofs.YtljipbmmgcccnaaGreat.T
open Go.ChangeShapes Go.WideShapes Go.ChangeAt Go.Joins Go.Deep Go.RowKit Go.Proofs.YtljipbmmgcccnaaGreatW.PrintWords Go.Proofs.YtljipbmmgcccnaaGreatW.PrintLast Go.Proofs.YtljipbmmgcccnaaGreatW.PrintMore
set_option linter.unusedVariables false
set_option linter.unusedSimpArgs false
set_option maxRecDepth 100000
theorem cells57 : Tryz.prog.cellsOf 57 = 1 := by kernel_rfl
theorem cells58 : Tryz.prog.cellsOf 58 = 1 := by kernel_rfl
theorem cells59 : Tryz.prog.cellsOf 59 = 1 := by kernel_rfl
theorem cells61 : Tryz.prog.cellsOf 61 = 3 := by kernel_rfl
theorem cells126 : Tryz.prog.cellsOf 126 = 11 := by kernel_rfl
theorem cells157 : Tryz.prog.cellsOf 157 = 2 := by kernel_rfl
def Fits (l : List Nat) : Prop := ∀ q ∈ l, q ≤ reachBytes
theorem Fits.left {a b : List Nat} (h : Fits (a ++ b)) : Fits a := fun q hq => h q (List.mem_append_left _ hq)
theorem Fits.right {a b : List Nat} (h : Fits (a ++ b)) : Fits b := fun q hq => h q (List.mem_append_right _ hq)
theorem opn126 : Opn k126 126 := by
  intro H enc W base spare held n cs y h
  obtain ⟨xs, m, _, hx, hl, hlen, hf⟩ := DataW.trod_struct Tryz.underlying126 h
  rw [cells126] at hl
  match xs, hlen, cs, hl with
  | [y0, y1, y2, y3, y4, y5, y6], _, [c0, c1, c2, c3, c4, c5, c6, c7, c8, c9, c10], _ =>
    have h0 := hf 0 _ rfl
    have h1 := hf 1 _ rfl
    have h2 := hf 2 _ rfl
    have h3 := hf 3 _ rfl
    have h4 := hf 4 _ rfl
    have h5 := hf 5 _ rfl
    have h6 := hf 6 _ rfl
    have h0 : DataW.trod enc Tryz.prog W base spare held m 3 [c0] = some y0 := h0
    have h1 : DataW.trod enc Tryz.prog W base spare held m 3 [c1] = some y1 := h1
    have h2 : DataW.trod enc Tryz.prog W base spare held m 3 [c2] = some y2 := h2
    have h3 : DataW.trod enc Tryz.prog W base spare held m 23 [c3] = some y3 := h3
    have h4 : DataW.trod enc Tryz.prog W base spare held m 3 [c4] = some y4 := h4
    have h5 : DataW.trod enc Tryz.prog W base spare held m 48 [c5, c6, c7, c8, c9] = some y5 := h5
    have h6 : DataW.trod enc Tryz.prog W base spare held m 4 [c10] = some y6 := h6
    obtain ⟨a0, e0, _, _⟩ := DataW.trod_int Tryz.underlying3 h0
    obtain ⟨a1, e1, _, _⟩ := DataW.trod_int Tryz.underlying3 h1
    obtain ⟨a2, e2, _, _⟩ := DataW.trod_int Tryz.underlying3 h2
    obtain ⟨A3, n3, c3', ids, e3, s3⟩ := open_sl Tryz.underlying23 cells3 opn3 0 h3
    obtain ⟨a4, e4, _, _⟩ := DataW.trod_int Tryz.underlying3 h4
    obtain ⟨i5, hi5⟩ := opn48 h5
    have e5 := k48_open hi5
    obtain ⟨a6, e6, _⟩ := DataW.trod_bool Tryz.underlying4 h6
    simp only [List.cons.injEq, and_true] at e0 e1 e2 e3 e4 e5 e6
    obtain ⟨rfl, rfl, rfl, rfl, rfl⟩ := e5
    subst e0 e1 e2 e3 e4 e6
    obtain rfl := s3.len
    exact ⟨⟨a0, a1, a2, ids, a4, i5, a6⟩, k126_mk W ⟨a0, a1, a2, ids, a4, i5, a6⟩ s3.le s3.C⟩
theorem opn157 : Opn k157 157 := by
  intro H enc W base spare held n cs y h
  obtain ⟨y0, y1, m, hx, hl, h0, h1⟩ := trod_struct2 Tryz.underlying157 h
  rw [cells157] at hl
  match cs, hl with
  | [c0, c1], _ =>
    simp only [cells3, List.drop, List.take] at h0 h1
    obtain ⟨a, e0, _, _⟩ := DataW.trod_int Tryz.underlying3 h0
    obtain ⟨b, e1, _, _⟩ := DataW.trod_int Tryz.underlying3 h1
    simp only [List.cons.injEq, and_true] at e0 e1
    subst e0 e1
    exact ⟨⟨a, b⟩, k157_mk W ⟨a, b⟩⟩
end Go.Proofs.YtljipbmmgcccnaaGreat.T
end
section
namespace Go.Proofs.YtljipbmmgcccnaaGreat.T
open Go.ChangeShapes Go.WideShapes Go.ChangeAt Go.Joins Go.Deep Go.RowKit Go.Proofs.YtljipbmmgcccnaaGreatW.PrintWords Go.Proofs.YtljipbmmgcccnaaGreatW.PrintLast Go.Proofs.YtljipbmmgcccnaaGreatW.PrintMore
set_option linter.unusedVariables false
set_option linter.unusedSimpArgs false
set_option maxRecDepth 100000
theorem bulk_one {H : Type} (d : DataW H) : 1 ≤ Rows.uptoBulk d := by
  cases d with
  | lit l => cases l <;> simp [Rows.uptoBulk]
  | _ => simp [Rows.uptoBulk]
theorem bulk_len {H : Type} (l : List (DataW H)) : l.length ≤ Rows.uptoBulkAll l := by
  induction l with
  | nil => simp [Rows.uptoBulkAll]
  | cons x r ih => have := bulk_one x; simp only [Rows.uptoBulkAll, List.length_cons]; omega
theorem bulk_sum {H α : Type} {B : α → Nat} {f : Nat → α} {D : Nat → DataW H} : ∀ {l : List Nat}, (∀ i ∈ l, B (f i) ≤ Rows.uptoBulk (D i)) → ((l.map f).map B).sum ≤ Rows.uptoBulkAll (l.map D)
  | [], _ => by simp [Rows.uptoBulkAll]
  | i :: l, h => by
    have h1 := h i (List.mem_cons_self ..)
    have h2 := bulk_sum (l := l) (fun j hj => h j (List.mem_cons_of_mem _ hj))
    simp only [List.map_cons, List.sum_cons, Rows.uptoBulkAll]
    omega
def Opb {α : Type} (k : Kd α) (T : TypeId) (B : α → Nat) : Prop := ∀ {H : Type} {enc : TypeId × Value → H} {W : World} {base : Nat} {spare : Nat → Bool} {held : Bool} {n : Nat} {cs : List Value} {y : DataW H × List MemPlace},
  DataW.trod enc Tryz.prog W base spare held n T cs = some y → ∃ x : α, k.K W x cs ∧ B x ≤ Rows.uptoBulk y.1
theorem opb_of {α : Type} {k : Kd α} {T : TypeId} (h : Opn k T) : Opb k T fun _ => 0 := fun hy => by
  obtain ⟨x, hx⟩ := h hy
  exact ⟨x, hx, Nat.zero_le _⟩
theorem open_slb {α : Type} {k : Kd α} {B : α → Nat} {e T : TypeId} (hu : Tryz.prog.underlying T = some (.slice e)) (hs : Tryz.prog.cellsOf e = k.sz) (ho : Opb k e B) (z : α)
    {H : Type} {enc : TypeId × Value → H} {W : World} {base : Nat} {spare : Nat → Bool} {held : Bool} {n : Nat} {cs : List Value} {y : DataW H × List MemPlace}
    (h : DataW.trod enc Tryz.prog W base spare held n T cs = some y) :
    ∃ A len cap xs, cs = [.slice A len cap] ∧ Sr k W A len cap xs ∧ len ≤ Rows.uptoBulk y.1 ∧ (xs.map B).sum ≤ Rows.uptoBulk y.1 := by
  rcases open_slice hu h with ⟨rfl, _⟩ | ⟨x, l, c, m, q, D, Pl, rfl, hb, hl, hm, hmm, hx, hall⟩
  · exact ⟨none, 0, 0, [], rfl, ⟨rfl, Nat.le_refl _, ⟨rfl, by omega, fun h => absurd h (by omega)⟩⟩, Nat.zero_le _, by simp⟩
  · have hlm : l ≤ m := by rw [hmm]; split <;> omega
    have each : ∀ i, i < l → ∃ (y : α), B y ≤ Rows.uptoBulk (D i) ∧ ∃ (cs' : List Value), k.K W y cs' ∧ ∀ q u, cs'[q]? = some u → W.cell? (x.add (i * k.sz + q)) = some u := by
      intro i hi
      obtain ⟨cs', h1, h2⟩ := hall i (by omega)
      rw [hs] at h1
      obtain ⟨y, hy, hg⟩ := ho h2
      refine ⟨y, hg, cs', hy, fun q u hu' => ?_⟩
      obtain ⟨_, _, hc⟩ := World.cells?_some h1
      have hq : q < k.sz := by
        have := (List.getElem?_eq_some_iff.1 hu').1
        rwa [k.K_len hy] at this
      have := (hc q hq).trans hu'
      rw [show x.add (i * k.sz + q) = (x.add (i * k.sz)).add q from (Addr.add_add x (i * k.sz) q).symm]
      exact this
    obtain ⟨f, hfun⟩ : ∃ f : Nat → α, ∀ i, i < l → B (f i) ≤ Rows.uptoBulk (D i) ∧ ∃ cs' : List Value, k.K W (f i) cs' ∧ ∀ q u, cs'[q]? = some u → W.cell? (x.add (i * k.sz + q)) = some u := by
      refine ⟨fun i => if h : i < l then (each i h).choose else z, fun i hi => ?_⟩
      simp only [dif_pos hi]
      exact (each i hi).choose_spec
    have hbk : Rows.uptoBulkAll ((List.range l).map D) ≤ Rows.uptoBulk y.1 := by
      rw [hx]
      simp only [Rows.uptoBulk]
      omega
    refine ⟨some x, l, c, (List.range l).map f, rfl, ⟨by simp, hl, ⟨by simp, ?_, fun _ => ⟨x, rfl, fun i y hy => ?_⟩⟩⟩, ?_, ?_⟩
    · unfold maxLen at hm; omega
    · have hi : i < l := by
        rcases Nat.lt_or_ge i l with h | h
        · exact h
        · rw [List.getElem?_eq_none (by simpa using h)] at hy; cases hy
      rw [List.getElem?_map, List.getElem?_range hi] at hy
      obtain rfl := Option.some.inj hy
      obtain ⟨_, cs', hk, hcell⟩ := hfun i hi
      exact ⟨cs', k.K_len hk, hk, hcell⟩
    · have := bulk_len ((List.range l).map D)
      rw [List.length_map, List.length_range] at this
      omega
    · exact Nat.le_trans (bulk_sum fun i hi => (hfun i (List.mem_range.1 hi)).1) hbk
def bulkV (v : S25) : Nat := v.f1.length + v.f2.length
def bulkN (x : S40) : Nat := bulkV x.f1 + 3 * x.f2.length + x.f3.length
theorem sum_three {α : Type} (l : List α) : (l.map fun _ => 3).sum = 3 * l.length := by
  induction l with
  | nil => rfl
  | cons x r ih => simp only [List.map_cons, List.sum_cons, List.length_cons, ih]; omega
theorem opb48 : Opb k48 48 (fun _ => 3) := by
  intro H enc W base spare held n cs y h
  obtain ⟨x, hx⟩ := opn48 h
  obtain ⟨y0, y1, y2, y3, m, hy, _⟩ := trod_struct4 Tryz.underlying48 h
  refine ⟨x, hx, ?_⟩
  rw [hy]
  have := bulk_one y0.1
  have := bulk_one y1.1
  simp only [Rows.uptoBulk, Rows.uptoBulkAll]
  omega
theorem opb126 : Opb k126 126 (fun _ => 3) := by
  intro H enc W base spare held n cs y h
  obtain ⟨x, hx⟩ := opn126 h
  obtain ⟨xs, m, _, hy, hl, hlen, hf⟩ := DataW.trod_struct Tryz.underlying126 h
  refine ⟨x, hx, ?_⟩
  rw [hy]
  match xs, hlen with
  | [y0, y1, y2, y3, y4, y5, y6], _ =>
    have := bulk_one y0.1
    have := bulk_one y1.1
    simp only [Rows.uptoBulk, Rows.uptoBulkAll, List.map_cons, List.map_nil]
    omega
theorem opb25 : Opb k25 25 bulkV := by
  intro H enc W base spare held n cs y h
  obtain ⟨y0, y1, y2, m, hx, hl, h0, h1, h2⟩ := trod_struct3 Tryz.underlying25 h
  rw [cells25] at hl
  rw [hx]
  match cs, hl with
  | [c0, c1, c2], _ =>
    simp only [cells3, cells22, cells23, List.drop, List.take] at h0 h1 h2
    obtain ⟨id, e0, _, _⟩ := DataW.trod_int Tryz.underlying3 h0
    obtain ⟨A, n, c, ps, e1, s1, b1, _⟩ := open_slb Tryz.underlying22 cells98 (opb_of opn98) z98 h1
    obtain ⟨B, m, e, xs, e2, s2, b2, _⟩ := open_slb Tryz.underlying23 cells3 (opb_of opn3) 0 h2
    simp only [List.cons.injEq, and_true] at e0 e1 e2
    subst e0 e1 e2
    obtain rfl := s1.len
    obtain rfl := s2.len
    refine ⟨⟨id, ps, xs⟩, k25_mk W ⟨id, ps, xs⟩ s1.le s1.C s2.le s2.C, ?_⟩
    simp only [Rows.uptoBulk, Rows.uptoBulkAll, bulkV]
    omega
theorem opb40 : Opb k40 40 bulkN := by
  intro H enc W base spare held n cs y h
  obtain ⟨y0, y1, y2, y3, m, hx, hl, h0, h1, h2, h3⟩ := trod_struct4 Tryz.underlying40 h
  rw [cells40] at hl
  rw [hx]
  match cs, hl with
  | [c0, c1, c2, c3, c4, c5], _ =>
    simp only [cells4, cells25, cells37, cells38, List.drop, List.take] at h0 h1 h2 h3
    obtain ⟨up, e0, _⟩ := DataW.trod_bool Tryz.underlying4 h0
    obtain ⟨v, hv, g1⟩ := opb25 h1
    obtain ⟨A1, d1, A2, d2, e1, l1, q1, l2, q2⟩ := k25_open hv
    obtain ⟨I, ni, ci, is, e2, s2, _, b2⟩ := open_slb Tryz.underlying37 cells48 opb48 z48 h2
    rw [sum_three] at b2
    obtain ⟨L, nl, cl, ls, e3, s3, b3, _⟩ := open_slb Tryz.underlying38 cells77 (opb_of opn77) z77 h3
    simp only [List.cons.injEq, and_true] at e0 e1 e2 e3
    obtain ⟨rfl, rfl, rfl⟩ := e1
    subst e0 e2 e3
    obtain rfl := s2.len
    obtain rfl := s3.len
    refine ⟨⟨up, v, is, ls⟩, k40_mk W ⟨up, v, is, ls⟩ l1 q1 l2 q2 s2.le s2.C s3.le s3.C, ?_⟩
    simp only [Rows.uptoBulk, Rows.uptoBulkAll, bulkN]
    omega
theorem sum_each {ns : List S40} {x : S40} (h : x ∈ ns) : bulkN x ≤ (ns.map bulkN).sum := by
  induction ns with
  | nil => cases h
  | cons y r ih =>
    simp only [List.map_cons, List.sum_cons]
    rcases List.mem_cons.1 h with rfl | h
    · omega
    · have := ih h; omega
theorem items_sum (ns : List S40) : 3 * (itemsN ns).length ≤ (ns.map bulkN).sum := by
  induction ns with
  | nil => simp [itemsN]
  | cons y r ih =>
    unfold itemsN at ih ⊢
    simp only [List.flatMap_cons, List.length_append, List.map_cons, List.sum_cons]
    have hb : 3 * y.f2.length ≤ bulkN y := by unfold bulkN; omega
    omega
theorem open_bulk {H : Type} {enc : TypeId × Value → H} {w : World} {r : _root_.Go.Reach} {b0 base : Nat} {spare : Nat → Bool} {held : Bool} {v : Value} {d : DataW H} {p : List MemPlace}
    (hv : Value.okWide Tryz.prog w r b0 61 v) (h : DataW.Trod enc Tryz.prog w base spare held 61 v d p) (hw : Rows.uptoBulk d ≤ 1048576) :
    ∃ (A : Option Addr) (n c : Nat) (ns : List S40) (B : Option Addr) (m e : Nat) (C : Option Addr) (k f : Nat) (ps : List S126), v = .agg #[.slice A n c, .slice B m e, .slice C k f] ∧ Sr k40 w A n c ns ∧ Sr k126 w C k f ps ∧ nodesFit ns ∧ (itemsN ns).length + k ≤ 500000 := by
  obtain ⟨cs, rfl, hsz⟩ := okWide_struct Tryz.underlying61 hv
  obtain ⟨fuel, hf⟩ := h
  obtain ⟨y0, y1, y2, m, hx, hl, h0, h1, h2⟩ := trod_struct3 Tryz.underlying61 hf
  obtain ⟨c0, c1, c2, rfl⟩ := array3 (hsz.trans cells61)
  have hx1 : d = .agg [y0.1, y1.1, y2.1] := congrArg Prod.fst hx
  rw [hx1] at hw
  simp only [Rows.uptoBulk, Rows.uptoBulkAll] at hw
  simp only [Value.cells, cells57, cells58, cells59, List.drop, List.take] at h0 h1 h2
  obtain ⟨A, n, c, ns, e0, s0, b0, g0⟩ := open_slb Tryz.underlying57 cells40 opb40 z40 h0
  obtain ⟨B, m, e, xs, e1, s1⟩ := open_sl Tryz.underlying58 cells157 opn157 z157 h1
  obtain ⟨C, k, f, ps, e2, s2, _, b2⟩ := open_slb Tryz.underlying59 cells126 opb126 z126 h2
  rw [sum_three, s2.len] at b2
  simp only [List.cons.injEq, and_true] at e0 e1 e2
  subst e0 e1 e2
  refine ⟨A, n, c, ns, B, m, e, C, k, f, ps, rfl, s0, s2, fun x hx => ?_, ?_⟩
  · have h1 := sum_each hx
    have h3 : bulkN x ≤ 1048576 := by omega
    clear h1
    unfold bulkN bulkV at h3
    unfold nodeSz
    omega
  · have := items_sum ns
    omega
end Go.Proofs.YtljipbmmgcccnaaGreat.T
end
