/- Words and lemmas that the claim's proof names, part 17: what the program's functions answer, at the inputs that each theorem's premises name. Conditions: each theorem's own premises. -/
import Derived.Test.YtljipbmmgcccnaaGreatKL16
import Derived.Test.YtljipbmmgcccnaaGreatRows
import Derived.ProofKit
import Derived.OpenShut
import Derived.Lib.SmallJoins
import Derived.SizedLaws
import Derived.Deep.Slices
section
namespace Go.Proofs.YtljipbmmgcccnaaGreat.T
open Go.ChangeShapes Go.WideShapes Go.ChangeAt Go.Joins Go.Deep Go.RowKit Go.Proofs.YtljipbmmgcccnaaGreatW.PrintWords Go.Proofs.YtljipbmmgcccnaaGreatW.PrintLast Go.Proofs.YtljipbmmgcccnaaGreatW.PrintMore
attribute [local go_sem] cell_tc frozen_tc max2_int min2_int
attribute [local go_sem ↓] Go.wp_at_zero Go.wp_at_succ
set_option linter.unusedVariables false
set_option linter.unusedSimpArgs false
set_option synthInstance.maxHeartbeats 400000
set_option synthInstance.maxSize 512
set_option maxRecDepth 100000
theorem laidOut : laidOutB Tryz.prog = true := by kernel_rfl
theorem cells25 : Tryz.prog.cellsOf 25 = 3 := by kernel_rfl
theorem cells22 : Tryz.prog.cellsOf 22 = 1 := by kernel_rfl
theorem cells23 : Tryz.prog.cellsOf 23 = 1 := by kernel_rfl
theorem cells98 : Tryz.prog.cellsOf 98 = 2 := by kernel_rfl
theorem cells3 : Tryz.prog.cellsOf 3 = 1 := by kernel_rfl
theorem cells4 : Tryz.prog.cellsOf 4 = 1 := by kernel_rfl
theorem cells46 : Tryz.prog.cellsOf 46 = 2 := by kernel_rfl
theorem cells48 : Tryz.prog.cellsOf 48 = 5 := by kernel_rfl
theorem cells77 : Tryz.prog.cellsOf 77 = 3 := by kernel_rfl
theorem cells37 : Tryz.prog.cellsOf 37 = 1 := by kernel_rfl
theorem cells38 : Tryz.prog.cellsOf 38 = 1 := by kernel_rfl
theorem cells40 : Tryz.prog.cellsOf 40 = 6 := by kernel_rfl
theorem array3 {α : Type} {a : Array α} (h : a.size = 3) : ∃ x y z, a = #[x, y, z] := by
  obtain ⟨l⟩ := a
  match l, h with
  | [x, y, z], _ => exact ⟨x, y, z, rfl⟩
def Opn {α : Type} (k : Kd α) (T : TypeId) : Prop := ∀ {H : Type} {enc : TypeId × Value → H} {W : World} {base : Nat} {spare : Nat → Bool} {held : Bool} {n : Nat} {cs : List Value} {y : DataW H × List MemPlace},
  DataW.trod enc Tryz.prog W base spare held n T cs = some y → ∃ x : α, k.K W x cs
theorem opn3 : Opn kI 3 := by
  intro H enc W base spare held n cs y h
  obtain ⟨k, e0, _, _⟩ := DataW.trod_int Tryz.underlying3 h
  exact ⟨k, e0⟩
theorem opn98 : Opn k98 98 := by
  intro H enc W base spare held n cs y h
  obtain ⟨y0, y1, m, hx, hl, h0, h1⟩ := trod_struct2 Tryz.underlying98 h
  rw [cells98] at hl
  match cs, hl with
  | [c0, c1], _ =>
    simp only [cells3, List.drop, List.take] at h0 h1
    obtain ⟨a, e0, _, _⟩ := DataW.trod_int Tryz.underlying3 h0
    obtain ⟨b, e1, _, _⟩ := DataW.trod_int Tryz.underlying3 h1
    simp only [List.cons.injEq, and_true] at e0 e1
    subst e0 e1
    exact ⟨⟨a, b⟩, k98_mk W ⟨a, b⟩⟩
theorem opn48 : Opn k48 48 := by
  intro H enc W base spare held n cs y h
  obtain ⟨y0, y1, y2, y3, m, hx, hl, h0, h1, h2, h3⟩ := trod_struct4 Tryz.underlying48 h
  rw [cells48] at hl
  match cs, hl with
  | [c0, c1, c2, c3, c4], _ =>
    simp only [cells3, cells4, cells46, List.drop, List.take] at h0 h1 h2 h3
    obtain ⟨k, e0, _, _⟩ := DataW.trod_int Tryz.underlying3 h0
    obtain ⟨v', e2, _, _⟩ := DataW.trod_int Tryz.underlying3 h2
    obtain ⟨g, e3, _⟩ := DataW.trod_bool Tryz.underlying4 h3
    obtain ⟨z0, z1, m', _, _, g0, g1⟩ := trod_struct2 Tryz.underlying46 h1
    simp only [cells3, List.drop, List.take] at g0 g1
    obtain ⟨c, f0, _, _⟩ := DataW.trod_int Tryz.underlying3 g0
    obtain ⟨x, f1, _, _⟩ := DataW.trod_int Tryz.underlying3 g1
    simp only [List.cons.injEq, and_true] at e0 e2 e3 f0 f1
    subst e0 e2 e3 f0 f1
    exact ⟨⟨k, ⟨c, x⟩, v', g⟩, k48_mk W ⟨k, ⟨c, x⟩, v', g⟩⟩
theorem opn77 : Opn k77 77 := by
  intro H enc W base spare held n cs y h
  obtain ⟨y0, y1, y2, m, hx, hl, h0, h1, h2⟩ := trod_struct3 Tryz.underlying77 h
  rw [cells77] at hl
  match cs, hl with
  | [c0, c1, c2], _ =>
    simp only [cells3, cells4, List.drop, List.take] at h0 h1 h2
    obtain ⟨k, e0, _, _⟩ := DataW.trod_int Tryz.underlying3 h0
    obtain ⟨g, e1, _⟩ := DataW.trod_bool Tryz.underlying4 h1
    obtain ⟨v', e2, _, _⟩ := DataW.trod_int Tryz.underlying3 h2
    simp only [List.cons.injEq, and_true] at e0 e1 e2
    subst e0 e1 e2
    exact ⟨⟨k, g, v'⟩, k77_mk W ⟨k, g, v'⟩⟩
theorem open_sl {α : Type} {k : Kd α} {e T : TypeId} (hu : Tryz.prog.underlying T = some (.slice e)) (hs : Tryz.prog.cellsOf e = k.sz) (ho : Opn k e) (z : α)
    {H : Type} {enc : TypeId × Value → H} {W : World} {base : Nat} {spare : Nat → Bool} {held : Bool} {n : Nat} {cs : List Value} {y : DataW H × List MemPlace}
    (h : DataW.trod enc Tryz.prog W base spare held n T cs = some y) :
    ∃ A len cap xs, cs = [.slice A len cap] ∧ Sr k W A len cap xs := by
  rcases open_slice hu h with ⟨rfl, _⟩ | ⟨x, l, c, m, q, D, Pl, rfl, hb, hl, hm, hmm, hx, hall⟩
  · exact ⟨none, 0, 0, [], rfl, ⟨rfl, Nat.le_refl _, ⟨rfl, by omega, fun h => absurd h (by omega)⟩⟩⟩
  · have hlm : l ≤ m := by rw [hmm]; split <;> omega
    have each : ∀ i, i < l → ∃ (y : α) (cs' : List Value), k.K W y cs' ∧ ∀ q u, cs'[q]? = some u → W.cell? (x.add (i * k.sz + q)) = some u := by
      intro i hi
      obtain ⟨cs', h1, h2⟩ := hall i (by omega)
      rw [hs] at h1
      obtain ⟨y, hy⟩ := ho h2
      refine ⟨y, cs', hy, fun q u hu' => ?_⟩
      obtain ⟨_, _, hc⟩ := World.cells?_some h1
      have hq : q < k.sz := by
        have := (List.getElem?_eq_some_iff.1 hu').1
        rwa [k.K_len hy] at this
      have := (hc q hq).trans hu'
      rw [show x.add (i * k.sz + q) = (x.add (i * k.sz)).add q from (Addr.add_add x (i * k.sz) q).symm]
      exact this
    obtain ⟨f, hfun⟩ : ∃ f : Nat → α, ∀ i, i < l → ∃ cs' : List Value, k.K W (f i) cs' ∧ ∀ q u, cs'[q]? = some u → W.cell? (x.add (i * k.sz + q)) = some u := by
      refine ⟨fun i => if h : i < l then (each i h).choose else z, fun i hi => ?_⟩
      simp only [dif_pos hi]
      exact (each i hi).choose_spec
    refine ⟨some x, l, c, (List.range l).map f, rfl, ⟨by simp, hl, ⟨by simp, ?_, fun _ => ⟨x, rfl, fun i y hy => ?_⟩⟩⟩⟩
    · unfold maxLen at hm; omega
    · have hi : i < l := by
        rcases Nat.lt_or_ge i l with h | h
        · exact h
        · rw [List.getElem?_eq_none (by simpa using h)] at hy; cases hy
      rw [List.getElem?_map, List.getElem?_range hi] at hy
      obtain rfl := Option.some.inj hy
      obtain ⟨cs', hk, hcell⟩ := hfun i hi
      exact ⟨cs', k.K_len hk, hk, hcell⟩
end Go.Proofs.YtljipbmmgcccnaaGreat.T
end
section
namespace Go.Proofs.YtljipbmmgcccnaaGreat.T
open Go.ChangeShapes Go.WideShapes Go.ChangeAt Go.Joins Go.Deep Go.RowKit Go.Proofs.YtljipbmmgcccnaaGreatW.PrintWords Go.Proofs.YtljipbmmgcccnaaGreatW.PrintLast Go.Proofs.YtljipbmmgcccnaaGreatW.PrintMore
set_option linter.unusedVariables false
set_option linter.unusedSimpArgs false
set_option maxRecDepth 100000
theorem cells57 : Tryz.prog.cellsOf 57 = 1 := by kernel_rfl
theorem cells58 : Tryz.prog.cellsOf 58 = 1 := by kernel_rfl
theorem cells59 : Tryz.prog.cellsOf 59 = 1 := by kernel_rfl
theorem cells61 : Tryz.prog.cellsOf 61 = 3 := by kernel_rfl
theorem cells126 : Tryz.prog.cellsOf 126 = 11 := by kernel_rfl
theorem cells157 : Tryz.prog.cellsOf 157 = 2 := by kernel_rfl
theorem by40 : Tryz.prog.bytesOf 40 = 112 := by kernel_rfl
def Fits (l : List Nat) : Prop := ∀ q ∈ l, q ≤ reachBytes
theorem Fits.left {a b : List Nat} (h : Fits (a ++ b)) : Fits a := fun q hq => h q (List.mem_append_left _ hq)
theorem Fits.right {a b : List Nat} (h : Fits (a ++ b)) : Fits b := fun q hq => h q (List.mem_append_right _ hq)
theorem fits_all {H : Type} {e : TypeId} : ∀ {l : List (DataW H)}, Fits (DataW.weightsAll Tryz.prog e l) → ∀ d ∈ l, Fits (d.weights Tryz.prog e)
  | [], _, d, hd => nomatch hd
  | x :: l, h, d, hd => by
    unfold DataW.weightsAll at h
    rcases List.mem_cons.1 hd with rfl | hd
    · exact h.left
    · exact fits_all h.right d hd
def Opg {α : Type} (k : Kd α) (T : TypeId) (G : α → Prop) : Prop := ∀ {H : Type} {enc : TypeId × Value → H} {W : World} {base : Nat} {spare : Nat → Bool} {held : Bool} {n : Nat} {cs : List Value} {y : DataW H × List MemPlace},
  DataW.trod enc Tryz.prog W base spare held n T cs = some y → Fits (y.1.weights Tryz.prog T) → ∃ x : α, k.K W x cs ∧ G x
theorem opg_of {α : Type} {k : Kd α} {T : TypeId} (h : Opn k T) : Opg k T fun _ => True := fun hy _ => by
  obtain ⟨x, hx⟩ := h hy
  exact ⟨x, hx, trivial⟩
theorem open_slg {α : Type} {k : Kd α} {G : α → Prop} {e T : TypeId} (hu : Tryz.prog.underlying T = some (.slice e)) (hs : Tryz.prog.cellsOf e = k.sz) (ho : Opg k e G) (z : α)
    {H : Type} {enc : TypeId × Value → H} {W : World} {base : Nat} {spare : Nat → Bool} {held : Bool} {n : Nat} {cs : List Value} {y : DataW H × List MemPlace}
    (h : DataW.trod enc Tryz.prog W base spare held n T cs = some y) (hw : Fits (y.1.weights Tryz.prog T)) :
    ∃ A len cap xs, cs = [.slice A len cap] ∧ Sr k W A len cap xs ∧ len * Tryz.prog.bytesOf e ≤ reachBytes ∧ ∀ x ∈ xs, G x := by
  rcases open_slice hu h with ⟨rfl, _⟩ | ⟨x, l, c, m, q, D, Pl, rfl, hb, hl, hm, hmm, hx, hall⟩
  · exact ⟨none, 0, 0, [], rfl, ⟨rfl, Nat.le_refl _, ⟨rfl, by omega, fun h => absurd h (by omega)⟩⟩, by rw [Nat.zero_mul]; exact Nat.zero_le _, fun x hx => nomatch hx⟩
  · have hlm : l ≤ m := by rw [hmm]; split <;> omega
    rw [hx] at hw
    simp only [DataW.weights, hu] at hw
    have hbytes : l * Tryz.prog.bytesOf e ≤ reachBytes := by
      have h1 := hw _ (List.mem_cons_self ..)
      rw [List.length_map, List.length_range] at h1
      exact Nat.le_trans (Nat.mul_le_mul_right _ (Nat.le_add_right _ _)) h1
    have hel : ∀ i, i < l → Fits ((D i).weights Tryz.prog e) := fun i hi => by
      have h2 : Fits (DataW.weightsAll Tryz.prog e ((List.range l).map D)) := fun q hq => hw q (List.mem_cons_of_mem _ (List.mem_append_left _ hq))
      exact fits_all h2 (D i) (List.mem_map.2 ⟨i, List.mem_range.2 hi, rfl⟩)
    have each : ∀ i, i < l → ∃ (y : α), G y ∧ ∃ (cs' : List Value), k.K W y cs' ∧ ∀ q u, cs'[q]? = some u → W.cell? (x.add (i * k.sz + q)) = some u := by
      intro i hi
      obtain ⟨cs', h1, h2⟩ := hall i (by omega)
      rw [hs] at h1
      obtain ⟨y, hy, hg⟩ := ho h2 (hel i hi)
      refine ⟨y, hg, cs', hy, fun q u hu' => ?_⟩
      obtain ⟨_, _, hc⟩ := World.cells?_some h1
      have hq : q < k.sz := by
        have := (List.getElem?_eq_some_iff.1 hu').1
        rwa [k.K_len hy] at this
      have := (hc q hq).trans hu'
      rw [show x.add (i * k.sz + q) = (x.add (i * k.sz)).add q from (Addr.add_add x (i * k.sz) q).symm]
      exact this
    obtain ⟨f, hfun⟩ : ∃ f : Nat → α, ∀ i, i < l → G (f i) ∧ ∃ cs' : List Value, k.K W (f i) cs' ∧ ∀ q u, cs'[q]? = some u → W.cell? (x.add (i * k.sz + q)) = some u := by
      refine ⟨fun i => if h : i < l then (each i h).choose else z, fun i hi => ?_⟩
      simp only [dif_pos hi]
      exact (each i hi).choose_spec
    refine ⟨some x, l, c, (List.range l).map f, rfl, ⟨by simp, hl, ⟨by simp, ?_, fun _ => ⟨x, rfl, fun i y hy => ?_⟩⟩⟩, hbytes, fun y hy => ?_⟩
    · unfold maxLen at hm; omega
    · have hi : i < l := by
        rcases Nat.lt_or_ge i l with h | h
        · exact h
        · rw [List.getElem?_eq_none (by simpa using h)] at hy; cases hy
      rw [List.getElem?_map, List.getElem?_range hi] at hy
      obtain rfl := Option.some.inj hy
      obtain ⟨_, cs', hk, hcell⟩ := hfun i hi
      exact ⟨cs', k.K_len hk, hk, hcell⟩
    · obtain ⟨i, hi, rfl⟩ := List.mem_map.1 hy
      exact (hfun i (List.mem_range.1 hi)).1
def FitV (v : S25) : Prop := v.f1.length * 16 ≤ reachBytes ∧ v.f2.length * 8 ≤ reachBytes
def FitN (x : S40) : Prop := FitV x.f1 ∧ x.f2.length * 40 ≤ reachBytes ∧ x.f3.length * 24 ≤ reachBytes
theorem opg25 : Opg k25 25 FitV := by
  intro H enc W base spare held n cs y h hw
  obtain ⟨y0, y1, y2, m, hx, hl, h0, h1, h2⟩ := trod_struct3 Tryz.underlying25 h
  rw [cells25] at hl
  rw [hx] at hw
  simp only [DataW.weights, Tryz.underlying25] at hw
  have hw' : Fits (DataW.weightsEach Tryz.prog [3, 22, 23] [y0.1, y1.1, y2.1]) := hw
  simp only [DataW.weightsEach] at hw'
  match cs, hl with
  | [c0, c1, c2], _ =>
    simp only [cells3, cells22, cells23, List.drop, List.take] at h0 h1 h2
    obtain ⟨id, e0, _, _⟩ := DataW.trod_int Tryz.underlying3 h0
    obtain ⟨A, n, c, ps, e1, s1, b1, _⟩ := open_slg Tryz.underlying22 cells98 (opg_of opn98) z98 h1 hw'.right.left
    obtain ⟨B, m, e, xs, e2, s2, b2, _⟩ := open_slg Tryz.underlying23 cells3 (opg_of opn3) 0 h2 hw'.right.right.left
    simp only [List.cons.injEq, and_true] at e0 e1 e2
    subst e0 e1 e2
    obtain rfl := s1.len
    obtain rfl := s2.len
    rw [by98] at b1
    rw [by3] at b2
    exact ⟨⟨id, ps, xs⟩, k25_mk W ⟨id, ps, xs⟩ s1.le s1.C s2.le s2.C, b1, b2⟩
theorem opg40 : Opg k40 40 FitN := by
  intro H enc W base spare held n cs y h hw
  obtain ⟨y0, y1, y2, y3, m, hx, hl, h0, h1, h2, h3⟩ := trod_struct4 Tryz.underlying40 h
  rw [cells40] at hl
  rw [hx] at hw
  simp only [DataW.weights, Tryz.underlying40] at hw
  have hw' : Fits (DataW.weightsEach Tryz.prog [4, 25, 37, 38] [y0.1, y1.1, y2.1, y3.1]) := hw
  simp only [DataW.weightsEach] at hw'
  match cs, hl with
  | [c0, c1, c2, c3, c4, c5], _ =>
    simp only [cells4, cells25, cells37, cells38, List.drop, List.take] at h0 h1 h2 h3
    obtain ⟨up, e0, _⟩ := DataW.trod_bool Tryz.underlying4 h0
    obtain ⟨v, hv, g1⟩ := opg25 h1 hw'.right.left
    obtain ⟨A1, d1, A2, d2, e1, l1, q1, l2, q2⟩ := k25_open hv
    obtain ⟨I, ni, ci, is, e2, s2, b2, _⟩ := open_slg Tryz.underlying37 cells48 (opg_of opn48) z48 h2 hw'.right.right.left
    obtain ⟨L, nl, cl, ls, e3, s3, b3, _⟩ := open_slg Tryz.underlying38 cells77 (opg_of opn77) z77 h3 hw'.right.right.right.left
    simp only [List.cons.injEq, and_true] at e0 e1 e2 e3
    obtain ⟨rfl, rfl, rfl⟩ := e1
    subst e0 e2 e3
    obtain rfl := s2.len
    obtain rfl := s3.len
    rw [by48] at b2
    rw [by77] at b3
    exact ⟨⟨up, v, is, ls⟩, k40_mk W ⟨up, v, is, ls⟩ l1 q1 l2 q2 s2.le s2.C s3.le s3.C, g1, b2, b3⟩
theorem opn126 : Opn k126 126 := by
  intro H enc W base spare held n cs y h
  obtain ⟨xs, m, _, hx, hl, hlen, hf⟩ := DataW.trod_struct Tryz.underlying126 h
  rw [cells126] at hl
  match xs, hlen, cs, hl with
  | [y0, y1, y2, y3, y4, y5, y6], _, [c0, c1, c2, c3, c4, c5, c6, c7, c8, c9, c10], _ =>
    have h0 := hf 0 _ rfl
    have h1 := hf 1 _ rfl
    have h2 := hf 2 _ rfl
    have h3 := hf 3 _ rfl
    have h4 := hf 4 _ rfl
    have h5 := hf 5 _ rfl
    have h6 := hf 6 _ rfl
    have h0 : DataW.trod enc Tryz.prog W base spare held m 3 [c0] = some y0 := h0
    have h1 : DataW.trod enc Tryz.prog W base spare held m 3 [c1] = some y1 := h1
    have h2 : DataW.trod enc Tryz.prog W base spare held m 3 [c2] = some y2 := h2
    have h3 : DataW.trod enc Tryz.prog W base spare held m 23 [c3] = some y3 := h3
    have h4 : DataW.trod enc Tryz.prog W base spare held m 3 [c4] = some y4 := h4
    have h5 : DataW.trod enc Tryz.prog W base spare held m 48 [c5, c6, c7, c8, c9] = some y5 := h5
    have h6 : DataW.trod enc Tryz.prog W base spare held m 4 [c10] = some y6 := h6
    obtain ⟨a0, e0, _, _⟩ := DataW.trod_int Tryz.underlying3 h0
    obtain ⟨a1, e1, _, _⟩ := DataW.trod_int Tryz.underlying3 h1
    obtain ⟨a2, e2, _, _⟩ := DataW.trod_int Tryz.underlying3 h2
    obtain ⟨A3, n3, c3', ids, e3, s3⟩ := open_sl Tryz.underlying23 cells3 opn3 0 h3
    obtain ⟨a4, e4, _, _⟩ := DataW.trod_int Tryz.underlying3 h4
    obtain ⟨i5, hi5⟩ := opn48 h5
    have e5 := k48_open hi5
    obtain ⟨a6, e6, _⟩ := DataW.trod_bool Tryz.underlying4 h6
    simp only [List.cons.injEq, and_true] at e0 e1 e2 e3 e4 e5 e6
    obtain ⟨rfl, rfl, rfl, rfl, rfl⟩ := e5
    subst e0 e1 e2 e3 e4 e6
    obtain rfl := s3.len
    exact ⟨⟨a0, a1, a2, ids, a4, i5, a6⟩, k126_mk W ⟨a0, a1, a2, ids, a4, i5, a6⟩ s3.le s3.C⟩
theorem opn157 : Opn k157 157 := by
  intro H enc W base spare held n cs y h
  obtain ⟨y0, y1, m, hx, hl, h0, h1⟩ := trod_struct2 Tryz.underlying157 h
  rw [cells157] at hl
  match cs, hl with
  | [c0, c1], _ =>
    simp only [cells3, List.drop, List.take] at h0 h1
    obtain ⟨a, e0, _, _⟩ := DataW.trod_int Tryz.underlying3 h0
    obtain ⟨b, e1, _, _⟩ := DataW.trod_int Tryz.underlying3 h1
    simp only [List.cons.injEq, and_true] at e0 e1
    subst e0 e1
    exact ⟨⟨a, b⟩, k157_mk W ⟨a, b⟩⟩
theorem open_world {H : Type} {enc : TypeId × Value → H} {w : World} {r : _root_.Go.Reach} {b0 base : Nat} {spare : Nat → Bool} {held : Bool} {v : Value} {d : DataW H} {p : List MemPlace}
    (hv : Value.okWide Tryz.prog w r b0 61 v) (h : DataW.Trod enc Tryz.prog w base spare held 61 v d p) (hw : Fits (d.weights Tryz.prog 61)) :
    ∃ (A : Option Addr) (n c : Nat) (ns : List S40) (B : Option Addr) (m e : Nat) (C : Option Addr) (k f : Nat) (ps : List S126), v = .agg #[.slice A n c, .slice B m e, .slice C k f] ∧ Sr k40 w A n c ns ∧ Sr k126 w C k f ps ∧ nodesFit ns ∧ n * 112 ≤ reachBytes := by
  obtain ⟨cs, rfl, hsz⟩ := okWide_struct Tryz.underlying61 hv
  obtain ⟨fuel, hf⟩ := h
  obtain ⟨y0, y1, y2, m, hx, hl, h0, h1, h2⟩ := trod_struct3 Tryz.underlying61 hf
  obtain ⟨c0, c1, c2, rfl⟩ := array3 (hsz.trans cells61)
  have hx1 : d = .agg [y0.1, y1.1, y2.1] := congrArg Prod.fst hx
  rw [hx1] at hw
  simp only [DataW.weights, Tryz.underlying61] at hw
  have hw' : Fits (DataW.weightsEach Tryz.prog [57, 58, 59] [y0.1, y1.1, y2.1]) := hw
  simp only [DataW.weightsEach] at hw'
  simp only [Value.cells, cells57, cells58, cells59, List.drop, List.take] at h0 h1 h2
  obtain ⟨A, n, c, ns, e0, s0, b0, g0⟩ := open_slg Tryz.underlying57 cells40 opg40 z40 h0 hw'.left
  obtain ⟨B, m, e, xs, e1, s1⟩ := open_sl Tryz.underlying58 cells157 opn157 z157 h1
  obtain ⟨C, k, f, ps, e2, s2⟩ := open_sl Tryz.underlying59 cells126 opn126 z126 h2
  simp only [List.cons.injEq, and_true] at e0 e1 e2
  subst e0 e1 e2
  rw [by40] at b0
  refine ⟨A, n, c, ns, B, m, e, C, k, f, ps, rfl, s0, s2, fun x hx => ?_, b0⟩
  obtain ⟨⟨g1, g2⟩, g3, g4⟩ := g0 x hx
  unfold reachBytes at g1 g2 g3 g4
  unfold nodeSz
  omega
end Go.Proofs.YtljipbmmgcccnaaGreat.T
end
section
namespace Go.Proofs.YtljipbmmgcccnaaGreat.T
open Go.RowKit Go.Proofs.YtljipbmmgcccnaaGreatW.PrintWords Go.Proofs.YtljipbmmgcccnaaGreatW.PrintLast Go.Proofs.YtljipbmmgcccnaaGreatW.PrintMore
attribute [local go_sem] cell_tc frozen_tc max2_int min2_int
attribute [local go_sem ↓] Go.wp_at_zero Go.wp_at_succ
set_option linter.unusedVariables false
set_option linter.unusedSimpArgs false
set_option synthInstance.maxHeartbeats 400000
set_option synthInstance.maxSize 512
attribute [local go_sem] cell_tc2
set_option maxRecDepth 100000
open Go.ChangeShapes Go.WideShapes Go.ChangeAt Go.Joins Go.Deep
structure S69 where
  f0 : Int
  f1 : Int
  f2 : Int
  f3 : Int
  fA : Option Addr
  fn : Nat
  fc : Nat
  f5 : Int
  f6 : Int
class ActsL (W : outParam World) (A : Option Addr) (n : Nat) (l : outParam (List S69)) : Prop where
  len : l.length = n
  big : n ≤ 9223372036854775807
  at_ : ∀ (i : Nat) (h : i < l.length), ∃ ad, A = some ad ∧ W.cell? (ad.add (i * 7)) = some (.int .i64 l[i].f0) ∧ W.cell? ⟨(ad.add (i * 7)).block, (ad.add (i * 7)).off + 1, none⟩ = some (.int .i64 l[i].f1) ∧ W.cell? ⟨(ad.add (i * 7)).block, (ad.add (i * 7)).off + 2, none⟩ = some (.int .i64 l[i].f2) ∧ W.cell? ⟨(ad.add (i * 7)).block, (ad.add (i * 7)).off + 3, none⟩ = some (.int .i64 l[i].f3) ∧ W.cell? ⟨(ad.add (i * 7)).block, (ad.add (i * 7)).off + 4, none⟩ = some (.slice l[i].fA l[i].fn l[i].fc) ∧ W.cell? ⟨(ad.add (i * 7)).block, (ad.add (i * 7)).off + 5, none⟩ = some (.int .i64 l[i].f5) ∧ W.cell? ⟨(ad.add (i * 7)).block, (ad.add (i * 7)).off + 6, none⟩ = some (.int .i64 l[i].f6)
theorem act_at {W : World} {A : Option Addr} {n : Nat} {l : List S69} (h : ActsL W A n l) (i : Nat) (hi : i < l.length) : ∃ ad, A = some ad ∧ CellL W (ad.add (i * 7)) (.int .i64 l[i].f0) ∧ CellL W ⟨(ad.add (i * 7)).block, (ad.add (i * 7)).off + 1, none⟩ (.int .i64 l[i].f1) ∧ CellL W ⟨(ad.add (i * 7)).block, (ad.add (i * 7)).off + 2, none⟩ (.int .i64 l[i].f2) ∧ CellL W ⟨(ad.add (i * 7)).block, (ad.add (i * 7)).off + 3, none⟩ (.int .i64 l[i].f3) ∧ CellL W ⟨(ad.add (i * 7)).block, (ad.add (i * 7)).off + 4, none⟩ (.slice l[i].fA l[i].fn l[i].fc) ∧ CellL W ⟨(ad.add (i * 7)).block, (ad.add (i * 7)).off + 5, none⟩ (.int .i64 l[i].f5) ∧ CellL W ⟨(ad.add (i * 7)).block, (ad.add (i * 7)).off + 6, none⟩ (.int .i64 l[i].f6) := by
  obtain ⟨ad, e, a0, a1, a2, a3, a4, a5, a6⟩ := h.at_ i hi
  exact ⟨ad, e, ⟨a0⟩, ⟨a1⟩, ⟨a2⟩, ⟨a3⟩, ⟨a4⟩, ⟨a5⟩, ⟨a6⟩⟩
theorem cells69 : Tryz.prog.cellsOf 69 = 7 := by kernel_rfl
theorem opn69 {H : Type} {enc : TypeId × Value → H} {W : World} {base : Nat} {spare : Nat → Bool} {held : Bool} {n : Nat} {cs : List Value} {y : DataW H × List MemPlace}
    (h : DataW.trod enc Tryz.prog W base spare held n 69 cs = some y) : ∃ x : S69, cs = [.int .i64 x.f0, .int .i64 x.f1, .int .i64 x.f2, .int .i64 x.f3, .slice x.fA x.fn x.fc, .int .i64 x.f5, .int .i64 x.f6] := by
  obtain ⟨xs, m, _, hx, hl, hlen, hf⟩ := DataW.trod_struct Tryz.underlying69 h
  rw [cells69] at hl
  match xs, hlen, cs, hl with
  | [y0, y1, y2, y3, y4, y5, y6], _, [c0, c1, c2, c3, c4, c5, c6], _ =>
    have h0 : DataW.trod enc Tryz.prog W base spare held m 3 [c0] = some y0 := hf 0 _ rfl
    have h1 : DataW.trod enc Tryz.prog W base spare held m 3 [c1] = some y1 := hf 1 _ rfl
    have h2 : DataW.trod enc Tryz.prog W base spare held m 3 [c2] = some y2 := hf 2 _ rfl
    have h3 : DataW.trod enc Tryz.prog W base spare held m 3 [c3] = some y3 := hf 3 _ rfl
    have h4 : DataW.trod enc Tryz.prog W base spare held m 23 [c4] = some y4 := hf 4 _ rfl
    have h5 : DataW.trod enc Tryz.prog W base spare held m 3 [c5] = some y5 := hf 5 _ rfl
    have h6 : DataW.trod enc Tryz.prog W base spare held m 3 [c6] = some y6 := hf 6 _ rfl
    obtain ⟨a0, e0, _, _⟩ := DataW.trod_int Tryz.underlying3 h0
    obtain ⟨a1, e1, _, _⟩ := DataW.trod_int Tryz.underlying3 h1
    obtain ⟨a2, e2, _, _⟩ := DataW.trod_int Tryz.underlying3 h2
    obtain ⟨a3, e3, _, _⟩ := DataW.trod_int Tryz.underlying3 h3
    obtain ⟨A, n4, c4', ids, e4, _⟩ := open_sl Tryz.underlying23 cells3 opn3 0 h4
    obtain ⟨a5, e5, _, _⟩ := DataW.trod_int Tryz.underlying3 h5
    obtain ⟨a6, e6, _, _⟩ := DataW.trod_int Tryz.underlying3 h6
    simp only [List.cons.injEq, and_true] at e0 e1 e2 e3 e4 e5 e6
    subst e0 e1 e2 e3 e4 e5 e6
    exact ⟨⟨a0, a1, a2, a3, A, n4, c4', a5, a6⟩, rfl⟩
theorem open_acts {H : Type} {enc : TypeId × Value → H} {w : World} {r : Go.Reach} {b0 base : Nat} {spare : Nat → Bool} {held : Bool} {v : Value} {d : DataW H} {p : List MemPlace}
    (hv : Value.okWide Tryz.prog w r b0 79 v) (h : DataW.Trod enc Tryz.prog w base spare held 79 v d p) : ∃ (A : Option Addr) (n c : Nat) (l : List S69), v = .slice A n c ∧ ActsL w A n l := by
  obtain ⟨A, n, c, rfl, _⟩ := okWide_slice Tryz.underlying79 hv
  obtain ⟨fuel, hf⟩ := h
  rcases open_slice Tryz.underlying79 hf with ⟨e, _⟩ | ⟨x, l, c', m, q, D, Pl, e, hb, hl, hm, hmm, hx, hall⟩
  · simp only [Value.cells, List.cons.injEq, and_true] at e
    obtain ⟨rfl, rfl, rfl⟩ := by simpa using e
    exact ⟨none, 0, 0, [], rfl, ⟨rfl, by omega, fun i h => nomatch h⟩⟩
  · have e' : A = some x ∧ n = l ∧ c = c' := by simpa [Value.cells] using e
    obtain ⟨rfl, rfl, rfl⟩ := e'
    have hlm : n ≤ m := by rw [hmm]; split <;> omega
    have each : ∀ i, i < n → ∃ (y : S69), ∀ q u, [Value.int .i64 y.f0, .int .i64 y.f1, .int .i64 y.f2, .int .i64 y.f3, .slice y.fA y.fn y.fc, .int .i64 y.f5, .int .i64 y.f6][q]? = some u → w.cell? (x.add (i * 7 + q)) = some u := by
      intro i hi
      obtain ⟨cs', h1, h2⟩ := hall i (by omega)
      rw [cells69] at h1
      obtain ⟨y, rfl⟩ := opn69 h2
      refine ⟨y, fun q u hu' => ?_⟩
      obtain ⟨_, _, hc⟩ := World.cells?_some h1
      have hq : q < 7 := (List.getElem?_eq_some_iff.1 hu').1
      have := (hc q hq).trans hu'
      rw [show x.add (i * 7 + q) = (x.add (i * 7)).add q from (Addr.add_add x (i * 7) q).symm]
      exact this
    obtain ⟨f, hfun⟩ : ∃ f : Nat → S69, ∀ i, i < n → ∀ q u, [Value.int .i64 (f i).f0, .int .i64 (f i).f1, .int .i64 (f i).f2, .int .i64 (f i).f3, .slice (f i).fA (f i).fn (f i).fc, .int .i64 (f i).f5, .int .i64 (f i).f6][q]? = some u → w.cell? (x.add (i * 7 + q)) = some u := by
      refine ⟨fun i => if h : i < n then (each i h).choose else ⟨0, 0, 0, 0, none, 0, 0, 0, 0⟩, fun i hi => ?_⟩
      simp only [dif_pos hi]
      exact (each i hi).choose_spec
    refine ⟨some x, n, c, (List.range n).map f, rfl, ⟨by simp, by unfold maxLen at hm; omega, fun i hi => ⟨x, rfl, ?_⟩⟩⟩
    have hi' : i < n := by simpa using hi
    have ef : ((List.range n).map f)[i] = f i := by simp
    rw [ef]
    have hc := hfun i hi'
    exact ⟨hc 0 _ rfl, by rw [← add_field _ _ 1 (by omega)]; exact hc 1 _ rfl, by rw [← add_field _ _ 2 (by omega)]; exact hc 2 _ rfl, by rw [← add_field _ _ 3 (by omega)]; exact hc 3 _ rfl, by rw [← add_field _ _ 4 (by omega)]; exact hc 4 _ rfl, by rw [← add_field _ _ 5 (by omega)]; exact hc 5 _ rfl, by rw [← add_field _ _ 6 (by omega)]; exact hc 6 _ rfl⟩
def actV (ns : List S40) (a0 a1 a3 : Int) : Bool := if a0 = 0 then isNode ns a1 else decide (0 ≤ a3) && decide (a3 ≤ 65535)
def lostW (s : WS) (a0 a1 a3 : Int) : WS := if a0 = 0 then tickW s a1 else if a0 = 1 then deliverW s a3.toNat else if a0 = 2 then loseW s a3.toNat else twiceW s a3.toNat
theorem lost_keeps {s : WS} (h : Whole s) (a0 a1 a3 : Int) : Keeps s (lostW s a0 a1 a3) := by
  unfold lostW
  split
  · exact tick_keeps h a1
  · split
    · exact deliver_keeps h _
    · split
      · exact lose_keeps h _
      · exact twice_keeps h _
theorem doLost_ {ne ce n c d k f : Nat} {a0 a1 a2 a3 a5 a6 : Int} {A B C E : Option Addr} {ns : List S40} {ps : List S126} {w : World} [h : Sr k40 w A n c ns] [q : Sr k126 w C k f ps] (hO : OkW (ns, ps)) (h0 : a0 = 0 ∨ a0 = 1 ∨ a0 = 2 ∨ a0 = 3) (hv : actV ns a0 a1 a3 = true) :
    Calls Tryz.prog 24 #[.agg #[.slice A n c, .slice B 0 d, .slice C k f], .agg #[.int .i64 a0, .int .i64 a1, .int .i64 a2, .int .i64 a3, .slice E ne ce, .int .i64 a5, .int .i64 a6]] w fun e w' => ∃ v, e = .returned (.tuple #[v, .int .i64 0]) ∧ WorldR w' w.heap.size v (lostW (ns, ps) a0 a1 a3).1 (lostW (ns, ps) a0 a1 a3).2 ∧ BelL w w' := by
  by_cases e0 : a0 = 0
  · subst e0
    exact doTick_ hO (by unfold actV at hv; simpa using hv)
  · have hv2 : (decide (0 ≤ a3) && decide (a3 ≤ 65535)) = true := by unfold actV at hv; rwa [if_neg e0] at hv
    have hnn : 0 ≤ a3 := by simp only [Bool.and_eq_true, decide_eq_true_eq] at hv2; exact hv2.1
    obtain ⟨p, rfl⟩ := Int.eq_ofNat_of_zero_le hnn
    unfold lostW
    rw [if_neg e0]
    rcases h0 with rfl | rfl | rfl | rfl
    · exact absurd rfl e0
    · exact doDeliver_ (p := p) hO hv2
    · exact doLose_ (p := p) hO hv2
    · exact doTwice_ (p := p) hO hv2
theorem doLostNo_ {ne ce n c d k f : Nat} {a0 a1 a2 a3 a5 a6 : Int} {A B C E : Option Addr} {ns : List S40} {ps : List S126} {w : World} [h : Sr k40 w A n c ns] [q : Sr k126 w C k f ps] (hO : OkW (ns, ps)) (h0 : a0 = 0 ∨ a0 = 1 ∨ a0 = 2 ∨ a0 = 3) (hv : actV ns a0 a1 a3 = false) :
    Calls Tryz.prog 24 #[.agg #[.slice A n c, .slice B 0 d, .slice C k f], .agg #[.int .i64 a0, .int .i64 a1, .int .i64 a2, .int .i64 a3, .slice E ne ce, .int .i64 a5, .int .i64 a6]] w fun e w' => e = .returned (.tuple #[.agg #[.slice none 0 0, .slice none 0 0, .slice none 0 0], .int .i64 2400]) ∧ BelL w w' := by
  by_cases e0 : a0 = 0
  · subst e0
    exact doTickNo_ hO (by unfold actV at hv; simpa using hv)
  · have hv2 : (decide (0 ≤ a3) && decide (a3 ≤ 65535)) = false := by unfold actV at hv; rwa [if_neg e0] at hv
    rcases h0 with rfl | rfl | rfl | rfl
    · exact absurd rfl e0
    · exact doDeliverNo_ hO hv2
    · exact doLoseNo_ hO hv2
    · exact doTwiceNo_ hO hv2
end Go.Proofs.YtljipbmmgcccnaaGreat.T
end
section
namespace Go.Proofs.YtljipbmmgcccnaaGreat.T
open Go.RowKit Go.Proofs.YtljipbmmgcccnaaGreatW.PrintWords Go.Proofs.YtljipbmmgcccnaaGreatW.PrintLast Go.Proofs.YtljipbmmgcccnaaGreatW.PrintMore
attribute [local go_sem] cell_tc frozen_tc max2_int min2_int
attribute [local go_sem ↓] Go.wp_at_zero Go.wp_at_succ
set_option linter.unusedVariables false
set_option linter.unusedSimpArgs false
set_option synthInstance.maxHeartbeats 400000
set_option synthInstance.maxSize 512
attribute [local go_sem] cell_tc2
set_option maxRecDepth 100000 in
set_option maxHeartbeats 16000000 in
theorem topLost_ {na ca : Nat} {E : Option Addr} {acts : List S69} {n c m d k f : Nat} {A B C : Option Addr} {ns : List S40} {ps : List S126} {w : World} [h : Sr k40 w A n c ns] [q : Sr k126 w C k f ps] (ha : ActsL w E na acts) (hz : nodesFit ns) :
    Calls Tryz.prog 7 #[.agg #[.slice A n c, .slice B m d, .slice C k f], .slice E na ca] w fun e w' => e = .returned (.bool true) ∧ BelL w w' := by
  obtain rfl := h.len
  obtain rfl := q.len
  obtain rfl := ha.len
  have s1 := sr_l h
  have s2 := sr_l q
  have SA0 := ha
  clear h q ha
  go_enter Tryz.func7, Tryz.ntmps7
  go_wp2_with (first | ((with_reducible refine gate_dst (N := 2) rfl ?_); refine box_tc ?hg (N := 2) ?hd (cs := #[.slice A ns.length c, .slice B m d, .slice C ps.length f]) (t := 61) ?hr ?_; (case hd => rfl); (case hg => rfl); (case hr => first | (go_simp; done) | (go_simp; rfl)); intro g2 wg2 _ _ _) | (go_at_call 9; (with_reducible refine Calls.mono awake_ ?_); rintro e wa ⟨rfl, hba⟩) | (go_at_call 22; (with_reducible refine Calls.mono (whole_ (ns := ns) (ps := ps) hz) ?_); rintro e wv ⟨b, rfl, hW, hbv⟩; cases b))
  · go_ret
    exact ⟨rfl, belL⟩
  · obtain ⟨rfl, _, hWh⟩ := hW (by first | rfl | trivial)
    have HW0 := Aside0.mk hWh
    clear hW hWh
    refine wp_letter fun wl hbl => ?_
    have B2 : BlkL wl g2 #[.slice A ns.length c, .slice B 0 d, .slice C ps.length f] 61 := blkL
    have hwl : BelL w wl := belL
    have hbig : acts.length ≤ 9223372036854775807 := SA0.big
    go_loopg [5, 6, 7, 8] acts.length (fun kq v5 v6 v7 v8 w' => ∃ (i : Nat) (s : WS), v5 = .int .i64 i ∧ i ≤ acts.length ∧ kq = acts.length - i ∧ Aside0 (Whole s) ∧ BelL w w' ∧ ((s = (ns, ps) ∧ BlkL w' g2 #[.slice A ns.length c, .slice B 0 d, .slice C ps.length f] 61) ∨ ∃ (A' : Option Addr) (c' : Nat) (B' : Option Addr) (d' : Nat) (C' : Option Addr) (f' : Nat), BlkL w' g2 #[.slice A' s.1.length c', .slice B' 0 d', .slice C' s.2.length f'] 61 ∧ FrL k40 40 w' w.heap.size (Both w'.heap.size g2) A' s.1.length c' s.1 ∧ FrL k126 126 w' w.heap.size (Both w'.heap.size g2) C' s.2.length f' s.2))
    case atStart => exact ⟨0, (ns, ps), rfl, Nat.zero_le _, rfl, HW0, belL, .inl ⟨rfl, blkL⟩⟩
    case round =>
      obtain ⟨i, s, rfl, hi, rfl, HWs, hbr, hor⟩ := hrel
      rcases hor with ⟨rfl, hB2⟩ | ⟨A', c', B', d', C', f', hB2, hs1, hs2⟩
      · by_cases hlt : i < acts.length
        · by_cases h80 : i < 80
          · have hi80 : decide ((i : Int) < 80) = true := decide_eq_true (by omega)
            obtain ⟨ad, rfl, x0, x1, x2, x3, x4, x5, x6⟩ := act_at SA0 i hlt
            generalize acts[i].f0 = a0 at x0
            by_cases hkin : a0 = 0 ∨ a0 = 1 ∨ a0 = 2 ∨ a0 = 3
            · have HK := Aside0.mk hkin
              have HOs := Aside0.mk (show OkW (ns, ps) from HWs.out.ok)
              have HKE := Aside0.mk (show Keeps (ns, ps) (lostW (ns, ps) a0 acts[i].f1 acts[i].f3) from lost_keeps HWs.out a0 acts[i].f1 acts[i].f3)
              have hbs : (a0 != 0) = false ∨ ((a0 != 0) = true ∧ (a0 != 1) = false) ∨ ((a0 != 0) = true ∧ (a0 != 1) = true ∧ (a0 != 2) = false) ∨ ((a0 != 0) = true ∧ (a0 != 1) = true ∧ (a0 != 2) = true ∧ (a0 != 3) = false) := by
                simp only [bne_iff_ne, bne_eq_false_iff_eq]
                omega
              clear hkin
              rcases hbs with k0 | ⟨k0, k1⟩ | ⟨k0, k1, k2⟩ | ⟨k0, k1, k2, k3⟩
              all_goals
                go_upto_region 10 with fail
                clear k0
                cases hv : actV ns a0 acts[i].f1 acts[i].f3
                · have HV := Aside0.mk hv
                  clear hv
                  refine wp_letter fun w6 hb6 => ?_
                  refine wp_region_any_lex (S := fun w_ => BelL w6 w_) 12 (by kernel_rfl) (by kernel_rfl) belL ?_
                  (refine lexR_take (i := 0) (v := ?_) rfl (by kernel_rfl) (by kernel_rfl) (by kernel_rfl) (by kernel_rfl) belL ?_ ?_; rotate_left; (focus (intro wq (hSw : BelL w6 wq); (first | (go_simp; done) | (go_simp; with_reducible rfl)); done)); (try simp only [Act.put, List.setIfInBounds_toArray, List.set_cons_zero, List.set_cons_succ]))
                  (refine lexR_take (i := 1) (v := ?_) rfl (by kernel_rfl) (by kernel_rfl) (by kernel_rfl) (by kernel_rfl) belL ?_ ?_; rotate_left; (focus (intro wq (hSw : BelL w6 wq); (first | (go_simp; done) | (go_simp; with_reducible rfl)); done)); (try simp only [Act.put, List.setIfInBounds_toArray, List.set_cons_zero, List.set_cons_succ]))
                  (refine lexR_take (i := 2) (v := ?_) rfl (by kernel_rfl) (by kernel_rfl) (by kernel_rfl) (by kernel_rfl) belL ?_ ?_; rotate_left; (focus (intro wq (hSw : BelL w6 wq); (first | (go_simp; done) | (go_simp; with_reducible rfl)); done)); (try simp only [Act.put, List.setIfInBounds_toArray, List.set_cons_zero, List.set_cons_succ]))
                  (refine lexR_take (i := 3) (v := ?_) rfl (by kernel_rfl) (by kernel_rfl) (by kernel_rfl) (by kernel_rfl) belL ?_ ?_; rotate_left; (focus (intro wq (hSw : BelL w6 wq); (first | (go_simp; done) | (go_simp; with_reducible rfl)); done)); (try simp only [Act.put, List.setIfInBounds_toArray, List.set_cons_zero, List.set_cons_succ]))
                  (refine lexR_take (i := 4) (v := ?_) rfl (by kernel_rfl) (by kernel_rfl) (by kernel_rfl) (by kernel_rfl) belL ?_ ?_; rotate_left; (focus (intro wq (hSw : BelL w6 wq); (first | (go_simp; done) | (go_simp; with_reducible rfl)); done)); (try simp only [Act.put, List.setIfInBounds_toArray, List.set_cons_zero, List.set_cons_succ]))
                  refine lexR_two (i := 5) (j := 9) (by kernel_rfl) rfl rfl (by kernel_rfl) (by kernel_rfl) (fun K hK => ?_) (fun K hK => ?_)
                  · (go_simp; (go_at_call 24; (with_reducible refine Calls.mono (doLostNo_ (ns := ns) (ps := ps) HOs.out HK.out HV.out) ?_); rintro e w4 ⟨rfl, hb4⟩); refine hK.out _ _ belL ?_; clear hK K; (try simp only [Act.put, List.setIfInBounds_toArray, List.set_cons_zero, List.set_cons_succ]))
                    (refine lexR_take (i := 6) (v := ?_) rfl (by kernel_rfl) (by kernel_rfl) (by kernel_rfl) (by kernel_rfl) belL ?_ ?_; rotate_left; (focus (intro wq (hSw : BelL w6 wq); (first | (go_simp; done) | (go_simp; with_reducible rfl)); done)); (try simp only [Act.put, List.setIfInBounds_toArray, List.set_cons_zero, List.set_cons_succ]))
                    (refine lexR_take (i := 7) (v := ?_) rfl (by kernel_rfl) (by kernel_rfl) (by kernel_rfl) (by kernel_rfl) belL ?_ ?_; rotate_left; (focus (intro wq (hSw : BelL w6 wq); (first | (go_simp; done) | (go_simp; with_reducible rfl)); done)); (try simp only [Act.put, List.setIfInBounds_toArray, List.set_cons_zero, List.set_cons_succ]))
                    (refine lexR_take (i := 8) (v := ?_) rfl (by kernel_rfl) (by kernel_rfl) (by kernel_rfl) (by kernel_rfl) belL ?_ ?_; rotate_left; (focus (intro wq (hSw : BelL w6 wq); (first | (go_simp; done) | (go_simp; with_reducible rfl)); done)); (try simp only [Act.put, List.setIfInBounds_toArray, List.set_cons_zero, List.set_cons_succ]))
                    (refine lexR_one (i := 9) (by kernel_rfl) rfl (by kernel_rfl) (fun K hK => ?_); refine box_wp (N := _) rfl (cs := #[.slice none 0 0, .slice none 0 0, .slice none 0 0]) (t := 61) ?_ ?_; (focus (first | (go_simp; done) | (go_simp; rfl))); intro g7 wg7 _ _ _; refine hK.out _ _ belL ?_; clear hK K; (try simp only [Act.put, List.setIfInBounds_toArray, List.set_cons_zero, List.set_cons_succ]))
                    (refine lexR_one (i := 10) (by kernel_rfl) rfl (by kernel_rfl) (fun K hK => ?_); go_simp; refine hK.out _ _ belL ?_; clear hK K; (try simp only [Act.put, List.setIfInBounds_toArray, List.set_cons_zero, List.set_cons_succ]))
                    (refine lexR_take (i := 11) (v := ?_) rfl (by kernel_rfl) (by kernel_rfl) (by kernel_rfl) (by kernel_rfl) belL ?_ ?_; rotate_left; (focus (intro wq (hSw : BelL w6 wq); (first | (go_simp; done) | (go_simp; with_reducible rfl)); done)); (try simp only [Act.put, List.setIfInBounds_toArray, List.set_cons_zero, List.set_cons_succ]))
                    refine lexR_done (by kernel_rfl) ?_
                    go_wp2_with (first | (go_at_call 11; (with_reducible refine Calls.mono (num _ _) ?_); rintro e w' ⟨rfl, ⟨nd, rfl⟩⟩))
                    go_roundg (acts.length - (i + 1))
                    case measure => omega
                    case rel => exact ⟨i + 1, (ns, ps), by go_num, by omega, rfl, HWs, belL, .inl ⟨rfl, blkL⟩⟩
                  · (refine box_wp (N := _) rfl (cs := #[.slice none 0 0, .slice none 0 0, .slice none 0 0]) (t := 61) ?_ ?_; (focus (first | (go_simp; done) | (go_simp; rfl))); intro g7 wg7 _ _ _; refine hK.out _ _ belL ?_; clear hK K; (try simp only [Act.put, List.setIfInBounds_toArray, List.set_cons_zero, List.set_cons_succ]))
                    (refine lexR_one (i := 5) (by kernel_rfl) rfl (by kernel_rfl) (fun K hK => ?_); go_simp; (go_at_call 24; (with_reducible refine Calls.mono (doLostNo_ (ns := ns) (ps := ps) HOs.out HK.out HV.out) ?_); rintro e w4 ⟨rfl, hb4⟩); refine hK.out _ _ belL ?_; clear hK K; (try simp only [Act.put, List.setIfInBounds_toArray, List.set_cons_zero, List.set_cons_succ]))
                    (refine lexR_take (i := 6) (v := ?_) rfl (by kernel_rfl) (by kernel_rfl) (by kernel_rfl) (by kernel_rfl) belL ?_ ?_; rotate_left; (focus (intro wq (hSw : BelL w6 wq); (first | (go_simp; done) | (go_simp; with_reducible rfl)); done)); (try simp only [Act.put, List.setIfInBounds_toArray, List.set_cons_zero, List.set_cons_succ]))
                    (refine lexR_take (i := 7) (v := ?_) rfl (by kernel_rfl) (by kernel_rfl) (by kernel_rfl) (by kernel_rfl) belL ?_ ?_; rotate_left; (focus (intro wq (hSw : BelL w6 wq); (first | (go_simp; done) | (go_simp; with_reducible rfl)); done)); (try simp only [Act.put, List.setIfInBounds_toArray, List.set_cons_zero, List.set_cons_succ]))
                    (refine lexR_take (i := 8) (v := ?_) rfl (by kernel_rfl) (by kernel_rfl) (by kernel_rfl) (by kernel_rfl) belL ?_ ?_; rotate_left; (focus (intro wq (hSw : BelL w6 wq); (first | (go_simp; done) | (go_simp; with_reducible rfl)); done)); (try simp only [Act.put, List.setIfInBounds_toArray, List.set_cons_zero, List.set_cons_succ]))
                    (refine lexR_one (i := 10) (by kernel_rfl) rfl (by kernel_rfl) (fun K hK => ?_); go_simp; refine hK.out _ _ belL ?_; clear hK K; (try simp only [Act.put, List.setIfInBounds_toArray, List.set_cons_zero, List.set_cons_succ]))
                    (refine lexR_take (i := 11) (v := ?_) rfl (by kernel_rfl) (by kernel_rfl) (by kernel_rfl) (by kernel_rfl) belL ?_ ?_; rotate_left; (focus (intro wq (hSw : BelL w6 wq); (first | (go_simp; done) | (go_simp; with_reducible rfl)); done)); (try simp only [Act.put, List.setIfInBounds_toArray, List.set_cons_zero, List.set_cons_succ]))
                    refine lexR_done (by kernel_rfl) ?_
                    go_wp2_with (first | (go_at_call 11; (with_reducible refine Calls.mono (num _ _) ?_); rintro e w' ⟨rfl, ⟨nd, rfl⟩⟩))
                    go_roundg (acts.length - (i + 1))
                    case measure => omega
                    case rel => exact ⟨i + 1, (ns, ps), by go_num, by omega, rfl, HWs, belL, .inl ⟨rfl, blkL⟩⟩
                · have HV := Aside0.mk hv
                  clear hv
                  generalize hz : lostW (ns, ps) a0 acts[i].f1 acts[i].f3 = z at HKE
                  have HZ := Aside0.mk hz
                  clear hz
                  refine wp_letter fun w6 hb6 => ?_
                  refine wp_region_any_lex (S := fun w_ => BelL w6 w_) 12 (by kernel_rfl) (by kernel_rfl) belL ?_
                  (refine lexR_take (i := 0) (v := ?_) rfl (by kernel_rfl) (by kernel_rfl) (by kernel_rfl) (by kernel_rfl) belL ?_ ?_; rotate_left; (focus (intro wq (hSw : BelL w6 wq); (first | (go_simp; done) | (go_simp; with_reducible rfl)); done)); (try simp only [Act.put, List.setIfInBounds_toArray, List.set_cons_zero, List.set_cons_succ]))
                  (refine lexR_take (i := 1) (v := ?_) rfl (by kernel_rfl) (by kernel_rfl) (by kernel_rfl) (by kernel_rfl) belL ?_ ?_; rotate_left; (focus (intro wq (hSw : BelL w6 wq); (first | (go_simp; done) | (go_simp; with_reducible rfl)); done)); (try simp only [Act.put, List.setIfInBounds_toArray, List.set_cons_zero, List.set_cons_succ]))
                  (refine lexR_take (i := 2) (v := ?_) rfl (by kernel_rfl) (by kernel_rfl) (by kernel_rfl) (by kernel_rfl) belL ?_ ?_; rotate_left; (focus (intro wq (hSw : BelL w6 wq); (first | (go_simp; done) | (go_simp; with_reducible rfl)); done)); (try simp only [Act.put, List.setIfInBounds_toArray, List.set_cons_zero, List.set_cons_succ]))
                  (refine lexR_take (i := 3) (v := ?_) rfl (by kernel_rfl) (by kernel_rfl) (by kernel_rfl) (by kernel_rfl) belL ?_ ?_; rotate_left; (focus (intro wq (hSw : BelL w6 wq); (first | (go_simp; done) | (go_simp; with_reducible rfl)); done)); (try simp only [Act.put, List.setIfInBounds_toArray, List.set_cons_zero, List.set_cons_succ]))
                  (refine lexR_take (i := 4) (v := ?_) rfl (by kernel_rfl) (by kernel_rfl) (by kernel_rfl) (by kernel_rfl) belL ?_ ?_; rotate_left; (focus (intro wq (hSw : BelL w6 wq); (first | (go_simp; done) | (go_simp; with_reducible rfl)); done)); (try simp only [Act.put, List.setIfInBounds_toArray, List.set_cons_zero, List.set_cons_succ]))
                  refine lexR_two (i := 5) (j := 9) (by kernel_rfl) rfl rfl (by kernel_rfl) (by kernel_rfl) (fun K hK => ?_) (fun K hK => ?_)
                  · (go_simp; (go_at_call 24; (with_reducible refine Calls.mono (doLost_ (ns := ns) (ps := ps) HOs.out HK.out HV.out) ?_); rw [HZ.out]; rintro e w4 ⟨v4, rfl, ⟨A4, c4, B4, d4, C4, f4, rfl, hF4, hG4⟩, hb4⟩); refine hK.out _ _ belL ?_; clear hK K; (try simp only [Act.put, List.setIfInBounds_toArray, List.set_cons_zero, List.set_cons_succ]))
                    (refine lexR_take (i := 6) (v := ?_) rfl (by kernel_rfl) (by kernel_rfl) (by kernel_rfl) (by kernel_rfl) belL ?_ ?_; rotate_left; (focus (intro wq (hSw : BelL w6 wq); (first | (go_simp; done) | (go_simp; with_reducible rfl)); done)); (try simp only [Act.put, List.setIfInBounds_toArray, List.set_cons_zero, List.set_cons_succ]))
                    (refine lexR_take (i := 7) (v := ?_) rfl (by kernel_rfl) (by kernel_rfl) (by kernel_rfl) (by kernel_rfl) belL ?_ ?_; rotate_left; (focus (intro wq (hSw : BelL w6 wq); (first | (go_simp; done) | (go_simp; with_reducible rfl)); done)); (try simp only [Act.put, List.setIfInBounds_toArray, List.set_cons_zero, List.set_cons_succ]))
                    (refine lexR_take (i := 8) (v := ?_) rfl (by kernel_rfl) (by kernel_rfl) (by kernel_rfl) (by kernel_rfl) belL ?_ ?_; rotate_left; (focus (intro wq (hSw : BelL w6 wq); (first | (go_simp; done) | (go_simp; with_reducible rfl)); done)); (try simp only [Act.put, List.setIfInBounds_toArray, List.set_cons_zero, List.set_cons_succ]))
                    (refine lexR_one (i := 9) (by kernel_rfl) rfl (by kernel_rfl) (fun K hK => ?_); refine box_wp (N := _) rfl (cs := #[.slice none 0 0, .slice none 0 0, .slice none 0 0]) (t := 61) ?_ ?_; (focus (first | (go_simp; done) | (go_simp; rfl))); intro g7 wg7 _ _ _; refine hK.out _ _ belL ?_; clear hK K; (try simp only [Act.put, List.setIfInBounds_toArray, List.set_cons_zero, List.set_cons_succ]))
                    (refine lexR_one (i := 10) (by kernel_rfl) rfl (by kernel_rfl) (fun K hK => ?_); go_simp; refine hK.out _ _ belL ?_; clear hK K; (try simp only [Act.put, List.setIfInBounds_toArray, List.set_cons_zero, List.set_cons_succ]))
                    (refine lexR_take (i := 11) (v := ?_) rfl (by kernel_rfl) (by kernel_rfl) (by kernel_rfl) (by kernel_rfl) belL ?_ ?_; rotate_left; (focus (intro wq (hSw : BelL w6 wq); (first | (go_simp; done) | (go_simp; with_reducible rfl)); done)); (try simp only [Act.put, List.setIfInBounds_toArray, List.set_cons_zero, List.set_cons_succ]))
                    refine lexR_done (by kernel_rfl) ?_
                    go_wp2_with (first | (go_at_call 11; (with_reducible refine Calls.mono (num _ _) ?_); rintro e w' ⟨rfl, ⟨nd, rfl⟩⟩))
                    go_roundg (acts.length - (i + 1))
                    case measure => omega
                    case rel => exact ⟨i + 1, z, by go_num, by omega, rfl, ⟨HKE.out.whole HWs.out⟩, belL, .inr ⟨A4, c4, B4, d4, C4, f4, blkL, frl_both, frl_both⟩⟩
                  · (refine box_wp (N := _) rfl (cs := #[.slice none 0 0, .slice none 0 0, .slice none 0 0]) (t := 61) ?_ ?_; (focus (first | (go_simp; done) | (go_simp; rfl))); intro g7 wg7 _ _ _; refine hK.out _ _ belL ?_; clear hK K; (try simp only [Act.put, List.setIfInBounds_toArray, List.set_cons_zero, List.set_cons_succ]))
                    (refine lexR_one (i := 5) (by kernel_rfl) rfl (by kernel_rfl) (fun K hK => ?_); go_simp; (go_at_call 24; (with_reducible refine Calls.mono (doLost_ (ns := ns) (ps := ps) HOs.out HK.out HV.out) ?_); rw [HZ.out]; rintro e w4 ⟨v4, rfl, ⟨A4, c4, B4, d4, C4, f4, rfl, hF4, hG4⟩, hb4⟩); refine hK.out _ _ belL ?_; clear hK K; (try simp only [Act.put, List.setIfInBounds_toArray, List.set_cons_zero, List.set_cons_succ]))
                    (refine lexR_take (i := 6) (v := ?_) rfl (by kernel_rfl) (by kernel_rfl) (by kernel_rfl) (by kernel_rfl) belL ?_ ?_; rotate_left; (focus (intro wq (hSw : BelL w6 wq); (first | (go_simp; done) | (go_simp; with_reducible rfl)); done)); (try simp only [Act.put, List.setIfInBounds_toArray, List.set_cons_zero, List.set_cons_succ]))
                    (refine lexR_take (i := 7) (v := ?_) rfl (by kernel_rfl) (by kernel_rfl) (by kernel_rfl) (by kernel_rfl) belL ?_ ?_; rotate_left; (focus (intro wq (hSw : BelL w6 wq); (first | (go_simp; done) | (go_simp; with_reducible rfl)); done)); (try simp only [Act.put, List.setIfInBounds_toArray, List.set_cons_zero, List.set_cons_succ]))
                    (refine lexR_take (i := 8) (v := ?_) rfl (by kernel_rfl) (by kernel_rfl) (by kernel_rfl) (by kernel_rfl) belL ?_ ?_; rotate_left; (focus (intro wq (hSw : BelL w6 wq); (first | (go_simp; done) | (go_simp; with_reducible rfl)); done)); (try simp only [Act.put, List.setIfInBounds_toArray, List.set_cons_zero, List.set_cons_succ]))
                    (refine lexR_one (i := 10) (by kernel_rfl) rfl (by kernel_rfl) (fun K hK => ?_); go_simp; refine hK.out _ _ belL ?_; clear hK K; (try simp only [Act.put, List.setIfInBounds_toArray, List.set_cons_zero, List.set_cons_succ]))
                    (refine lexR_take (i := 11) (v := ?_) rfl (by kernel_rfl) (by kernel_rfl) (by kernel_rfl) (by kernel_rfl) belL ?_ ?_; rotate_left; (focus (intro wq (hSw : BelL w6 wq); (first | (go_simp; done) | (go_simp; with_reducible rfl)); done)); (try simp only [Act.put, List.setIfInBounds_toArray, List.set_cons_zero, List.set_cons_succ]))
                    refine lexR_done (by kernel_rfl) ?_
                    go_wp2_with (first | (go_at_call 11; (with_reducible refine Calls.mono (num _ _) ?_); rintro e w' ⟨rfl, ⟨nd, rfl⟩⟩))
                    go_roundg (acts.length - (i + 1))
                    case measure => omega
                    case rel => exact ⟨i + 1, z, by go_num, by omega, rfl, ⟨HKE.out.whole HWs.out⟩, belL, .inr ⟨A4, c4, B4, d4, C4, f4, blkL, frl_both, frl_both⟩⟩
            · have k0 : (a0 != 0) = true := by simp only [bne_iff_ne]; omega
              have k1 : (a0 != 1) = true := by simp only [bne_iff_ne]; omega
              have k2 : (a0 != 2) = true := by simp only [bne_iff_ne]; omega
              have k3 : (a0 != 3) = true := by simp only [bne_iff_ne]; omega
              go_wp2
              go_roundg (acts.length - (i + 1))
              case measure => omega
              case rel => exact ⟨i + 1, (ns, ps), by go_num, by omega, rfl, HWs, belL, .inl ⟨rfl, blkL⟩⟩
          · have hi80 : decide ((i : Int) < 80) = false := decide_eq_false (by omega)
            obtain ⟨R, e6, cR, aR, fR, l6, m6⟩ := whole_at HWs.out 6 (by decide)
            clear l6 m6
            have E6 := Aside0.mk (show roundsW 6 (ns, ps) = (R, []) from e6)
            have hO := HWs.out.ok
            have K3 := Aside0.mk (ordered_all cR aR fR)
            have K4 := Aside0.mk (show upsOf R ≠ [] from by
              have hpos : 1 ≤ R.length := (nodesB_iff.1 (mayB_iff.1 cR).1).1
              exact ups_some ((up_iff aR).2 (List.mem_map.2 ⟨_, List.getElem_mem hpos, rfl⟩)))
            clear e6 aR fR
            go_wp2_with (first | (go_at_call 23; (with_reducible refine Calls.mono (rounds6_ (ns := ns) (ps := ps) hO) ?_); rw [E6.out]; rintro e w3 ⟨v3, rfl, ⟨A3, c3, B3, d3, C3, f3, rfl, hF3, hG3⟩, hb3⟩; simp only [List.length_nil] at hF3 hG3 ⊢; have hbw3 : BelL w w3 := belL) | ((with_reducible refine gate_dst (N := 9) rfl ?_); refine box_tc ?hg (N := 9) ?hd (cs := #[.slice none 0 0, .slice none 0 0, .slice none 0 0]) (t := 61) ?hr ?_; (case hd => rfl); (case hg => rfl); (case hr => first | (go_simp; done) | (go_simp; rfl)); intro g9 wg9 _ _ _) | (go_at_call 25; (with_reducible refine Calls.mono (ordered_ (ns := R) (ps := []) cR K3.out K4.out) ?_); rintro e wo ⟨rfl, hbo⟩) | (go_at_call 11; (with_reducible refine Calls.mono (num _ _) ?_); rintro e w' ⟨rfl, ⟨nd, rfl⟩⟩))
            go_ret
            exact ⟨rfl, belL⟩
        · skip
          obtain ⟨R, e6, cR, aR, fR, l6, m6⟩ := whole_at HWs.out 6 (by decide)
          clear l6 m6
          have E6 := Aside0.mk (show roundsW 6 (ns, ps) = (R, []) from e6)
          have hO := HWs.out.ok
          have K3 := Aside0.mk (ordered_all cR aR fR)
          have K4 := Aside0.mk (show upsOf R ≠ [] from by
            have hpos : 1 ≤ R.length := (nodesB_iff.1 (mayB_iff.1 cR).1).1
            exact ups_some ((up_iff aR).2 (List.mem_map.2 ⟨_, List.getElem_mem hpos, rfl⟩)))
          clear e6 aR fR
          go_wp2_with (first | (go_at_call 23; (with_reducible refine Calls.mono (rounds6_ (ns := ns) (ps := ps) hO) ?_); rw [E6.out]; rintro e w3 ⟨v3, rfl, ⟨A3, c3, B3, d3, C3, f3, rfl, hF3, hG3⟩, hb3⟩; simp only [List.length_nil] at hF3 hG3 ⊢; have hbw3 : BelL w w3 := belL) | ((with_reducible refine gate_dst (N := 9) rfl ?_); refine box_tc ?hg (N := 9) ?hd (cs := #[.slice none 0 0, .slice none 0 0, .slice none 0 0]) (t := 61) ?hr ?_; (case hd => rfl); (case hg => rfl); (case hr => first | (go_simp; done) | (go_simp; rfl)); intro g9 wg9 _ _ _) | (go_at_call 25; (with_reducible refine Calls.mono (ordered_ (ns := R) (ps := []) cR K3.out K4.out) ?_); rintro e wo ⟨rfl, hbo⟩) | (go_at_call 11; (with_reducible refine Calls.mono (num _ _) ?_); rintro e w' ⟨rfl, ⟨nd, rfl⟩⟩))
          go_ret
          exact ⟨rfl, belL⟩
      · by_cases hlt : i < acts.length
        · by_cases h80 : i < 80
          · have hi80 : decide ((i : Int) < 80) = true := decide_eq_true (by omega)
            obtain ⟨ad, rfl, x0, x1, x2, x3, x4, x5, x6⟩ := act_at SA0 i hlt
            generalize acts[i].f0 = a0 at x0
            by_cases hkin : a0 = 0 ∨ a0 = 1 ∨ a0 = 2 ∨ a0 = 3
            · have HK := Aside0.mk hkin
              have HOs := Aside0.mk (show OkW (s.1, s.2) from HWs.out.ok)
              have HKE := Aside0.mk (show Keeps (s.1, s.2) (lostW (s.1, s.2) a0 acts[i].f1 acts[i].f3) from lost_keeps HWs.out a0 acts[i].f1 acts[i].f3)
              have hbs : (a0 != 0) = false ∨ ((a0 != 0) = true ∧ (a0 != 1) = false) ∨ ((a0 != 0) = true ∧ (a0 != 1) = true ∧ (a0 != 2) = false) ∨ ((a0 != 0) = true ∧ (a0 != 1) = true ∧ (a0 != 2) = true ∧ (a0 != 3) = false) := by
                simp only [bne_iff_ne, bne_eq_false_iff_eq]
                omega
              clear hkin
              rcases hbs with k0 | ⟨k0, k1⟩ | ⟨k0, k1, k2⟩ | ⟨k0, k1, k2, k3⟩
              all_goals
                go_upto_region 10 with fail
                clear k0
                cases hv : actV s.1 a0 acts[i].f1 acts[i].f3
                · have HV := Aside0.mk hv
                  clear hv
                  refine wp_letter fun w6 hb6 => ?_
                  refine wp_region_any_lex (S := fun w_ => BelL w6 w_) 12 (by kernel_rfl) (by kernel_rfl) belL ?_
                  (refine lexR_take (i := 0) (v := ?_) rfl (by kernel_rfl) (by kernel_rfl) (by kernel_rfl) (by kernel_rfl) belL ?_ ?_; rotate_left; (focus (intro wq (hSw : BelL w6 wq); (first | (go_simp; done) | (go_simp; with_reducible rfl)); done)); (try simp only [Act.put, List.setIfInBounds_toArray, List.set_cons_zero, List.set_cons_succ]))
                  (refine lexR_take (i := 1) (v := ?_) rfl (by kernel_rfl) (by kernel_rfl) (by kernel_rfl) (by kernel_rfl) belL ?_ ?_; rotate_left; (focus (intro wq (hSw : BelL w6 wq); (first | (go_simp; done) | (go_simp; with_reducible rfl)); done)); (try simp only [Act.put, List.setIfInBounds_toArray, List.set_cons_zero, List.set_cons_succ]))
                  (refine lexR_take (i := 2) (v := ?_) rfl (by kernel_rfl) (by kernel_rfl) (by kernel_rfl) (by kernel_rfl) belL ?_ ?_; rotate_left; (focus (intro wq (hSw : BelL w6 wq); (first | (go_simp; done) | (go_simp; with_reducible rfl)); done)); (try simp only [Act.put, List.setIfInBounds_toArray, List.set_cons_zero, List.set_cons_succ]))
                  (refine lexR_take (i := 3) (v := ?_) rfl (by kernel_rfl) (by kernel_rfl) (by kernel_rfl) (by kernel_rfl) belL ?_ ?_; rotate_left; (focus (intro wq (hSw : BelL w6 wq); (first | (go_simp; done) | (go_simp; with_reducible rfl)); done)); (try simp only [Act.put, List.setIfInBounds_toArray, List.set_cons_zero, List.set_cons_succ]))
                  (refine lexR_take (i := 4) (v := ?_) rfl (by kernel_rfl) (by kernel_rfl) (by kernel_rfl) (by kernel_rfl) belL ?_ ?_; rotate_left; (focus (intro wq (hSw : BelL w6 wq); (first | (go_simp; done) | (go_simp; with_reducible rfl)); done)); (try simp only [Act.put, List.setIfInBounds_toArray, List.set_cons_zero, List.set_cons_succ]))
                  refine lexR_two (i := 5) (j := 9) (by kernel_rfl) rfl rfl (by kernel_rfl) (by kernel_rfl) (fun K hK => ?_) (fun K hK => ?_)
                  · (go_simp; (go_at_call 24; (with_reducible refine Calls.mono (doLostNo_ (ns := s.1) (ps := s.2) HOs.out HK.out HV.out) ?_); rintro e w4 ⟨rfl, hb4⟩); refine hK.out _ _ belL ?_; clear hK K; (try simp only [Act.put, List.setIfInBounds_toArray, List.set_cons_zero, List.set_cons_succ]))
                    (refine lexR_take (i := 6) (v := ?_) rfl (by kernel_rfl) (by kernel_rfl) (by kernel_rfl) (by kernel_rfl) belL ?_ ?_; rotate_left; (focus (intro wq (hSw : BelL w6 wq); (first | (go_simp; done) | (go_simp; with_reducible rfl)); done)); (try simp only [Act.put, List.setIfInBounds_toArray, List.set_cons_zero, List.set_cons_succ]))
                    (refine lexR_take (i := 7) (v := ?_) rfl (by kernel_rfl) (by kernel_rfl) (by kernel_rfl) (by kernel_rfl) belL ?_ ?_; rotate_left; (focus (intro wq (hSw : BelL w6 wq); (first | (go_simp; done) | (go_simp; with_reducible rfl)); done)); (try simp only [Act.put, List.setIfInBounds_toArray, List.set_cons_zero, List.set_cons_succ]))
                    (refine lexR_take (i := 8) (v := ?_) rfl (by kernel_rfl) (by kernel_rfl) (by kernel_rfl) (by kernel_rfl) belL ?_ ?_; rotate_left; (focus (intro wq (hSw : BelL w6 wq); (first | (go_simp; done) | (go_simp; with_reducible rfl)); done)); (try simp only [Act.put, List.setIfInBounds_toArray, List.set_cons_zero, List.set_cons_succ]))
                    (refine lexR_one (i := 9) (by kernel_rfl) rfl (by kernel_rfl) (fun K hK => ?_); refine box_wp (N := _) rfl (cs := #[.slice none 0 0, .slice none 0 0, .slice none 0 0]) (t := 61) ?_ ?_; (focus (first | (go_simp; done) | (go_simp; rfl))); intro g7 wg7 _ _ _; refine hK.out _ _ belL ?_; clear hK K; (try simp only [Act.put, List.setIfInBounds_toArray, List.set_cons_zero, List.set_cons_succ]))
                    (refine lexR_one (i := 10) (by kernel_rfl) rfl (by kernel_rfl) (fun K hK => ?_); go_simp; refine hK.out _ _ belL ?_; clear hK K; (try simp only [Act.put, List.setIfInBounds_toArray, List.set_cons_zero, List.set_cons_succ]))
                    (refine lexR_take (i := 11) (v := ?_) rfl (by kernel_rfl) (by kernel_rfl) (by kernel_rfl) (by kernel_rfl) belL ?_ ?_; rotate_left; (focus (intro wq (hSw : BelL w6 wq); (first | (go_simp; done) | (go_simp; with_reducible rfl)); done)); (try simp only [Act.put, List.setIfInBounds_toArray, List.set_cons_zero, List.set_cons_succ]))
                    refine lexR_done (by kernel_rfl) ?_
                    go_wp2_with (first | (go_at_call 11; (with_reducible refine Calls.mono (num _ _) ?_); rintro e w' ⟨rfl, ⟨nd, rfl⟩⟩))
                    go_roundg (acts.length - (i + 1))
                    case measure => omega
                    case rel => exact ⟨i + 1, s, by go_num, by omega, rfl, HWs, belL, .inr ⟨A', c', B', d', C', f', blkL, frl_both, frl_both⟩⟩
                  · (refine box_wp (N := _) rfl (cs := #[.slice none 0 0, .slice none 0 0, .slice none 0 0]) (t := 61) ?_ ?_; (focus (first | (go_simp; done) | (go_simp; rfl))); intro g7 wg7 _ _ _; refine hK.out _ _ belL ?_; clear hK K; (try simp only [Act.put, List.setIfInBounds_toArray, List.set_cons_zero, List.set_cons_succ]))
                    (refine lexR_one (i := 5) (by kernel_rfl) rfl (by kernel_rfl) (fun K hK => ?_); go_simp; (go_at_call 24; (with_reducible refine Calls.mono (doLostNo_ (ns := s.1) (ps := s.2) HOs.out HK.out HV.out) ?_); rintro e w4 ⟨rfl, hb4⟩); refine hK.out _ _ belL ?_; clear hK K; (try simp only [Act.put, List.setIfInBounds_toArray, List.set_cons_zero, List.set_cons_succ]))
                    (refine lexR_take (i := 6) (v := ?_) rfl (by kernel_rfl) (by kernel_rfl) (by kernel_rfl) (by kernel_rfl) belL ?_ ?_; rotate_left; (focus (intro wq (hSw : BelL w6 wq); (first | (go_simp; done) | (go_simp; with_reducible rfl)); done)); (try simp only [Act.put, List.setIfInBounds_toArray, List.set_cons_zero, List.set_cons_succ]))
                    (refine lexR_take (i := 7) (v := ?_) rfl (by kernel_rfl) (by kernel_rfl) (by kernel_rfl) (by kernel_rfl) belL ?_ ?_; rotate_left; (focus (intro wq (hSw : BelL w6 wq); (first | (go_simp; done) | (go_simp; with_reducible rfl)); done)); (try simp only [Act.put, List.setIfInBounds_toArray, List.set_cons_zero, List.set_cons_succ]))
                    (refine lexR_take (i := 8) (v := ?_) rfl (by kernel_rfl) (by kernel_rfl) (by kernel_rfl) (by kernel_rfl) belL ?_ ?_; rotate_left; (focus (intro wq (hSw : BelL w6 wq); (first | (go_simp; done) | (go_simp; with_reducible rfl)); done)); (try simp only [Act.put, List.setIfInBounds_toArray, List.set_cons_zero, List.set_cons_succ]))
                    (refine lexR_one (i := 10) (by kernel_rfl) rfl (by kernel_rfl) (fun K hK => ?_); go_simp; refine hK.out _ _ belL ?_; clear hK K; (try simp only [Act.put, List.setIfInBounds_toArray, List.set_cons_zero, List.set_cons_succ]))
                    (refine lexR_take (i := 11) (v := ?_) rfl (by kernel_rfl) (by kernel_rfl) (by kernel_rfl) (by kernel_rfl) belL ?_ ?_; rotate_left; (focus (intro wq (hSw : BelL w6 wq); (first | (go_simp; done) | (go_simp; with_reducible rfl)); done)); (try simp only [Act.put, List.setIfInBounds_toArray, List.set_cons_zero, List.set_cons_succ]))
                    refine lexR_done (by kernel_rfl) ?_
                    go_wp2_with (first | (go_at_call 11; (with_reducible refine Calls.mono (num _ _) ?_); rintro e w' ⟨rfl, ⟨nd, rfl⟩⟩))
                    go_roundg (acts.length - (i + 1))
                    case measure => omega
                    case rel => exact ⟨i + 1, s, by go_num, by omega, rfl, HWs, belL, .inr ⟨A', c', B', d', C', f', blkL, frl_both, frl_both⟩⟩
                · have HV := Aside0.mk hv
                  clear hv
                  generalize hz : lostW (s.1, s.2) a0 acts[i].f1 acts[i].f3 = z at HKE
                  have HZ := Aside0.mk hz
                  clear hz
                  refine wp_letter fun w6 hb6 => ?_
                  refine wp_region_any_lex (S := fun w_ => BelL w6 w_) 12 (by kernel_rfl) (by kernel_rfl) belL ?_
                  (refine lexR_take (i := 0) (v := ?_) rfl (by kernel_rfl) (by kernel_rfl) (by kernel_rfl) (by kernel_rfl) belL ?_ ?_; rotate_left; (focus (intro wq (hSw : BelL w6 wq); (first | (go_simp; done) | (go_simp; with_reducible rfl)); done)); (try simp only [Act.put, List.setIfInBounds_toArray, List.set_cons_zero, List.set_cons_succ]))
                  (refine lexR_take (i := 1) (v := ?_) rfl (by kernel_rfl) (by kernel_rfl) (by kernel_rfl) (by kernel_rfl) belL ?_ ?_; rotate_left; (focus (intro wq (hSw : BelL w6 wq); (first | (go_simp; done) | (go_simp; with_reducible rfl)); done)); (try simp only [Act.put, List.setIfInBounds_toArray, List.set_cons_zero, List.set_cons_succ]))
                  (refine lexR_take (i := 2) (v := ?_) rfl (by kernel_rfl) (by kernel_rfl) (by kernel_rfl) (by kernel_rfl) belL ?_ ?_; rotate_left; (focus (intro wq (hSw : BelL w6 wq); (first | (go_simp; done) | (go_simp; with_reducible rfl)); done)); (try simp only [Act.put, List.setIfInBounds_toArray, List.set_cons_zero, List.set_cons_succ]))
                  (refine lexR_take (i := 3) (v := ?_) rfl (by kernel_rfl) (by kernel_rfl) (by kernel_rfl) (by kernel_rfl) belL ?_ ?_; rotate_left; (focus (intro wq (hSw : BelL w6 wq); (first | (go_simp; done) | (go_simp; with_reducible rfl)); done)); (try simp only [Act.put, List.setIfInBounds_toArray, List.set_cons_zero, List.set_cons_succ]))
                  (refine lexR_take (i := 4) (v := ?_) rfl (by kernel_rfl) (by kernel_rfl) (by kernel_rfl) (by kernel_rfl) belL ?_ ?_; rotate_left; (focus (intro wq (hSw : BelL w6 wq); (first | (go_simp; done) | (go_simp; with_reducible rfl)); done)); (try simp only [Act.put, List.setIfInBounds_toArray, List.set_cons_zero, List.set_cons_succ]))
                  refine lexR_two (i := 5) (j := 9) (by kernel_rfl) rfl rfl (by kernel_rfl) (by kernel_rfl) (fun K hK => ?_) (fun K hK => ?_)
                  · (go_simp; (go_at_call 24; (with_reducible refine Calls.mono (doLost_ (ns := s.1) (ps := s.2) HOs.out HK.out HV.out) ?_); rw [HZ.out]; rintro e w4 ⟨v4, rfl, ⟨A4, c4, B4, d4, C4, f4, rfl, hF4, hG4⟩, hb4⟩); refine hK.out _ _ belL ?_; clear hK K; (try simp only [Act.put, List.setIfInBounds_toArray, List.set_cons_zero, List.set_cons_succ]))
                    (refine lexR_take (i := 6) (v := ?_) rfl (by kernel_rfl) (by kernel_rfl) (by kernel_rfl) (by kernel_rfl) belL ?_ ?_; rotate_left; (focus (intro wq (hSw : BelL w6 wq); (first | (go_simp; done) | (go_simp; with_reducible rfl)); done)); (try simp only [Act.put, List.setIfInBounds_toArray, List.set_cons_zero, List.set_cons_succ]))
                    (refine lexR_take (i := 7) (v := ?_) rfl (by kernel_rfl) (by kernel_rfl) (by kernel_rfl) (by kernel_rfl) belL ?_ ?_; rotate_left; (focus (intro wq (hSw : BelL w6 wq); (first | (go_simp; done) | (go_simp; with_reducible rfl)); done)); (try simp only [Act.put, List.setIfInBounds_toArray, List.set_cons_zero, List.set_cons_succ]))
                    (refine lexR_take (i := 8) (v := ?_) rfl (by kernel_rfl) (by kernel_rfl) (by kernel_rfl) (by kernel_rfl) belL ?_ ?_; rotate_left; (focus (intro wq (hSw : BelL w6 wq); (first | (go_simp; done) | (go_simp; with_reducible rfl)); done)); (try simp only [Act.put, List.setIfInBounds_toArray, List.set_cons_zero, List.set_cons_succ]))
                    (refine lexR_one (i := 9) (by kernel_rfl) rfl (by kernel_rfl) (fun K hK => ?_); refine box_wp (N := _) rfl (cs := #[.slice none 0 0, .slice none 0 0, .slice none 0 0]) (t := 61) ?_ ?_; (focus (first | (go_simp; done) | (go_simp; rfl))); intro g7 wg7 _ _ _; refine hK.out _ _ belL ?_; clear hK K; (try simp only [Act.put, List.setIfInBounds_toArray, List.set_cons_zero, List.set_cons_succ]))
                    (refine lexR_one (i := 10) (by kernel_rfl) rfl (by kernel_rfl) (fun K hK => ?_); go_simp; refine hK.out _ _ belL ?_; clear hK K; (try simp only [Act.put, List.setIfInBounds_toArray, List.set_cons_zero, List.set_cons_succ]))
                    (refine lexR_take (i := 11) (v := ?_) rfl (by kernel_rfl) (by kernel_rfl) (by kernel_rfl) (by kernel_rfl) belL ?_ ?_; rotate_left; (focus (intro wq (hSw : BelL w6 wq); (first | (go_simp; done) | (go_simp; with_reducible rfl)); done)); (try simp only [Act.put, List.setIfInBounds_toArray, List.set_cons_zero, List.set_cons_succ]))
                    refine lexR_done (by kernel_rfl) ?_
                    go_wp2_with (first | (go_at_call 11; (with_reducible refine Calls.mono (num _ _) ?_); rintro e w' ⟨rfl, ⟨nd, rfl⟩⟩))
                    go_roundg (acts.length - (i + 1))
                    case measure => omega
                    case rel => exact ⟨i + 1, z, by go_num, by omega, rfl, ⟨HKE.out.whole HWs.out⟩, belL, .inr ⟨A4, c4, B4, d4, C4, f4, blkL, frl_both, frl_both⟩⟩
                  · (refine box_wp (N := _) rfl (cs := #[.slice none 0 0, .slice none 0 0, .slice none 0 0]) (t := 61) ?_ ?_; (focus (first | (go_simp; done) | (go_simp; rfl))); intro g7 wg7 _ _ _; refine hK.out _ _ belL ?_; clear hK K; (try simp only [Act.put, List.setIfInBounds_toArray, List.set_cons_zero, List.set_cons_succ]))
                    (refine lexR_one (i := 5) (by kernel_rfl) rfl (by kernel_rfl) (fun K hK => ?_); go_simp; (go_at_call 24; (with_reducible refine Calls.mono (doLost_ (ns := s.1) (ps := s.2) HOs.out HK.out HV.out) ?_); rw [HZ.out]; rintro e w4 ⟨v4, rfl, ⟨A4, c4, B4, d4, C4, f4, rfl, hF4, hG4⟩, hb4⟩); refine hK.out _ _ belL ?_; clear hK K; (try simp only [Act.put, List.setIfInBounds_toArray, List.set_cons_zero, List.set_cons_succ]))
                    (refine lexR_take (i := 6) (v := ?_) rfl (by kernel_rfl) (by kernel_rfl) (by kernel_rfl) (by kernel_rfl) belL ?_ ?_; rotate_left; (focus (intro wq (hSw : BelL w6 wq); (first | (go_simp; done) | (go_simp; with_reducible rfl)); done)); (try simp only [Act.put, List.setIfInBounds_toArray, List.set_cons_zero, List.set_cons_succ]))
                    (refine lexR_take (i := 7) (v := ?_) rfl (by kernel_rfl) (by kernel_rfl) (by kernel_rfl) (by kernel_rfl) belL ?_ ?_; rotate_left; (focus (intro wq (hSw : BelL w6 wq); (first | (go_simp; done) | (go_simp; with_reducible rfl)); done)); (try simp only [Act.put, List.setIfInBounds_toArray, List.set_cons_zero, List.set_cons_succ]))
                    (refine lexR_take (i := 8) (v := ?_) rfl (by kernel_rfl) (by kernel_rfl) (by kernel_rfl) (by kernel_rfl) belL ?_ ?_; rotate_left; (focus (intro wq (hSw : BelL w6 wq); (first | (go_simp; done) | (go_simp; with_reducible rfl)); done)); (try simp only [Act.put, List.setIfInBounds_toArray, List.set_cons_zero, List.set_cons_succ]))
                    (refine lexR_one (i := 10) (by kernel_rfl) rfl (by kernel_rfl) (fun K hK => ?_); go_simp; refine hK.out _ _ belL ?_; clear hK K; (try simp only [Act.put, List.setIfInBounds_toArray, List.set_cons_zero, List.set_cons_succ]))
                    (refine lexR_take (i := 11) (v := ?_) rfl (by kernel_rfl) (by kernel_rfl) (by kernel_rfl) (by kernel_rfl) belL ?_ ?_; rotate_left; (focus (intro wq (hSw : BelL w6 wq); (first | (go_simp; done) | (go_simp; with_reducible rfl)); done)); (try simp only [Act.put, List.setIfInBounds_toArray, List.set_cons_zero, List.set_cons_succ]))
                    refine lexR_done (by kernel_rfl) ?_
                    go_wp2_with (first | (go_at_call 11; (with_reducible refine Calls.mono (num _ _) ?_); rintro e w' ⟨rfl, ⟨nd, rfl⟩⟩))
                    go_roundg (acts.length - (i + 1))
                    case measure => omega
                    case rel => exact ⟨i + 1, z, by go_num, by omega, rfl, ⟨HKE.out.whole HWs.out⟩, belL, .inr ⟨A4, c4, B4, d4, C4, f4, blkL, frl_both, frl_both⟩⟩
            · have k0 : (a0 != 0) = true := by simp only [bne_iff_ne]; omega
              have k1 : (a0 != 1) = true := by simp only [bne_iff_ne]; omega
              have k2 : (a0 != 2) = true := by simp only [bne_iff_ne]; omega
              have k3 : (a0 != 3) = true := by simp only [bne_iff_ne]; omega
              go_wp2
              go_roundg (acts.length - (i + 1))
              case measure => omega
              case rel => exact ⟨i + 1, s, by go_num, by omega, rfl, HWs, belL, .inr ⟨A', c', B', d', C', f', blkL, frl_both, frl_both⟩⟩
          · have hi80 : decide ((i : Int) < 80) = false := decide_eq_false (by omega)
            obtain ⟨R, e6, cR, aR, fR, l6, m6⟩ := whole_at HWs.out 6 (by decide)
            clear l6 m6
            have E6 := Aside0.mk (show roundsW 6 (s.1, s.2) = (R, []) from e6)
            have hO := HWs.out.ok
            have K3 := Aside0.mk (ordered_all cR aR fR)
            have K4 := Aside0.mk (show upsOf R ≠ [] from by
              have hpos : 1 ≤ R.length := (nodesB_iff.1 (mayB_iff.1 cR).1).1
              exact ups_some ((up_iff aR).2 (List.mem_map.2 ⟨_, List.getElem_mem hpos, rfl⟩)))
            clear e6 aR fR
            go_wp2_with (first | (go_at_call 23; (with_reducible refine Calls.mono (rounds6_ (ns := s.1) (ps := s.2) hO) ?_); rw [E6.out]; rintro e w3 ⟨v3, rfl, ⟨A3, c3, B3, d3, C3, f3, rfl, hF3, hG3⟩, hb3⟩; simp only [List.length_nil] at hF3 hG3 ⊢; have hbw3 : BelL w w3 := belL) | ((with_reducible refine gate_dst (N := 9) rfl ?_); refine box_tc ?hg (N := 9) ?hd (cs := #[.slice none 0 0, .slice none 0 0, .slice none 0 0]) (t := 61) ?hr ?_; (case hd => rfl); (case hg => rfl); (case hr => first | (go_simp; done) | (go_simp; rfl)); intro g9 wg9 _ _ _) | (go_at_call 25; (with_reducible refine Calls.mono (ordered_ (ns := R) (ps := []) cR K3.out K4.out) ?_); rintro e wo ⟨rfl, hbo⟩) | (go_at_call 11; (with_reducible refine Calls.mono (num _ _) ?_); rintro e w' ⟨rfl, ⟨nd, rfl⟩⟩))
            go_ret
            exact ⟨rfl, belL⟩
        · skip
          obtain ⟨R, e6, cR, aR, fR, l6, m6⟩ := whole_at HWs.out 6 (by decide)
          clear l6 m6
          have E6 := Aside0.mk (show roundsW 6 (s.1, s.2) = (R, []) from e6)
          have hO := HWs.out.ok
          have K3 := Aside0.mk (ordered_all cR aR fR)
          have K4 := Aside0.mk (show upsOf R ≠ [] from by
            have hpos : 1 ≤ R.length := (nodesB_iff.1 (mayB_iff.1 cR).1).1
            exact ups_some ((up_iff aR).2 (List.mem_map.2 ⟨_, List.getElem_mem hpos, rfl⟩)))
          clear e6 aR fR
          go_wp2_with (first | (go_at_call 23; (with_reducible refine Calls.mono (rounds6_ (ns := s.1) (ps := s.2) hO) ?_); rw [E6.out]; rintro e w3 ⟨v3, rfl, ⟨A3, c3, B3, d3, C3, f3, rfl, hF3, hG3⟩, hb3⟩; simp only [List.length_nil] at hF3 hG3 ⊢; have hbw3 : BelL w w3 := belL) | ((with_reducible refine gate_dst (N := 9) rfl ?_); refine box_tc ?hg (N := 9) ?hd (cs := #[.slice none 0 0, .slice none 0 0, .slice none 0 0]) (t := 61) ?hr ?_; (case hd => rfl); (case hg => rfl); (case hr => first | (go_simp; done) | (go_simp; rfl)); intro g9 wg9 _ _ _) | (go_at_call 25; (with_reducible refine Calls.mono (ordered_ (ns := R) (ps := []) cR K3.out K4.out) ?_); rintro e wo ⟨rfl, hbo⟩) | (go_at_call 11; (with_reducible refine Calls.mono (num _ _) ?_); rintro e w' ⟨rfl, ⟨nd, rfl⟩⟩))
          go_ret
          exact ⟨rfl, belL⟩
end Go.Proofs.YtljipbmmgcccnaaGreat.T
end
