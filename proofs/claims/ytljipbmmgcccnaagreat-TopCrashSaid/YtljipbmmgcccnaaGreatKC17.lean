/- Words and lemmas that the claim's proof names, part 17: what the program's functions answer, at the inputs that each theorem's premises name. Conditions: each theorem's own premises. -/
import Derived.Test.YtljipbmmgcccnaaGreatKC16
import Derived.Test.YtljipbmmgcccnaaGreatRows
import Derived.ProofKit
import Derived.OpenShut
import Derived.Lib.SmallJoins
import Derived.SizedLaws
import Derived.Deep.Slices
section
namespace Go.Proofs.YtljipbmmgcccnaaGreat.T
open Go.ChangeShapes Go.WideShapes Go.ChangeAt Go.Joins Go.Deep Go.RowKit Go.Proofs.YtljipbmmgcccnaaGreatW.PrintWords Go.Proofs.YtljipbmmgcccnaaGreatW.PrintLast Go.Proofs.YtljipbmmgcccnaaGreatW.PrintMore
attribute [local go_sem] cell_tc frozen_tc max2_int min2_int
attribute [local go_sem ↓] Go.wp_at_zero Go.wp_at_succ
set_option linter.unusedVariables false
set_option linter.unusedSimpArgs false
set_option synthInstance.maxHeartbeats 400000
set_option synthInstance.maxSize 512
set_option maxRecDepth 100000
theorem laidOut : laidOutB Tryz.prog = true := by kernel_rfl
theorem cells25 : Tryz.prog.cellsOf 25 = 3 := by kernel_rfl
theorem cells22 : Tryz.prog.cellsOf 22 = 1 := by kernel_rfl
theorem cells23 : Tryz.prog.cellsOf 23 = 1 := by kernel_rfl
theorem cells98 : Tryz.prog.cellsOf 98 = 2 := by kernel_rfl
theorem cells3 : Tryz.prog.cellsOf 3 = 1 := by kernel_rfl
theorem cells4 : Tryz.prog.cellsOf 4 = 1 := by kernel_rfl
theorem cells46 : Tryz.prog.cellsOf 46 = 2 := by kernel_rfl
theorem cells48 : Tryz.prog.cellsOf 48 = 5 := by kernel_rfl
theorem cells77 : Tryz.prog.cellsOf 77 = 3 := by kernel_rfl
theorem cells37 : Tryz.prog.cellsOf 37 = 1 := by kernel_rfl
theorem cells38 : Tryz.prog.cellsOf 38 = 1 := by kernel_rfl
theorem cells40 : Tryz.prog.cellsOf 40 = 6 := by kernel_rfl
theorem array3 {α : Type} {a : Array α} (h : a.size = 3) : ∃ x y z, a = #[x, y, z] := by
  obtain ⟨l⟩ := a
  match l, h with
  | [x, y, z], _ => exact ⟨x, y, z, rfl⟩
def Opn {α : Type} (k : Kd α) (T : TypeId) : Prop := ∀ {H : Type} {enc : TypeId × Value → H} {W : World} {base : Nat} {spare : Nat → Bool} {held : Bool} {n : Nat} {cs : List Value} {y : DataW H × List MemPlace},
  DataW.trod enc Tryz.prog W base spare held n T cs = some y → ∃ x : α, k.K W x cs
theorem opn3 : Opn kI 3 := by
  intro H enc W base spare held n cs y h
  obtain ⟨k, e0, _, _⟩ := DataW.trod_int Tryz.underlying3 h
  exact ⟨k, e0⟩
theorem opn98 : Opn k98 98 := by
  intro H enc W base spare held n cs y h
  obtain ⟨y0, y1, m, hx, hl, h0, h1⟩ := trod_struct2 Tryz.underlying98 h
  rw [cells98] at hl
  match cs, hl with
  | [c0, c1], _ =>
    simp only [cells3, List.drop, List.take] at h0 h1
    obtain ⟨a, e0, _, _⟩ := DataW.trod_int Tryz.underlying3 h0
    obtain ⟨b, e1, _, _⟩ := DataW.trod_int Tryz.underlying3 h1
    simp only [List.cons.injEq, and_true] at e0 e1
    subst e0 e1
    exact ⟨⟨a, b⟩, k98_mk W ⟨a, b⟩⟩
theorem opn48 : Opn k48 48 := by
  intro H enc W base spare held n cs y h
  obtain ⟨y0, y1, y2, y3, m, hx, hl, h0, h1, h2, h3⟩ := trod_struct4 Tryz.underlying48 h
  rw [cells48] at hl
  match cs, hl with
  | [c0, c1, c2, c3, c4], _ =>
    simp only [cells3, cells4, cells46, List.drop, List.take] at h0 h1 h2 h3
    obtain ⟨k, e0, _, _⟩ := DataW.trod_int Tryz.underlying3 h0
    obtain ⟨v', e2, _, _⟩ := DataW.trod_int Tryz.underlying3 h2
    obtain ⟨g, e3, _⟩ := DataW.trod_bool Tryz.underlying4 h3
    obtain ⟨z0, z1, m', _, _, g0, g1⟩ := trod_struct2 Tryz.underlying46 h1
    simp only [cells3, List.drop, List.take] at g0 g1
    obtain ⟨c, f0, _, _⟩ := DataW.trod_int Tryz.underlying3 g0
    obtain ⟨x, f1, _, _⟩ := DataW.trod_int Tryz.underlying3 g1
    simp only [List.cons.injEq, and_true] at e0 e2 e3 f0 f1
    subst e0 e2 e3 f0 f1
    exact ⟨⟨k, ⟨c, x⟩, v', g⟩, k48_mk W ⟨k, ⟨c, x⟩, v', g⟩⟩
theorem opn77 : Opn k77 77 := by
  intro H enc W base spare held n cs y h
  obtain ⟨y0, y1, y2, m, hx, hl, h0, h1, h2⟩ := trod_struct3 Tryz.underlying77 h
  rw [cells77] at hl
  match cs, hl with
  | [c0, c1, c2], _ =>
    simp only [cells3, cells4, List.drop, List.take] at h0 h1 h2
    obtain ⟨k, e0, _, _⟩ := DataW.trod_int Tryz.underlying3 h0
    obtain ⟨g, e1, _⟩ := DataW.trod_bool Tryz.underlying4 h1
    obtain ⟨v', e2, _, _⟩ := DataW.trod_int Tryz.underlying3 h2
    simp only [List.cons.injEq, and_true] at e0 e1 e2
    subst e0 e1 e2
    exact ⟨⟨k, g, v'⟩, k77_mk W ⟨k, g, v'⟩⟩
theorem open_sl {α : Type} {k : Kd α} {e T : TypeId} (hu : Tryz.prog.underlying T = some (.slice e)) (hs : Tryz.prog.cellsOf e = k.sz) (ho : Opn k e) (z : α)
    {H : Type} {enc : TypeId × Value → H} {W : World} {base : Nat} {spare : Nat → Bool} {held : Bool} {n : Nat} {cs : List Value} {y : DataW H × List MemPlace}
    (h : DataW.trod enc Tryz.prog W base spare held n T cs = some y) :
    ∃ A len cap xs, cs = [.slice A len cap] ∧ Sr k W A len cap xs := by
  rcases open_slice hu h with ⟨rfl, _⟩ | ⟨x, l, c, m, q, D, Pl, rfl, hb, hl, hm, hmm, hx, hall⟩
  · exact ⟨none, 0, 0, [], rfl, ⟨rfl, Nat.le_refl _, ⟨rfl, by omega, fun h => absurd h (by omega)⟩⟩⟩
  · have hlm : l ≤ m := by rw [hmm]; split <;> omega
    have each : ∀ i, i < l → ∃ (y : α) (cs' : List Value), k.K W y cs' ∧ ∀ q u, cs'[q]? = some u → W.cell? (x.add (i * k.sz + q)) = some u := by
      intro i hi
      obtain ⟨cs', h1, h2⟩ := hall i (by omega)
      rw [hs] at h1
      obtain ⟨y, hy⟩ := ho h2
      refine ⟨y, cs', hy, fun q u hu' => ?_⟩
      obtain ⟨_, _, hc⟩ := World.cells?_some h1
      have hq : q < k.sz := by
        have := (List.getElem?_eq_some_iff.1 hu').1
        rwa [k.K_len hy] at this
      have := (hc q hq).trans hu'
      rw [show x.add (i * k.sz + q) = (x.add (i * k.sz)).add q from (Addr.add_add x (i * k.sz) q).symm]
      exact this
    obtain ⟨f, hfun⟩ : ∃ f : Nat → α, ∀ i, i < l → ∃ cs' : List Value, k.K W (f i) cs' ∧ ∀ q u, cs'[q]? = some u → W.cell? (x.add (i * k.sz + q)) = some u := by
      refine ⟨fun i => if h : i < l then (each i h).choose else z, fun i hi => ?_⟩
      simp only [dif_pos hi]
      exact (each i hi).choose_spec
    refine ⟨some x, l, c, (List.range l).map f, rfl, ⟨by simp, hl, ⟨by simp, ?_, fun _ => ⟨x, rfl, fun i y hy => ?_⟩⟩⟩⟩
    · unfold maxLen at hm; omega
    · have hi : i < l := by
        rcases Nat.lt_or_ge i l with h | h
        · exact h
        · rw [List.getElem?_eq_none (by simpa using h)] at hy; cases hy
      rw [List.getElem?_map, List.getElem?_range hi] at hy
      obtain rfl := Option.some.inj hy
      obtain ⟨cs', hk, hcell⟩ := hfun i hi
      exact ⟨cs', k.K_len hk, hk, hcell⟩
end Go.Proofs.YtljipbmmgcccnaaGreat.T
end
section
namespace Go.Proofs.YtljipbmmgcccnaaGreat.T
open Go.ChangeShapes Go.WideShapes Go.ChangeAt Go.Joins Go.Deep Go.RowKit Go.Proofs.YtljipbmmgcccnaaGreatW.PrintWords Go.Proofs.YtljipbmmgcccnaaGreatW.PrintLast Go.Proofs.YtljipbmmgcccnaaGreatW.PrintMore
set_option linter.unusedVariables false
set_option linter.unusedSimpArgs false
set_option maxRecDepth 100000
theorem cells57 : Tryz.prog.cellsOf 57 = 1 := by kernel_rfl
theorem cells58 : Tryz.prog.cellsOf 58 = 1 := by kernel_rfl
theorem cells59 : Tryz.prog.cellsOf 59 = 1 := by kernel_rfl
theorem cells61 : Tryz.prog.cellsOf 61 = 3 := by kernel_rfl
theorem cells126 : Tryz.prog.cellsOf 126 = 11 := by kernel_rfl
theorem cells157 : Tryz.prog.cellsOf 157 = 2 := by kernel_rfl
theorem by40 : Tryz.prog.bytesOf 40 = 112 := by kernel_rfl
def Fits (l : List Nat) : Prop := ∀ q ∈ l, q ≤ reachBytes
theorem Fits.left {a b : List Nat} (h : Fits (a ++ b)) : Fits a := fun q hq => h q (List.mem_append_left _ hq)
theorem Fits.right {a b : List Nat} (h : Fits (a ++ b)) : Fits b := fun q hq => h q (List.mem_append_right _ hq)
theorem fits_all {H : Type} {e : TypeId} : ∀ {l : List (DataW H)}, Fits (DataW.weightsAll Tryz.prog e l) → ∀ d ∈ l, Fits (d.weights Tryz.prog e)
  | [], _, d, hd => nomatch hd
  | x :: l, h, d, hd => by
    unfold DataW.weightsAll at h
    rcases List.mem_cons.1 hd with rfl | hd
    · exact h.left
    · exact fits_all h.right d hd
def Opg {α : Type} (k : Kd α) (T : TypeId) (G : α → Prop) : Prop := ∀ {H : Type} {enc : TypeId × Value → H} {W : World} {base : Nat} {spare : Nat → Bool} {held : Bool} {n : Nat} {cs : List Value} {y : DataW H × List MemPlace},
  DataW.trod enc Tryz.prog W base spare held n T cs = some y → Fits (y.1.weights Tryz.prog T) → ∃ x : α, k.K W x cs ∧ G x
theorem opg_of {α : Type} {k : Kd α} {T : TypeId} (h : Opn k T) : Opg k T fun _ => True := fun hy _ => by
  obtain ⟨x, hx⟩ := h hy
  exact ⟨x, hx, trivial⟩
theorem open_slg {α : Type} {k : Kd α} {G : α → Prop} {e T : TypeId} (hu : Tryz.prog.underlying T = some (.slice e)) (hs : Tryz.prog.cellsOf e = k.sz) (ho : Opg k e G) (z : α)
    {H : Type} {enc : TypeId × Value → H} {W : World} {base : Nat} {spare : Nat → Bool} {held : Bool} {n : Nat} {cs : List Value} {y : DataW H × List MemPlace}
    (h : DataW.trod enc Tryz.prog W base spare held n T cs = some y) (hw : Fits (y.1.weights Tryz.prog T)) :
    ∃ A len cap xs, cs = [.slice A len cap] ∧ Sr k W A len cap xs ∧ len * Tryz.prog.bytesOf e ≤ reachBytes ∧ ∀ x ∈ xs, G x := by
  rcases open_slice hu h with ⟨rfl, _⟩ | ⟨x, l, c, m, q, D, Pl, rfl, hb, hl, hm, hmm, hx, hall⟩
  · exact ⟨none, 0, 0, [], rfl, ⟨rfl, Nat.le_refl _, ⟨rfl, by omega, fun h => absurd h (by omega)⟩⟩, by rw [Nat.zero_mul]; exact Nat.zero_le _, fun x hx => nomatch hx⟩
  · have hlm : l ≤ m := by rw [hmm]; split <;> omega
    rw [hx] at hw
    simp only [DataW.weights, hu] at hw
    have hbytes : l * Tryz.prog.bytesOf e ≤ reachBytes := by
      have h1 := hw _ (List.mem_cons_self ..)
      rw [List.length_map, List.length_range] at h1
      exact Nat.le_trans (Nat.mul_le_mul_right _ (Nat.le_add_right _ _)) h1
    have hel : ∀ i, i < l → Fits ((D i).weights Tryz.prog e) := fun i hi => by
      have h2 : Fits (DataW.weightsAll Tryz.prog e ((List.range l).map D)) := fun q hq => hw q (List.mem_cons_of_mem _ (List.mem_append_left _ hq))
      exact fits_all h2 (D i) (List.mem_map.2 ⟨i, List.mem_range.2 hi, rfl⟩)
    have each : ∀ i, i < l → ∃ (y : α), G y ∧ ∃ (cs' : List Value), k.K W y cs' ∧ ∀ q u, cs'[q]? = some u → W.cell? (x.add (i * k.sz + q)) = some u := by
      intro i hi
      obtain ⟨cs', h1, h2⟩ := hall i (by omega)
      rw [hs] at h1
      obtain ⟨y, hy, hg⟩ := ho h2 (hel i hi)
      refine ⟨y, hg, cs', hy, fun q u hu' => ?_⟩
      obtain ⟨_, _, hc⟩ := World.cells?_some h1
      have hq : q < k.sz := by
        have := (List.getElem?_eq_some_iff.1 hu').1
        rwa [k.K_len hy] at this
      have := (hc q hq).trans hu'
      rw [show x.add (i * k.sz + q) = (x.add (i * k.sz)).add q from (Addr.add_add x (i * k.sz) q).symm]
      exact this
    obtain ⟨f, hfun⟩ : ∃ f : Nat → α, ∀ i, i < l → G (f i) ∧ ∃ cs' : List Value, k.K W (f i) cs' ∧ ∀ q u, cs'[q]? = some u → W.cell? (x.add (i * k.sz + q)) = some u := by
      refine ⟨fun i => if h : i < l then (each i h).choose else z, fun i hi => ?_⟩
      simp only [dif_pos hi]
      exact (each i hi).choose_spec
    refine ⟨some x, l, c, (List.range l).map f, rfl, ⟨by simp, hl, ⟨by simp, ?_, fun _ => ⟨x, rfl, fun i y hy => ?_⟩⟩⟩, hbytes, fun y hy => ?_⟩
    · unfold maxLen at hm; omega
    · have hi : i < l := by
        rcases Nat.lt_or_ge i l with h | h
        · exact h
        · rw [List.getElem?_eq_none (by simpa using h)] at hy; cases hy
      rw [List.getElem?_map, List.getElem?_range hi] at hy
      obtain rfl := Option.some.inj hy
      obtain ⟨_, cs', hk, hcell⟩ := hfun i hi
      exact ⟨cs', k.K_len hk, hk, hcell⟩
    · obtain ⟨i, hi, rfl⟩ := List.mem_map.1 hy
      exact (hfun i (List.mem_range.1 hi)).1
def FitV (v : S25) : Prop := v.f1.length * 16 ≤ reachBytes ∧ v.f2.length * 8 ≤ reachBytes
def FitN (x : S40) : Prop := FitV x.f1 ∧ x.f2.length * 40 ≤ reachBytes ∧ x.f3.length * 24 ≤ reachBytes
theorem opg25 : Opg k25 25 FitV := by
  intro H enc W base spare held n cs y h hw
  obtain ⟨y0, y1, y2, m, hx, hl, h0, h1, h2⟩ := trod_struct3 Tryz.underlying25 h
  rw [cells25] at hl
  rw [hx] at hw
  simp only [DataW.weights, Tryz.underlying25] at hw
  have hw' : Fits (DataW.weightsEach Tryz.prog [3, 22, 23] [y0.1, y1.1, y2.1]) := hw
  simp only [DataW.weightsEach] at hw'
  match cs, hl with
  | [c0, c1, c2], _ =>
    simp only [cells3, cells22, cells23, List.drop, List.take] at h0 h1 h2
    obtain ⟨id, e0, _, _⟩ := DataW.trod_int Tryz.underlying3 h0
    obtain ⟨A, n, c, ps, e1, s1, b1, _⟩ := open_slg Tryz.underlying22 cells98 (opg_of opn98) z98 h1 hw'.right.left
    obtain ⟨B, m, e, xs, e2, s2, b2, _⟩ := open_slg Tryz.underlying23 cells3 (opg_of opn3) 0 h2 hw'.right.right.left
    simp only [List.cons.injEq, and_true] at e0 e1 e2
    subst e0 e1 e2
    obtain rfl := s1.len
    obtain rfl := s2.len
    rw [by98] at b1
    rw [by3] at b2
    exact ⟨⟨id, ps, xs⟩, k25_mk W ⟨id, ps, xs⟩ s1.le s1.C s2.le s2.C, b1, b2⟩
theorem opg40 : Opg k40 40 FitN := by
  intro H enc W base spare held n cs y h hw
  obtain ⟨y0, y1, y2, y3, m, hx, hl, h0, h1, h2, h3⟩ := trod_struct4 Tryz.underlying40 h
  rw [cells40] at hl
  rw [hx] at hw
  simp only [DataW.weights, Tryz.underlying40] at hw
  have hw' : Fits (DataW.weightsEach Tryz.prog [4, 25, 37, 38] [y0.1, y1.1, y2.1, y3.1]) := hw
  simp only [DataW.weightsEach] at hw'
  match cs, hl with
  | [c0, c1, c2, c3, c4, c5], _ =>
    simp only [cells4, cells25, cells37, cells38, List.drop, List.take] at h0 h1 h2 h3
    obtain ⟨up, e0, _⟩ := DataW.trod_bool Tryz.underlying4 h0
    obtain ⟨v, hv, g1⟩ := opg25 h1 hw'.right.left
    obtain ⟨A1, d1, A2, d2, e1, l1, q1, l2, q2⟩ := k25_open hv
    obtain ⟨I, ni, ci, is, e2, s2, b2, _⟩ := open_slg Tryz.underlying37 cells48 (opg_of opn48) z48 h2 hw'.right.right.left
    obtain ⟨L, nl, cl, ls, e3, s3, b3, _⟩ := open_slg Tryz.underlying38 cells77 (opg_of opn77) z77 h3 hw'.right.right.right.left
    simp only [List.cons.injEq, and_true] at e0 e1 e2 e3
    obtain ⟨rfl, rfl, rfl⟩ := e1
    subst e0 e2 e3
    obtain rfl := s2.len
    obtain rfl := s3.len
    rw [by48] at b2
    rw [by77] at b3
    exact ⟨⟨up, v, is, ls⟩, k40_mk W ⟨up, v, is, ls⟩ l1 q1 l2 q2 s2.le s2.C s3.le s3.C, g1, b2, b3⟩
theorem opn126 : Opn k126 126 := by
  intro H enc W base spare held n cs y h
  obtain ⟨xs, m, _, hx, hl, hlen, hf⟩ := DataW.trod_struct Tryz.underlying126 h
  rw [cells126] at hl
  match xs, hlen, cs, hl with
  | [y0, y1, y2, y3, y4, y5, y6], _, [c0, c1, c2, c3, c4, c5, c6, c7, c8, c9, c10], _ =>
    have h0 := hf 0 _ rfl
    have h1 := hf 1 _ rfl
    have h2 := hf 2 _ rfl
    have h3 := hf 3 _ rfl
    have h4 := hf 4 _ rfl
    have h5 := hf 5 _ rfl
    have h6 := hf 6 _ rfl
    have h0 : DataW.trod enc Tryz.prog W base spare held m 3 [c0] = some y0 := h0
    have h1 : DataW.trod enc Tryz.prog W base spare held m 3 [c1] = some y1 := h1
    have h2 : DataW.trod enc Tryz.prog W base spare held m 3 [c2] = some y2 := h2
    have h3 : DataW.trod enc Tryz.prog W base spare held m 23 [c3] = some y3 := h3
    have h4 : DataW.trod enc Tryz.prog W base spare held m 3 [c4] = some y4 := h4
    have h5 : DataW.trod enc Tryz.prog W base spare held m 48 [c5, c6, c7, c8, c9] = some y5 := h5
    have h6 : DataW.trod enc Tryz.prog W base spare held m 4 [c10] = some y6 := h6
    obtain ⟨a0, e0, _, _⟩ := DataW.trod_int Tryz.underlying3 h0
    obtain ⟨a1, e1, _, _⟩ := DataW.trod_int Tryz.underlying3 h1
    obtain ⟨a2, e2, _, _⟩ := DataW.trod_int Tryz.underlying3 h2
    obtain ⟨A3, n3, c3', ids, e3, s3⟩ := open_sl Tryz.underlying23 cells3 opn3 0 h3
    obtain ⟨a4, e4, _, _⟩ := DataW.trod_int Tryz.underlying3 h4
    obtain ⟨i5, hi5⟩ := opn48 h5
    have e5 := k48_open hi5
    obtain ⟨a6, e6, _⟩ := DataW.trod_bool Tryz.underlying4 h6
    simp only [List.cons.injEq, and_true] at e0 e1 e2 e3 e4 e5 e6
    obtain ⟨rfl, rfl, rfl, rfl, rfl⟩ := e5
    subst e0 e1 e2 e3 e4 e6
    obtain rfl := s3.len
    exact ⟨⟨a0, a1, a2, ids, a4, i5, a6⟩, k126_mk W ⟨a0, a1, a2, ids, a4, i5, a6⟩ s3.le s3.C⟩
theorem opn157 : Opn k157 157 := by
  intro H enc W base spare held n cs y h
  obtain ⟨y0, y1, m, hx, hl, h0, h1⟩ := trod_struct2 Tryz.underlying157 h
  rw [cells157] at hl
  match cs, hl with
  | [c0, c1], _ =>
    simp only [cells3, List.drop, List.take] at h0 h1
    obtain ⟨a, e0, _, _⟩ := DataW.trod_int Tryz.underlying3 h0
    obtain ⟨b, e1, _, _⟩ := DataW.trod_int Tryz.underlying3 h1
    simp only [List.cons.injEq, and_true] at e0 e1
    subst e0 e1
    exact ⟨⟨a, b⟩, k157_mk W ⟨a, b⟩⟩
theorem open_world {H : Type} {enc : TypeId × Value → H} {w : World} {r : _root_.Go.Reach} {b0 base : Nat} {spare : Nat → Bool} {held : Bool} {v : Value} {d : DataW H} {p : List MemPlace}
    (hv : Value.okWide Tryz.prog w r b0 61 v) (h : DataW.Trod enc Tryz.prog w base spare held 61 v d p) (hw : Fits (d.weights Tryz.prog 61)) :
    ∃ (A : Option Addr) (n c : Nat) (ns : List S40) (B : Option Addr) (m e : Nat) (C : Option Addr) (k f : Nat) (ps : List S126), v = .agg #[.slice A n c, .slice B m e, .slice C k f] ∧ Sr k40 w A n c ns ∧ Sr k126 w C k f ps ∧ nodesFit ns ∧ n * 112 ≤ reachBytes := by
  obtain ⟨cs, rfl, hsz⟩ := okWide_struct Tryz.underlying61 hv
  obtain ⟨fuel, hf⟩ := h
  obtain ⟨y0, y1, y2, m, hx, hl, h0, h1, h2⟩ := trod_struct3 Tryz.underlying61 hf
  obtain ⟨c0, c1, c2, rfl⟩ := array3 (hsz.trans cells61)
  have hx1 : d = .agg [y0.1, y1.1, y2.1] := congrArg Prod.fst hx
  rw [hx1] at hw
  simp only [DataW.weights, Tryz.underlying61] at hw
  have hw' : Fits (DataW.weightsEach Tryz.prog [57, 58, 59] [y0.1, y1.1, y2.1]) := hw
  simp only [DataW.weightsEach] at hw'
  simp only [Value.cells, cells57, cells58, cells59, List.drop, List.take] at h0 h1 h2
  obtain ⟨A, n, c, ns, e0, s0, b0, g0⟩ := open_slg Tryz.underlying57 cells40 opg40 z40 h0 hw'.left
  obtain ⟨B, m, e, xs, e1, s1⟩ := open_sl Tryz.underlying58 cells157 opn157 z157 h1
  obtain ⟨C, k, f, ps, e2, s2⟩ := open_sl Tryz.underlying59 cells126 opn126 z126 h2
  simp only [List.cons.injEq, and_true] at e0 e1 e2
  subst e0 e1 e2
  rw [by40] at b0
  refine ⟨A, n, c, ns, B, m, e, C, k, f, ps, rfl, s0, s2, fun x hx => ?_, b0⟩
  obtain ⟨⟨g1, g2⟩, g3, g4⟩ := g0 x hx
  unfold reachBytes at g1 g2 g3 g4
  unfold nodeSz
  omega
end Go.Proofs.YtljipbmmgcccnaaGreat.T
end
