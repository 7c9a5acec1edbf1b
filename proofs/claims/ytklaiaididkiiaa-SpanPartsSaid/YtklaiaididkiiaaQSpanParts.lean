/- Over numbers and lists alone: each item is in just one of two parts of the ring; at every list within the size bound, and every two numbers. -/
import Derived.Test.YtklaiaididkiiaaSP
import Derived.Test.YtklaiaididkiiaaSSpanParts
namespace Go.Proofs.Ytklaiaididkiiaa.MS
set_option linter.unusedVariables false
open Go.RowKit Go.Proofs.YtklaiaididkiiaaW.PrintWords Go.Proofs.YtklaiaididkiiaaW.PrintLast

theorem two_SpanParts (xs : List S25) (hn : xs.length ≤ 3518437208883) (P Q : S25 → Bool) (hx : ∀ e ∈ xs, P e = !(Q e)) (d : Nat) : ∀ (k i : Nat) (A B : List S25), i ≤ xs.length → xs.length - i = d → 2 * d < k → A.length ≤ i → B.length ≤ i →
    gimmallaw6_SpanParts.l0 k xs (A ++ (xs.drop i).filter P) (B ++ (xs.drop i).filter Q) (A.length : Int) (B.length : Int) (i : Int) = some true := by
  induction d with
  | zero =>
    intro k i A B h1 hd hk ha hb
    obtain ⟨k, rfl⟩ : ∃ m, k = m + 1 := ⟨k - 1, by omega⟩
    have e : xs.drop i = [] := List.drop_of_length_le (by omega)
    simp only [gimmallaw6_SpanParts.l0]
    rw [if_neg (by omega), e]
    simp
  | succ d ih =>
    intro k i A B h1 hd hk ha hb
    obtain ⟨k, rfl⟩ : ∃ m, k = m + 1 := ⟨k - 1, by omega⟩
    obtain ⟨m, e'⟩ : ∃ m, k = m + 1 := ⟨k - 1, by omega⟩
    have hlt : i < xs.length := by omega
    have hlt' : (i : Int) < (xs.length : Int) := by omega
    have hmem : xs[i] ∈ xs := List.getElem_mem hlt
    have hpq := hx _ hmem
    have hd1 := List.drop_eq_getElem_cons hlt
    rw [hd1, List.filter_cons, List.filter_cons]
    simp only [gimmallaw6_SpanParts.l0]
    rw [if_pos hlt']
    have i0 : (0 : Int) ≤ (i : Int) := by omega
    have a0 : (0 : Int) ≤ (A.length : Int) := by omega
    have b0 : (0 : Int) ≤ (B.length : Int) := by omega
    have hrd := rd_get xs i hlt
    have wi : wrap64 ((i : Int) + 1) = ((i + 1 : Nat) : Int) := by rw [wrap_next i0 hlt' hn]; omega
    by_cases hP : P xs[i] = true
    · have hQ : ¬ (Q xs[i] = true) := by intro h; rw [h] at hpq; rw [hpq] at hP; cases hP
      rw [if_pos hP, if_neg hQ, if_pos (by simp [List.length_append]; omega), if_pos a0, if_pos i0]
      have heq : ((rd_T25 (A ++ xs[i] :: (xs.drop (i + 1)).filter P) (A.length : Int)).f0 == (rd_T25 xs (i : Int)).f0 && (((rd_T25 (A ++ xs[i] :: (xs.drop (i + 1)).filter P) (A.length : Int)).f1.f0 == (rd_T25 xs (i : Int)).f1.f0 && ((rd_T25 (A ++ xs[i] :: (xs.drop (i + 1)).filter P) (A.length : Int)).f1.f1 == (rd_T25 xs (i : Int)).f1.f1)) && ((rd_T25 (A ++ xs[i] :: (xs.drop (i + 1)).filter P) (A.length : Int)).f2 == (rd_T25 xs (i : Int)).f2 && ((rd_T25 (A ++ xs[i] :: (xs.drop (i + 1)).filter P) (A.length : Int)).f3 == (rd_T25 xs (i : Int)).f3)))) = true := by
        rw [rd_append, hrd]; exact (eqB_iff _ _).2 rfl
      rw [heq, e']
      simp only [gimmallaw6_SpanParts.j2, if_true]
      have wa : wrap64 ((A.length : Int) + 1) = (((A ++ [xs[i]]).length : Nat) : Int) := by rw [wrap_next a0 (by omega) hn, List.length_append]; rfl
      rw [wi, wa]
      clear wi wa
      have l1 : (A ++ [xs[i]]).length ≤ i + 1 := by rw [List.length_append]; simp only [List.length_cons, List.length_nil]; omega
      have := ih m (i + 1) (A ++ [xs[i]]) B (by omega) (by omega) (by omega) l1 (by omega)
      rw [List.append_assoc] at this
      exact this
    · have hQ : Q xs[i] = true := by
        cases hq : Q xs[i]
        · rw [hq] at hpq; exact absurd hpq hP
        · rfl
      rw [if_neg hP, if_pos hQ]
      have fin : gimmallaw6_SpanParts.j2 k xs (A ++ (xs.drop (i + 1)).filter P) (B ++ (xs[i] :: (xs.drop (i + 1)).filter Q)) (A.length : Int) (B.length : Int) (i : Int) false = some true := by
        rw [e']
        simp only [gimmallaw6_SpanParts.j2, Bool.false_eq_true, if_false]
        rw [if_pos (by simp [List.length_append]; omega), if_pos b0, if_pos i0, if_pos hlt', rd_append, hrd]
        have h5 : eqB xs[i] xs[i] = true := (eqB_iff _ _).2 rfl
        unfold eqB at h5
        rw [if_pos h5]
        have wb : wrap64 ((B.length : Int) + 1) = (((B ++ [xs[i]]).length : Nat) : Int) := by rw [wrap_next b0 (by omega) hn, List.length_append]; rfl
        rw [wi, wb]
        clear wi wb
        have l1 : (B ++ [xs[i]]).length ≤ i + 1 := by rw [List.length_append]; simp only [List.length_cons, List.length_nil]; omega
        have := ih m (i + 1) A (B ++ [xs[i]]) (by omega) (by omega) (by omega) (by omega) l1
        rw [List.append_assoc] at this
        exact this
      by_cases hA : (A.length : Int) < ((A ++ (xs.drop (i + 1)).filter P).length : Int)
      · rw [if_pos hA, if_pos a0, if_pos i0]
        cases hf : (xs.drop (i + 1)).filter P with
        | nil => rw [hf] at hA; simp at hA
        | cons y ys =>
          have hy : P y = true := filter_none (xs := xs.drop (i + 1)) y (by rw [hf]; exact List.mem_cons_self)
          have hne : ((rd_T25 (A ++ y :: ys) (A.length : Int)).f0 == (rd_T25 xs (i : Int)).f0 && (((rd_T25 (A ++ y :: ys) (A.length : Int)).f1.f0 == (rd_T25 xs (i : Int)).f1.f0 && ((rd_T25 (A ++ y :: ys) (A.length : Int)).f1.f1 == (rd_T25 xs (i : Int)).f1.f1)) && ((rd_T25 (A ++ y :: ys) (A.length : Int)).f2 == (rd_T25 xs (i : Int)).f2 && ((rd_T25 (A ++ y :: ys) (A.length : Int)).f3 == (rd_T25 xs (i : Int)).f3)))) = false := by
            rw [rd_append, hrd]
            cases hb : eqB y xs[i]
            · exact hb
            · exact absurd (((eqB_iff _ _).1 hb) ▸ hy) hP
          rw [hf] at fin
          rw [hne]
          exact fin
      · rw [if_neg hA]
        exact fin

theorem SpanParts (xs : List S25) (hn : xs.length ≤ 3518437208883) (a1 a2 : Int) : ∃ k, gimmallaw6_SpanParts.f k xs a1 a2 = some true := by
  refine ⟨2 * xs.length + 5 + 20, ?_⟩
  unfold gimmallaw6_SpanParts.f
  rw [gimmallaw6_awake.is_true]
  simp only [Option.bind_some, if_true, Plain.and255, gimmallaw0_Num.f]
  have hx : 0 ≤ a1 % 256 ∧ a1 % 256 < 256 := by omega
  have hy : 0 ≤ a2 % 256 ∧ a2 % 256 < 256 := by omega
  generalize a1 % 256 = x at hx
  generalize a2 % 256 = y at hy
  rcases span_f (2 * xs.length + 5 + 20) xs hn (by omega) with h | ⟨h, hkeys⟩
  · rw [h, h]
    simp only [Option.bind_some]
    rw [if_neg (by decide)]
    simp only [gimmallaw6_SpanParts.j0, if_true]
    simp [wrap64]
  · rw [h x y hx hy, h y x hy hx]
    simp only [Option.bind_some, if_true]
    have hf : ((0 : Int) != 0) = false := by decide
    rw [hf]
    simp only [gimmallaw6_SpanParts.j0, Bool.false_eq_true, if_false]
    by_cases e : x = y
    · subst e
      rw [if_pos rfl]
      have hall : xs.filter (fun e => inB x e.f0 x) = xs := by
        rw [List.filter_eq_self]
        intro e _
        unfold inB; simp
      rw [hall, same_f _ xs hn (by omega)]
      simp
    · rw [if_neg e]
      have := two_SpanParts xs hn (fun e => inB x e.f0 y) (fun e => inB y e.f0 x) (by
        intro z hz
        have hz' := hkeys z hz
        unfold inB
        by_cases h1 : x = y ∨ 0 < (z.f0 - x) % 256 ∧ (z.f0 - x) % 256 ≤ (y - x) % 256
        · have h2 : ¬ (y = x ∨ 0 < (z.f0 - y) % 256 ∧ (z.f0 - y) % 256 ≤ (x - y) % 256) := by omega
          rw [decide_eq_true h1, decide_eq_false h2]; rfl
        · have h2 : (y = x ∨ 0 < (z.f0 - y) % 256 ∧ (z.f0 - y) % 256 ≤ (x - y) % 256) := by omega
          rw [decide_eq_false h1, decide_eq_true h2]; rfl) xs.length (2 * xs.length + 24) 0 [] [] (by omega) (by omega) (by omega) (by simp) (by simp)
      simpa using this

end Go.Proofs.Ytklaiaididkiiaa.MS
