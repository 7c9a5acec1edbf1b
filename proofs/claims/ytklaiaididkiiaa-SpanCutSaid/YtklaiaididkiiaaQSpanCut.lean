/- Over numbers and lists alone: a part of the ring cut in two is both, and nothing is in both; at every list within the size bound, and every three numbers. -/
import Derived.Test.YtklaiaididkiiaaSP
import Derived.Test.YtklaiaididkiiaaSSpanCut
namespace Go.Proofs.Ytklaiaididkiiaa.MS
set_option linter.unusedVariables false
open Go.RowKit Go.Proofs.YtklaiaididkiiaaW.PrintWords Go.Proofs.YtklaiaididkiiaaW.PrintLast

theorem two_SpanCut (xs : List S25) (hn : xs.length ≤ 3518437208883) (P Q : S25 → Bool) (hx : ∀ e ∈ xs, P e = !(Q e)) (d : Nat) : ∀ (k i : Nat) (A B : List S25), i ≤ xs.length → xs.length - i = d → 2 * d < k → A.length ≤ i → B.length ≤ i →
    gimmallaw6_SpanCut.l0 k (A ++ (xs.drop i).filter P) (B ++ (xs.drop i).filter Q) xs (A.length : Int) (B.length : Int) (i : Int) = some true := by
  induction d with
  | zero =>
    intro k i A B h1 hd hk ha hb
    obtain ⟨k, rfl⟩ : ∃ m, k = m + 1 := ⟨k - 1, by omega⟩
    have e : xs.drop i = [] := List.drop_of_length_le (by omega)
    simp only [gimmallaw6_SpanCut.l0]
    rw [if_neg (by omega), e]
    simp
  | succ d ih =>
    intro k i A B h1 hd hk ha hb
    obtain ⟨k, rfl⟩ : ∃ m, k = m + 1 := ⟨k - 1, by omega⟩
    obtain ⟨m, e'⟩ : ∃ m, k = m + 1 := ⟨k - 1, by omega⟩
    have hlt : i < xs.length := by omega
    have hlt' : (i : Int) < (xs.length : Int) := by omega
    have hmem : xs[i] ∈ xs := List.getElem_mem hlt
    have hpq := hx _ hmem
    have hd1 := List.drop_eq_getElem_cons hlt
    rw [hd1, List.filter_cons, List.filter_cons]
    simp only [gimmallaw6_SpanCut.l0]
    rw [if_pos hlt']
    have i0 : (0 : Int) ≤ (i : Int) := by omega
    have a0 : (0 : Int) ≤ (A.length : Int) := by omega
    have b0 : (0 : Int) ≤ (B.length : Int) := by omega
    have hrd := rd_get xs i hlt
    have wi : wrap64 ((i : Int) + 1) = ((i + 1 : Nat) : Int) := by rw [wrap_next i0 hlt' hn]; omega
    by_cases hP : P xs[i] = true
    · have hQ : ¬ (Q xs[i] = true) := by intro h; rw [h] at hpq; rw [hpq] at hP; cases hP
      rw [if_pos hP, if_neg hQ, if_pos (by simp [List.length_append]; omega), if_pos a0, if_pos i0]
      have heq : ((rd_T25 (A ++ xs[i] :: (xs.drop (i + 1)).filter P) (A.length : Int)).f0 == (rd_T25 xs (i : Int)).f0 && (((rd_T25 (A ++ xs[i] :: (xs.drop (i + 1)).filter P) (A.length : Int)).f1.f0 == (rd_T25 xs (i : Int)).f1.f0 && ((rd_T25 (A ++ xs[i] :: (xs.drop (i + 1)).filter P) (A.length : Int)).f1.f1 == (rd_T25 xs (i : Int)).f1.f1)) && ((rd_T25 (A ++ xs[i] :: (xs.drop (i + 1)).filter P) (A.length : Int)).f2 == (rd_T25 xs (i : Int)).f2 && ((rd_T25 (A ++ xs[i] :: (xs.drop (i + 1)).filter P) (A.length : Int)).f3 == (rd_T25 xs (i : Int)).f3)))) = true := by
        rw [rd_append, hrd]; exact (eqB_iff _ _).2 rfl
      rw [heq, e']
      simp only [gimmallaw6_SpanCut.j2, if_true]
      have wa : wrap64 ((A.length : Int) + 1) = (((A ++ [xs[i]]).length : Nat) : Int) := by rw [wrap_next a0 (by omega) hn, List.length_append]; rfl
      rw [wi, wa]
      clear wi wa
      have l1 : (A ++ [xs[i]]).length ≤ i + 1 := by rw [List.length_append]; simp only [List.length_cons, List.length_nil]; omega
      have := ih m (i + 1) (A ++ [xs[i]]) B (by omega) (by omega) (by omega) l1 (by omega)
      rw [List.append_assoc] at this
      exact this
    · have hQ : Q xs[i] = true := by
        cases hq : Q xs[i]
        · rw [hq] at hpq; exact absurd hpq hP
        · rfl
      rw [if_neg hP, if_pos hQ]
      have fin : gimmallaw6_SpanCut.j2 k (A ++ (xs.drop (i + 1)).filter P) (B ++ (xs[i] :: (xs.drop (i + 1)).filter Q)) xs (A.length : Int) (B.length : Int) (i : Int) false = some true := by
        rw [e']
        simp only [gimmallaw6_SpanCut.j2, Bool.false_eq_true, if_false]
        rw [if_pos (by simp [List.length_append]; omega), if_pos b0, if_pos i0, if_pos hlt', rd_append, hrd]
        have h5 : eqB xs[i] xs[i] = true := (eqB_iff _ _).2 rfl
        unfold eqB at h5
        rw [if_pos h5]
        have wb : wrap64 ((B.length : Int) + 1) = (((B ++ [xs[i]]).length : Nat) : Int) := by rw [wrap_next b0 (by omega) hn, List.length_append]; rfl
        rw [wi, wb]
        clear wi wb
        have l1 : (B ++ [xs[i]]).length ≤ i + 1 := by rw [List.length_append]; simp only [List.length_cons, List.length_nil]; omega
        have := ih m (i + 1) A (B ++ [xs[i]]) (by omega) (by omega) (by omega) (by omega) l1
        rw [List.append_assoc] at this
        exact this
      by_cases hA : (A.length : Int) < ((A ++ (xs.drop (i + 1)).filter P).length : Int)
      · rw [if_pos hA, if_pos a0, if_pos i0]
        cases hf : (xs.drop (i + 1)).filter P with
        | nil => rw [hf] at hA; simp at hA
        | cons y ys =>
          have hy : P y = true := filter_none (xs := xs.drop (i + 1)) y (by rw [hf]; exact List.mem_cons_self)
          have hne : ((rd_T25 (A ++ y :: ys) (A.length : Int)).f0 == (rd_T25 xs (i : Int)).f0 && (((rd_T25 (A ++ y :: ys) (A.length : Int)).f1.f0 == (rd_T25 xs (i : Int)).f1.f0 && ((rd_T25 (A ++ y :: ys) (A.length : Int)).f1.f1 == (rd_T25 xs (i : Int)).f1.f1)) && ((rd_T25 (A ++ y :: ys) (A.length : Int)).f2 == (rd_T25 xs (i : Int)).f2 && ((rd_T25 (A ++ y :: ys) (A.length : Int)).f3 == (rd_T25 xs (i : Int)).f3)))) = false := by
            rw [rd_append, hrd]
            cases hb : eqB y xs[i]
            · exact hb
            · exact absurd (((eqB_iff _ _).1 hb) ▸ hy) hP
          rw [hf] at fin
          rw [hne]
          exact fin
      · rw [if_neg hA]
        exact fin

theorem SpanCut (xs : List S25) (hn : xs.length ≤ 3518437208883) (a1 a2 a3 : Int) (w2 : (Lit.int .i64 a2).wf = true) : ∃ k, gimmallaw6_SpanCut.f k xs a1 a2 a3 = some true := by
  refine ⟨2 * xs.length + 5 + 20, ?_⟩
  unfold gimmallaw6_SpanCut.f
  rw [gimmallaw6_awake.is_true]
  simp only [Option.bind_some, if_true, Plain.and255, gimmallaw0_Num.f]
  have hx : 0 ≤ a1 % 256 ∧ a1 % 256 < 256 := by omega
  have hy : 0 ≤ a3 % 256 ∧ a3 % 256 < 256 := by omega
  generalize a1 % 256 = a at hx
  generalize a3 % 256 = c at hy
  have e1 : Int.tmod (wrap64 (wrap64 (c - a) + 256)) 256 = (c - a) % 256 := by
    unfold wrap64
    rw [Int.tmod_eq_emod_of_nonneg (by omega)]; omega
  rw [e1]
  by_cases hd : (c - a) % 256 < 2
  · rw [if_pos hd]
  · rw [if_neg hd]
    have e2 : IntKind.u64.wrap (wrap64 ((c - a) % 256 - 1)) = (c - a) % 256 - 1 := by
      have : wrap64 ((c - a) % 256 - 1) = (c - a) % 256 - 1 := by unfold wrap64; omega
      rw [this, u64_w]; omega
    rw [e2, if_neg (by omega)]
    obtain ⟨u, hu⟩ : ∃ u, IntKind.u64.wrap a2 = u := ⟨_, rfl⟩
    have hu0 : 0 ≤ u := by rw [← hu, u64_w]; omega
    rw [hu, Int.tmod_eq_emod_of_nonneg hu0]
    have hm0 : 0 ≤ u % ((c - a) % 256 - 1) := Int.emod_nonneg _ (by omega)
    have hm1 : u % ((c - a) % 256 - 1) < (c - a) % 256 - 1 := Int.emod_lt_of_pos _ (by omega)
    generalize u % ((c - a) % 256 - 1) = m at hm0 hm1
    have e3 : Int.tmod (wrap64 (wrap64 (a + 1) + wrap64 m)) 256 = (a + 1 + m) % 256 := by
      unfold wrap64
      rw [Int.tmod_eq_emod_of_nonneg (by omega)]; omega
    rw [e3]
    have hb : 0 ≤ (a + 1 + m) % 256 ∧ (a + 1 + m) % 256 < 256 := by omega
    clear e1 e2 e3
    generalize hbb : (a + 1 + m) % 256 = b at hb
    rcases span_f (2 * xs.length + 5 + 20) xs hn (by omega) with h | ⟨h, hkeys⟩
    · rw [h, h, h]
      simp only [Option.bind_some]
      rw [if_neg (by decide)]
      simp only [gimmallaw6_SpanCut.j0, if_true]
      simp [wrap64]
    · rw [h a b hx hb, h b c hb hy, h a c hx hy]
      simp only [Option.bind_some, if_true]
      have hf : ((0 : Int) != 0) = false := by decide
      rw [hf]
      simp only [gimmallaw6_SpanCut.j0, Bool.false_eq_true, if_false]
      have key : ∀ z ∈ xs, (inB a z.f0 c = (inB a z.f0 b || inB b z.f0 c)) ∧ ¬ (inB a z.f0 b = true ∧ inB b z.f0 c = true) := by
        intro z hz
        have hz' := hkeys z hz
        unfold inB
        have p1 : (decide (a = c ∨ 0 < (z.f0 - a) % 256 ∧ (z.f0 - a) % 256 ≤ (c - a) % 256)) = decide ((a = b ∨ 0 < (z.f0 - a) % 256 ∧ (z.f0 - a) % 256 ≤ (b - a) % 256) ∨ (b = c ∨ 0 < (z.f0 - b) % 256 ∧ (z.f0 - b) % 256 ≤ (c - b) % 256)) := by
          simp only [decide_eq_decide]; omega
        rw [p1]
        constructor
        · simp
        · simp only [decide_eq_true_eq]; omega
      have fp : ∀ (p : S25 → Bool), (∀ z ∈ xs, p z = true → inB a z.f0 c = true) → xs.filter p = (xs.filter (fun e => inB a e.f0 c)).filter p := by
        intro p hp
        rw [List.filter_filter]
        refine List.filter_congr fun z hz => ?_
        cases hpz : p z
        · simp
        · simp [hp z hz hpz]
      have f1 := fp (fun e => inB a e.f0 b) (fun z hz h1 => by rw [(key z hz).1]; rw [h1]; rfl)
      have f2 := fp (fun e => inB b e.f0 c) (fun z hz h1 => by rw [(key z hz).1]; rw [h1]; simp)
      have hk2 : ∀ e ∈ xs.filter (fun e => inB a e.f0 c), inB a e.f0 b = !(inB b e.f0 c) := by
        intro z hz
        obtain ⟨hz1, hz2⟩ := List.mem_filter.1 hz
        obtain ⟨k1, k2⟩ := key z hz1
        rw [k1] at hz2
        cases h1 : inB a z.f0 b <;> cases h2 : inB b z.f0 c <;> simp [h1, h2] at hz2 k2 ⊢
      rw [f1, f2]
      have hl : (xs.filter (fun e => inB a e.f0 c)).length ≤ xs.length := List.length_filter_le _ _
      generalize xs.filter (fun e => inB a e.f0 c) = r at hk2 hl ⊢
      have := two_SpanCut r (by omega) (fun e => inB a e.f0 b) (fun e => inB b e.f0 c) hk2 r.length (2 * xs.length + 24) 0 [] [] (by omega) (by omega) (by omega) (by simp) (by simp)
      simpa using this

end Go.Proofs.Ytklaiaididkiiaa.MS
