/- Over numbers and lists alone: of two unlike versions just one is newer, and of three it goes on; at every input, no condition. -/
import Derived.Test.YtfhffalljkppkaaPVersionRowx3
import Derived.Test.YtfhffalljkppkaaBits
namespace Go.Proofs.Ytfhffalljkppkaa.Pure
open Go.RowKit Go.Proofs.Ytfhffalljkppkaa.PVersionRow Go.Proofs.YtfhffalljkppkaaW.PrintWords Go.Proofs.YtfhffalljkppkaaW.PrintLast

theorem place (a : Int) : ring_Place.f a = some (decide (0 ≤ a ∧ a < 256)) := by
  unfold ring_Place.f
  by_cases h : a ≥ 0
  · rw [if_pos h]; congr 1; simp only [decide_eq_decide]; omega
  · rw [if_neg h]; congr 1; symm; simp only [decide_eq_false_iff_not]; omega

theorem may (c w : Int) : version_May.f c w = some (decide (1 ≤ c ∧ c ≤ 65535 ∧ 0 ≤ w ∧ w < 256)) := by
  unfold version_May.f
  rw [place]
  by_cases h : c ≥ 1
  · rw [if_pos h]
    by_cases h2 : c ≤ 65535
    · rw [if_pos h2]; simp only [Option.bind_some]; congr 1; simp only [decide_eq_decide]; omega
    · rw [if_neg h2]; congr 1; symm; simp only [decide_eq_false_iff_not]; omega
  · rw [if_neg h]; congr 1; symm; simp only [decide_eq_false_iff_not]; omega

theorem newer_in (a b c d : Int) (h : 1 ≤ a ∧ a ≤ 65535 ∧ 0 ≤ b ∧ b < 256) (g : 1 ≤ c ∧ c ≤ 65535 ∧ 0 ≤ d ∧ d < 256) :
    version_Newer.f a b c d = some (decide (a > c ∨ a = c ∧ b > d), 0) := by
  unfold version_Newer.f
  rw [may, may]; simp only [h, g, and_self, decide_true, Option.bind_some, if_true]
  by_cases e : a > c
  · simp [e]
  · by_cases p : a = c
    · subst p; simp
    · have : ¬ c < a := e
      simp [p, this]

theorem newer_out (a b c d : Int) (h : ¬ ((1 ≤ a ∧ a ≤ 65535 ∧ 0 ≤ b ∧ b < 256) ∧ (1 ≤ c ∧ c ≤ 65535 ∧ 0 ≤ d ∧ d < 256))) :
    version_Newer.f a b c d = some (false, 300) := by
  unfold version_Newer.f
  rw [may, may]; simp only [Option.bind_some]
  by_cases e : 1 ≤ a ∧ a ≤ 65535 ∧ 0 ≤ b ∧ b < 256
  · have g : ¬ (1 ≤ c ∧ c ≤ 65535 ∧ 0 ≤ d ∧ d < 256) := fun g => h ⟨e, g⟩
    rw [decide_eq_true e, decide_eq_false g]; rfl
  · rw [decide_eq_false e]; rfl

theorem awake_ : gimmallaw3_awake.f = some true := by
  unfold gimmallaw3_awake.f
  rw [newer_in _ _ _ _ (by omega) (by omega), newer_in _ _ _ _ (by omega) (by omega), newer_out _ _ _ _ (by omega), may]
  rfl

theorem VersionRow : gimmallaw3_VersionRow.Pure := by
  intro a0 a1 a2 w0 w1 w2
  unfold gimmallaw3_VersionRow.f
  rw [awake_]
  simp only [Option.bind_some, if_true, Plain.and3, gimmallaw0_Num.f]
  have e0 : wrap64 (1 + a0 % 4) = 1 + a0 % 4 := by unfold wrap64; omega
  have e1 : wrap64 (1 + a1 % 4) = 1 + a1 % 4 := by unfold wrap64; omega
  have e2 : wrap64 (1 + a2 % 4) = 1 + a2 % 4 := by unfold wrap64; omega
  rw [e0, e1, e2]
  have b0 : 0 ≤ a0 % 4 ∧ a0 % 4 < 4 := by omega
  have b1 : 0 ≤ a1 % 4 ∧ a1 % 4 < 4 := by omega
  have b2 : 0 ≤ a2 % 4 ∧ a2 % 4 < 4 := by omega
  have c0 : 0 ≤ a0 / 4 % 4 ∧ a0 / 4 % 4 < 4 := by omega
  have c1 : 0 ≤ a1 / 4 % 4 ∧ a1 / 4 % 4 < 4 := by omega
  have c2 : 0 ≤ a2 / 4 % 4 ∧ a2 / 4 % 4 < 4 := by omega
  generalize a0 / 4 % 4 = y0 at c0
  generalize a1 / 4 % 4 = y1 at c1
  generalize a2 / 4 % 4 = y2 at c2
  generalize a0 % 4 = x0 at b0
  generalize a1 % 4 = x1 at b1
  generalize a2 % 4 = x2 at b2
  rw [newer_in _ _ _ _ (by omega) (by omega), newer_in _ _ _ _ (by omega) (by omega), newer_in _ _ _ _ (by omega) (by omega), newer_in _ _ _ _ (by omega) (by omega)]
  simp only [Option.bind_some, if_true]
  by_cases h1 : 1 + x0 > 1 + x1 ∨ 1 + x0 = 1 + x1 ∧ y0 > y1
  · have h2 : ¬ (1 + x1 > 1 + x0 ∨ 1 + x1 = 1 + x0 ∧ y1 > y0) := by omega
    rw [decide_eq_true h1, decide_eq_false h2]
    have hne : (!((1 + x0) == (1 + x1)) || (!(y0 == y1))) = true := by
      simp only [Bool.or_eq_true, Bool.not_eq_true', beq_eq_false_iff_ne, ne_eq]
      omega
    rw [hne]
    simp only [Bool.false_eq_true, if_false, if_true, beq_self_eq_true]
    by_cases h3 : 1 + x1 > 1 + x2 ∨ 1 + x1 = 1 + x2 ∧ y1 > y2
    · have h4 : 1 + x0 > 1 + x2 ∨ 1 + x0 = 1 + x2 ∧ y0 > y2 := by omega
      rw [decide_eq_true h3, decide_eq_true h4]; rfl
    · rw [decide_eq_false h3]; rfl
  · rw [decide_eq_false h1]
    simp only [Bool.false_eq_true, if_false]
    by_cases h2 : 1 + x1 > 1 + x0 ∨ 1 + x1 = 1 + x0 ∧ y1 > y0
    · have hne : (!((1 + x0) == (1 + x1)) || (!(y0 == y1))) = true := by
        simp only [Bool.or_eq_true, Bool.not_eq_true', beq_eq_false_iff_ne, ne_eq]
        omega
      rw [decide_eq_true h2, hne]; rfl
    · have hx : x0 = x1 := by omega
      have hy : y0 = y1 := by omega
      subst hx; subst hy
      rw [decide_eq_false h2]; simp

end Go.Proofs.Ytfhffalljkppkaa.Pure
