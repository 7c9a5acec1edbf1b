/- Over numbers alone: which of two versions is newer is the reference's answer; at every input. -/
import Derived.Test.YtfhffalljkppkaaPVersionsx2
namespace Go.Proofs.Ytfhffalljkppkaa.Pure
open Go.RowKit Go.Proofs.Ytfhffalljkppkaa.PVersions Go.Proofs.YtfhffalljkppkaaW.PrintWords Go.Proofs.YtfhffalljkppkaaW.PrintLast

theorem place (a : Int) : ring_Place.f a = some (decide (0 ≤ a ∧ a < 256)) := by
  unfold ring_Place.f
  by_cases h : a ≥ 0
  · rw [if_pos h]; congr 1; simp only [decide_eq_decide]; omega
  · rw [if_neg h]; congr 1; symm; simp only [decide_eq_false_iff_not]; omega

theorem may (c w : Int) : version_May.f c w = some (decide (1 ≤ c ∧ c ≤ 65535 ∧ 0 ≤ w ∧ w < 256)) := by
  unfold version_May.f
  rw [place]
  by_cases h : c ≥ 1
  · rw [if_pos h]
    by_cases h2 : c ≤ 65535
    · rw [if_pos h2]; simp only [Option.bind_some]; congr 1; simp only [decide_eq_decide]; omega
    · rw [if_neg h2]; congr 1; symm; simp only [decide_eq_false_iff_not]; omega
  · rw [if_neg h]; congr 1; symm; simp only [decide_eq_false_iff_not]; omega

theorem rmay (c w : Int) : gimmalref1_VersionMay.f c w = version_May.f c w := rfl

theorem newer_in (a b c d : Int) (h : 1 ≤ a ∧ a ≤ 65535 ∧ 0 ≤ b ∧ b < 256) (g : 1 ≤ c ∧ c ≤ 65535 ∧ 0 ≤ d ∧ d < 256) :
    version_Newer.f a b c d = some (decide (a > c ∨ a = c ∧ b > d), 0) := by
  unfold version_Newer.f
  rw [may, may]; simp only [h, g, and_self, decide_true, Option.bind_some, if_true]
  by_cases e : a > c
  · simp [e]
  · by_cases p : a = c
    · subst p; simp
    · have : ¬ c < a := e
      simp [p, this]

theorem newer_out (a b c d : Int) (h : ¬ ((1 ≤ a ∧ a ≤ 65535 ∧ 0 ≤ b ∧ b < 256) ∧ (1 ≤ c ∧ c ≤ 65535 ∧ 0 ≤ d ∧ d < 256))) :
    version_Newer.f a b c d = some (false, 300) := by
  unfold version_Newer.f
  rw [may, may]; simp only [Option.bind_some]
  by_cases e : 1 ≤ a ∧ a ≤ 65535 ∧ 0 ≤ b ∧ b < 256
  · have g : ¬ (1 ≤ c ∧ c ≤ 65535 ∧ 0 ≤ d ∧ d < 256) := fun g => h ⟨e, g⟩
    rw [decide_eq_true e, decide_eq_false g]; rfl
  · rw [decide_eq_false e]; rfl

theorem rnewer (a b c d : Int) : gimmalref1_Newer.f a b c d = version_Newer.f a b c d := rfl

theorem awake_ : gimmallaw3_awake.f = some true := by
  unfold gimmallaw3_awake.f
  rw [newer_in _ _ _ _ (by omega) (by omega), newer_in _ _ _ _ (by omega) (by omega), newer_out _ _ _ _ (by omega), may]
  rfl

theorem Versions (a b c d : Int) : gimmallaw3_Versions.f a b c d = some true := by
  unfold gimmallaw3_Versions.f
  rw [rnewer, rmay, may, awake_]
  obtain ⟨p, hp⟩ : ∃ p, version_Newer.f a b c d = some p := by
    by_cases h : (1 ≤ a ∧ a ≤ 65535 ∧ 0 ≤ b ∧ b < 256) ∧ (1 ≤ c ∧ c ≤ 65535 ∧ 0 ≤ d ∧ d < 256)
    · exact ⟨_, newer_in a b c d h.1 h.2⟩
    · exact ⟨_, newer_out a b c d h⟩
  rw [hp]
  simp only [Option.bind_some, gimmallaw0_Num.f, if_true, beq_self_eq_true]

end Go.Proofs.Ytfhffalljkppkaa.Pure
