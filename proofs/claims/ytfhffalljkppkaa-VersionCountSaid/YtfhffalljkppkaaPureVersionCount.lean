/- Over numbers and lists alone: a greater count is newer, whoever wrote; of one count the greater writer; at every input, no condition. -/
import Derived.Test.YtfhffalljkppkaaPVersionCountx1
import Derived.Test.YtfhffalljkppkaaBits
namespace Go.Proofs.Ytfhffalljkppkaa.Pure
open Go.RowKit Go.Proofs.Ytfhffalljkppkaa.PVersionCount Go.Proofs.YtfhffalljkppkaaW.PrintWords Go.Proofs.YtfhffalljkppkaaW.PrintLast

theorem place (a : Int) : ring_Place.f a = some (decide (0 ≤ a ∧ a < 256)) := by
  unfold ring_Place.f
  by_cases h : a ≥ 0
  · rw [if_pos h]; congr 1; simp only [decide_eq_decide]; omega
  · rw [if_neg h]; congr 1; symm; simp only [decide_eq_false_iff_not]; omega

theorem may (c w : Int) : version_May.f c w = some (decide (1 ≤ c ∧ c ≤ 65535 ∧ 0 ≤ w ∧ w < 256)) := by
  unfold version_May.f
  rw [place]
  by_cases h : c ≥ 1
  · rw [if_pos h]
    by_cases h2 : c ≤ 65535
    · rw [if_pos h2]; simp only [Option.bind_some]; congr 1; simp only [decide_eq_decide]; omega
    · rw [if_neg h2]; congr 1; symm; simp only [decide_eq_false_iff_not]; omega
  · rw [if_neg h]; congr 1; symm; simp only [decide_eq_false_iff_not]; omega

theorem newer_in (a b c d : Int) (h : 1 ≤ a ∧ a ≤ 65535 ∧ 0 ≤ b ∧ b < 256) (g : 1 ≤ c ∧ c ≤ 65535 ∧ 0 ≤ d ∧ d < 256) :
    version_Newer.f a b c d = some (decide (a > c ∨ a = c ∧ b > d), 0) := by
  unfold version_Newer.f
  rw [may, may]; simp only [h, g, and_self, decide_true, Option.bind_some, if_true]
  by_cases e : a > c
  · simp [e]
  · by_cases p : a = c
    · subst p; simp
    · have : ¬ c < a := e
      simp [p, this]

theorem newer_out (a b c d : Int) (h : ¬ ((1 ≤ a ∧ a ≤ 65535 ∧ 0 ≤ b ∧ b < 256) ∧ (1 ≤ c ∧ c ≤ 65535 ∧ 0 ≤ d ∧ d < 256))) :
    version_Newer.f a b c d = some (false, 300) := by
  unfold version_Newer.f
  rw [may, may]; simp only [Option.bind_some]
  by_cases e : 1 ≤ a ∧ a ≤ 65535 ∧ 0 ≤ b ∧ b < 256
  · have g : ¬ (1 ≤ c ∧ c ≤ 65535 ∧ 0 ≤ d ∧ d < 256) := fun g => h ⟨e, g⟩
    rw [decide_eq_true e, decide_eq_false g]; rfl
  · rw [decide_eq_false e]; rfl

theorem awake_ : gimmallaw3_awake.f = some true := by
  unfold gimmallaw3_awake.f
  rw [newer_in _ _ _ _ (by omega) (by omega), newer_in _ _ _ _ (by omega) (by omega), newer_out _ _ _ _ (by omega), may]
  rfl

theorem VersionCount : gimmallaw3_VersionCount.Pure := by
  intro a0 a1 a2 a3 w0 w1 w2 w3
  unfold gimmallaw3_VersionCount.f
  rw [awake_]
  simp only [Option.bind_some, if_true, Plain.and1023, Plain.and255, gimmallaw0_Num.f]
  have e0 : wrap64 (1 + a0 % 1024) = 1 + a0 % 1024 := by unfold wrap64; omega
  have e1 : wrap64 (1 + a1 % 1024) = 1 + a1 % 1024 := by unfold wrap64; omega
  rw [e0, e1]
  rw [newer_in _ _ _ _ (by omega) (by omega)]
  simp only [Option.bind_some, if_true]
  by_cases h : 1 + a0 % 1024 > 1 + a1 % 1024
  · rw [if_pos h, decide_eq_true (Or.inl h)]; rfl
  · rw [if_neg h]
    by_cases g : 1 + a0 % 1024 = 1 + a1 % 1024
    · rw [if_pos g]
      have : decide (1 + a0 % 1024 > 1 + a1 % 1024 ∨ 1 + a0 % 1024 = 1 + a1 % 1024 ∧ a2 % 256 > a3 % 256) = decide (a2 % 256 > a3 % 256) := by
        simp only [decide_eq_decide]; omega
      rw [this]; simp
    · rw [if_neg g, decide_eq_false (by omega)]; rfl

end Go.Proofs.Ytfhffalljkppkaa.Pure
