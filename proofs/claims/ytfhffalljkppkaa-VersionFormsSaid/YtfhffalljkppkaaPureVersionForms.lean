/- Over numbers and lists alone: versions that may not be are refused; at every input, no condition. -/
import Derived.Test.YtfhffalljkppkaaPVersionFormsx1
import Derived.Test.YtfhffalljkppkaaBits
namespace Go.Proofs.Ytfhffalljkppkaa.Pure
open Go.RowKit Go.Proofs.Ytfhffalljkppkaa.PVersionForms Go.Proofs.YtfhffalljkppkaaW.PrintWords Go.Proofs.YtfhffalljkppkaaW.PrintLast

theorem place (a : Int) : ring_Place.f a = some (decide (0 ≤ a ∧ a < 256)) := by
  unfold ring_Place.f
  by_cases h : a ≥ 0
  · rw [if_pos h]; congr 1; simp only [decide_eq_decide]; omega
  · rw [if_neg h]; congr 1; symm; simp only [decide_eq_false_iff_not]; omega

theorem may (c w : Int) : version_May.f c w = some (decide (1 ≤ c ∧ c ≤ 65535 ∧ 0 ≤ w ∧ w < 256)) := by
  unfold version_May.f
  rw [place]
  by_cases h : c ≥ 1
  · rw [if_pos h]
    by_cases h2 : c ≤ 65535
    · rw [if_pos h2]; simp only [Option.bind_some]; congr 1; simp only [decide_eq_decide]; omega
    · rw [if_neg h2]; congr 1; symm; simp only [decide_eq_false_iff_not]; omega
  · rw [if_neg h]; congr 1; symm; simp only [decide_eq_false_iff_not]; omega

theorem newer_in (a b c d : Int) (h : 1 ≤ a ∧ a ≤ 65535 ∧ 0 ≤ b ∧ b < 256) (g : 1 ≤ c ∧ c ≤ 65535 ∧ 0 ≤ d ∧ d < 256) :
    version_Newer.f a b c d = some (decide (a > c ∨ a = c ∧ b > d), 0) := by
  unfold version_Newer.f
  rw [may, may]; simp only [h, g, and_self, decide_true, Option.bind_some, if_true]
  by_cases e : a > c
  · simp [e]
  · by_cases p : a = c
    · subst p; simp
    · have : ¬ c < a := e
      simp [p, this]

theorem newer_out (a b c d : Int) (h : ¬ ((1 ≤ a ∧ a ≤ 65535 ∧ 0 ≤ b ∧ b < 256) ∧ (1 ≤ c ∧ c ≤ 65535 ∧ 0 ≤ d ∧ d < 256))) :
    version_Newer.f a b c d = some (false, 300) := by
  unfold version_Newer.f
  rw [may, may]; simp only [Option.bind_some]
  by_cases e : 1 ≤ a ∧ a ≤ 65535 ∧ 0 ≤ b ∧ b < 256
  · have g : ¬ (1 ≤ c ∧ c ≤ 65535 ∧ 0 ≤ d ∧ d < 256) := fun g => h ⟨e, g⟩
    rw [decide_eq_true e, decide_eq_false g]; rfl
  · rw [decide_eq_false e]; rfl

theorem awake_ : gimmallaw3_awake.f = some true := by
  unfold gimmallaw3_awake.f
  rw [newer_in _ _ _ _ (by omega) (by omega), newer_in _ _ _ _ (by omega) (by omega), newer_out _ _ _ _ (by omega), may]
  rfl

theorem VersionForms : gimmallaw3_VersionForms.Pure := by
  intro a0 a1 w0 w1
  unfold gimmallaw3_VersionForms.f
  rw [awake_]
  simp only [Option.bind_some, if_true, Plain.and1023, Plain.and3, gimmallaw0_Num.f]
  have e1 : wrap64 (1 + a1 % 1024) = 1 + a1 % 1024 := by unfold wrap64; omega
  have e2 : wrap64 (1 - (1 + a1 % 1024)) = - (a1 % 1024) := by unfold wrap64; omega
  have e3 : wrap64 (65535 + (1 + a1 % 1024)) = 65536 + a1 % 1024 := by unfold wrap64; omega
  have e4 : wrap64 (-(1 + a1 % 1024)) = -1 - a1 % 1024 := by unfold wrap64; omega
  have e5 : wrap64 (255 + (1 + a1 % 1024)) = 256 + a1 % 1024 := by unfold wrap64; omega
  rw [e1, e2, e3, e4, e5]
  have hd : 0 ≤ a1 % 1024 := by omega
  generalize a1 % 1024 = d at hd
  have hw : a0 % 4 = 0 ∨ a0 % 4 = 1 ∨ a0 % 4 = 2 ∨ a0 % 4 = 3 := by omega
  rw [if_pos (by omega), if_pos (by simp; omega)]
  have hr : ∃ c w : Int, rd_T24 [(⟨-d, 5⟩ : S24), (⟨65536 + d, 5⟩ : S24), (⟨2, -1 - d⟩ : S24), (⟨2, 256 + d⟩ : S24)] (a0 % 4) = ⟨c, w⟩ ∧ ¬ (1 ≤ c ∧ c ≤ 65535 ∧ 0 ≤ w ∧ w < 256) := by
    rcases hw with h | h | h | h <;> rw [h]
    · exact ⟨-d, 5, rfl, by omega⟩
    · exact ⟨65536 + d, 5, rfl, by omega⟩
    · exact ⟨2, -1 - d, rfl, by omega⟩
    · exact ⟨2, 256 + d, rfl, by omega⟩
  obtain ⟨c, w, e, hn⟩ := hr
  rw [e]
  rw [newer_out _ _ _ _ (by intro h; exact hn h.2), newer_out _ _ _ _ (by intro h; exact hn h.1), may, may]
  rw [decide_eq_false hn]
  rfl

end Go.Proofs.Ytfhffalljkppkaa.Pure
