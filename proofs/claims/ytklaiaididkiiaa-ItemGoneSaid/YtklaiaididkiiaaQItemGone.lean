/- Over numbers alone: a dropped item is the best of its version, till a newer one is written. -/
import Derived.Test.YtklaiaididkiiaaMP
import Derived.Test.YtklaiaididkiiaaLItemGone
namespace Go.Proofs.Ytklaiaididkiiaa.MI
open Go.RowKit Go.Proofs.YtklaiaididkiiaaW.PrintWords Go.Proofs.YtklaiaididkiiaaW.PrintLast

theorem ItemGone : gimmallaw4_ItemGone.Pure := by
  intro a0 a1 a2 a3 w0 w1 w2 w3
  refine ⟨1, ?_⟩
  unfold gimmallaw4_ItemGone.f
  rw [gimmallaw4_awake.is_true]
  simp only [Option.bind_some, if_true, Plain.and255, Plain.and3, gimmallaw0_Num.f]
  have e1 : wrap64 (1 + a0 % 256) = 1 + a0 % 256 := by unfold wrap64; omega
  have e2 : wrap64 (1 + a0 % 256 + 1) = 2 + a0 % 256 := by unfold wrap64; omega
  have e3 : wrap64 (2 + a0 % 256 + a3 % 4) = 2 + a0 % 256 + a3 % 4 := by unfold wrap64; omega
  rw [e1, e2, e3]
  have c0 : 0 ≤ a0 % 256 ∧ a0 % 256 < 256 := by omega
  have c1 : 0 ≤ a1 % 256 ∧ a1 % 256 < 256 := by omega
  have c2 : 0 ≤ a2 % 256 ∧ a2 % 256 < 256 := by omega
  have c3 : 0 ≤ a3 % 4 ∧ a3 % 4 < 4 := by omega
  generalize a0 % 256 = c at c0
  generalize a1 % 256 = x at c1
  generalize a2 % 256 = v at c2
  generalize a3 % 4 = m at c3
  have m1 : (It.mk 7 (1 + c) x v false).may := ⟨⟨by simp, by simp⟩, by simp only; omega, by simp only; omega, fun h => by cases h⟩
  have m2 : (It.mk 7 (1 + c) x 0 true).may := ⟨⟨by simp, by simp⟩, by simp only; omega, by simp only; omega, fun _ => rfl⟩
  have m3 : (It.mk 7 (2 + c + m) x v false).may := ⟨⟨by simp, by simp⟩, by simp only; omega, by simp only; omega, fun h => by cases h⟩
  have b1 := best_yes 1 _ _ m1 m2 rfl
  have b2 := best_yes 1 _ _ m2 m3 rfl
  have t1 : bst ⟨7, 1 + c, x, v, false⟩ ⟨7, 1 + c, x, 0, true⟩ = ⟨7, 1 + c, x, 0, true⟩ := by
    unfold bst It.r; rw [if_neg (by simp; omega)]
  have t2 : bst ⟨7, 1 + c, x, 0, true⟩ ⟨7, 2 + c + m, x, v, false⟩ = ⟨7, 2 + c + m, x, v, false⟩ := by
    unfold bst It.r; rw [if_neg (by simp; omega)]
  rw [t1] at b1
  rw [t2] at b2
  simp only at b1 b2
  rw [b1, b2]
  simp

end Go.Proofs.Ytklaiaididkiiaa.MI
