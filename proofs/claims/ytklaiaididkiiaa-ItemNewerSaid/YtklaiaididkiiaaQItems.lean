/- Over numbers alone: the best of any two items is the reference's; at every two items. -/
import Derived.Test.YtklaiaididkiiaaMP
import Derived.Test.YtklaiaididkiiaaLItems
namespace Go.Proofs.Ytklaiaididkiiaa.MI
open Go.RowKit Go.Proofs.YtklaiaididkiiaaW.PrintWords Go.Proofs.YtklaiaididkiiaaW.PrintLast

theorem rbyte (a : Int) : gimmalref1_byteMay.f a = item_Byte.f a := by
  unfold gimmalref1_byteMay.f item_Byte.f
  have : (decide (a ≤ 255)) = decide (a < 256) := by simp only [decide_eq_decide]; omega
  rw [this]
theorem rvmay (c w : Int) : gimmalref1_VersionMay.f c w = version_May.f c w := rfl
theorem rmay (k c x v : Int) (g : Bool) : gimmalref1_ItemMay.f k c x v g = item_May.f k c x v g := by
  unfold gimmalref1_ItemMay.f item_May.f
  rw [rbyte, rbyte, rvmay]
theorem rnewer (a b c d : Int) : gimmalref1_Newer.f a b c d = version_Newer.f a b c d := rfl
theorem rbest (k : Nat) (ak ac ax av : Int) (ag : Bool) (bk bc bx bv : Int) (bg : Bool) :
    gimmalref1_Best.f (k + 1) ak ac ax av ag bk bc bx bv bg = item_Best.f (k + 1) ak ac ax av ag bk bc bx bv bg := by
  unfold gimmalref1_Best.f item_Best.f
  rw [rmay, rmay, imay_f, imay_f]
  simp only [Option.bind_some]
  by_cases h1 : MayP ak ac ax av ag
  · rw [decide_eq_true h1, if_pos rfl, if_pos rfl]
    by_cases h2 : MayP bk bc bx bv bg
    · rw [decide_eq_true h2, if_pos rfl, if_pos rfl]
      by_cases h3 : ak = bk
      · have e3 : (ak != bk) = false := by simp [h3]
        rw [if_pos h3, e3]
        simp only [gimmalref1_Best.j0]
        rw [if_neg (by decide), rnewer, newer_f _ _ _ _ h1.2.2.1 h2.2.2.1]
        simp only [Option.bind_some]
        by_cases h4 : (!(ac == bc) || !(ax == bx)) = true
        · have hb : betterB ac ax av ag bc bx bv bg = newerB ac ax bc bx := by unfold betterB; rw [if_pos h4]
          rw [hb]
          by_cases h5 : newerB ac ax bc bx = true
          · rw [if_pos h5, if_pos h5]
          · rw [if_neg h5, if_neg h5, if_pos h4]
        · have hb : betterB ac ax av ag bc bx bv bg = (if (!(ag == bg)) = true then ag else decide (av > bv)) := by unfold betterB; rw [if_neg h4]
          rw [hb]
          have h5 : ¬ (newerB ac ax bc bx = true) := by
            unfold newerB
            simp at h4 ⊢
            omega
          rw [if_neg h5, if_neg h4]
          obtain ⟨-, -, -, hg⟩ := h1
          obtain ⟨-, -, -, hg'⟩ := h2
          cases ag <;> cases bg
          · by_cases h6 : bv ≥ av
            · have : ¬ (av > bv) := by omega
              simp [this, h6]
            · have : av > bv := by omega
              simp [this, h6]
          · simp
          · simp
          · have e1 := hg rfl
            have e2 := hg' rfl
            subst e1; subst e2
            simp
      · have e3 : (ak != bk) = true := by simp [h3]
        rw [if_neg h3, e3]
        simp only [gimmalref1_Best.j0, if_true]
    · rw [decide_eq_false h2, if_neg (by decide), if_neg (by decide)]
      simp only [gimmalref1_Best.j0, if_true]
  · rw [decide_eq_false h1, if_neg (by decide), if_neg (by decide)]
    simp only [gimmalref1_Best.j0, if_true]

theorem Items (ak ac ax av : Int) (ag : Bool) (bk bc bx bv : Int) (bg : Bool) : gimmallaw4_Items.f 1 ak ac ax av ag bk bc bx bv bg = some true := by
  unfold gimmallaw4_Items.f
  rw [rbest 0, rmay, imay_f, gimmallaw4_awake.is_true]
  obtain ⟨p, hp⟩ : ∃ p, item_Best.f 1 ak ac ax av ag bk bc bx bv bg = some p := by
    by_cases h : (It.mk ak ac ax av ag).may ∧ (It.mk bk bc bx bv bg).may ∧ ak = bk
    · exact ⟨_, best_yes 1 ⟨ak, ac, ax, av, ag⟩ ⟨bk, bc, bx, bv, bg⟩ h.1 h.2.1 h.2.2⟩
    · exact ⟨_, best_no 1 ⟨ak, ac, ax, av, ag⟩ ⟨bk, bc, bx, bv, bg⟩ h⟩
  have hp' : item_Best.f (0 + 1) ak ac ax av ag bk bc bx bv bg = some p := hp
  rw [hp']
  simp [gimmallaw0_Num.f]

end Go.Proofs.Ytklaiaididkiiaa.MI
