/- Over numbers alone: a newer version is the best, whatever stands in it; at every two items. -/
import Derived.Test.YtklaiaididkiiaaMP
import Derived.Test.YtklaiaididkiiaaQItems
import Derived.Test.YtklaiaididkiiaaLItemNewer
namespace Go.Proofs.Ytklaiaididkiiaa.MI
open Go.RowKit Go.Proofs.YtklaiaididkiiaaW.PrintWords Go.Proofs.YtklaiaididkiiaaW.PrintLast

theorem ItemNewer (ak ac ax av : Int) (ag : Bool) (bk bc bx bv : Int) (bg : Bool) : gimmallaw4_ItemNewer.f 1 ak ac ax av ag bk bc bx bv bg = some true := by
  unfold gimmallaw4_ItemNewer.f
  rw [gimmallaw4_awake.is_true]
  simp only [Option.bind_some, if_true, gimmallaw0_Num.f]
  by_cases h : (It.mk ak ac ax av ag).may ∧ (It.mk ak bc bx bv bg).may ∧ ak = ak
  · obtain ⟨h1, h2, -⟩ := h
    have b := best_yes 1 _ _ h1 h2 rfl
    have hn := newer_f ac ax bc bx h1.2.2.1 h2.2.2.1
    have hn' := newer_f bc bx ac ax h2.2.2.1 h1.2.2.1
    have hr := better_r _ _ h1 h2
    simp only at b hr
    rw [b, rnewer, rnewer, hn, hn']
    simp only [Option.bind_some, if_true]
    unfold betterB at hr
    obtain ⟨-, hv, hc, hg⟩ := h1
    obtain ⟨-, hv', hc', hg'⟩ := h2
    simp only at hv hc hg hv' hc' hg'
    by_cases e1 : newerB ac ax bc bx = true
    · have e2 : ¬ (newerB bc bx ac ax = true) := by unfold newerB at e1 ⊢; simp at e1 ⊢; omega
      have hb : bst ⟨ak, ac, ax, av, ag⟩ ⟨ak, bc, bx, bv, bg⟩ = ⟨ak, ac, ax, av, ag⟩ := by
        unfold bst It.r
        unfold newerB at e1
        rw [if_pos (by cases ag <;> cases bg <;> simp at e1 ⊢ <;> omega)]
      rw [hb]
      simp [e1, e2]
    · by_cases e2 : newerB bc bx ac ax = true
      · have hb : bst ⟨ak, ac, ax, av, ag⟩ ⟨ak, bc, bx, bv, bg⟩ = ⟨ak, bc, bx, bv, bg⟩ := by
          unfold bst It.r
          unfold newerB at e2
          rw [if_neg (by cases ag <;> cases bg <;> simp at e2 ⊢ <;> omega)]
        rw [hb]
        simp [e1, e2]
      · have ec : ac = bc := by unfold newerB at e1 e2; simp at e1 e2; omega
        have ex : ax = bx := by unfold newerB at e1 e2; simp at e1 e2; omega
        subst ec; subst ex
        have hb : (bst ⟨ak, ac, ax, av, ag⟩ ⟨ak, ac, ax, bv, bg⟩).g = (ag || bg) := by
          unfold bst It.r
          cases ag <;> cases bg
          · simp; split <;> rfl
          · rw [if_neg (by simp; omega)]; rfl
          · rw [if_pos (by simp; omega)]; rfl
          · simp; split <;> rfl
        have hc1 : (bst ⟨ak, ac, ax, av, ag⟩ ⟨ak, ac, ax, bv, bg⟩).c = ac := by rcases bst_or ⟨ak, ac, ax, av, ag⟩ ⟨ak, ac, ax, bv, bg⟩ with e | e <;> rw [e]
        have hx1 : (bst ⟨ak, ac, ax, av, ag⟩ ⟨ak, ac, ax, bv, bg⟩).x = ax := by rcases bst_or ⟨ak, ac, ax, av, ag⟩ ⟨ak, ac, ax, bv, bg⟩ with e | e <;> rw [e]
        rw [hb, hc1, hx1]
        have e3 : newerB ac ax ac ax = false := by unfold newerB; simp
        rw [e3]
        cases ag <;> simp
  · have b := best_no 1 _ _ h
    simp only at b
    rw [b]
    simp

end Go.Proofs.Ytklaiaididkiiaa.MI
