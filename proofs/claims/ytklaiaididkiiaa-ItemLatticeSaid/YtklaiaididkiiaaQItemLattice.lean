/- Over numbers alone: the best of two is one of them, whatever row they are told in; of three likewise; at every three items. -/
import Derived.Test.YtklaiaididkiiaaMP
import Derived.Test.YtklaiaididkiiaaLItemLattice
namespace Go.Proofs.Ytklaiaididkiiaa.MI
open Go.RowKit Go.Proofs.YtklaiaididkiiaaW.PrintWords Go.Proofs.YtklaiaididkiiaaW.PrintLast

theorem may_b (a : It) : item_May.f a.k a.c a.x a.v a.g = some (decide a.may) := imay_f _ _ _ _ _

theorem ItemLattice (ak ac ax av : Int) (ag : Bool) (bk bc bx bv : Int) (bg : Bool) (ck cc cx cv : Int) (cg : Bool) :
    gimmallaw4_ItemLattice.f 1 ak ac ax av ag bk bc bx bv bg ck cc cx cv cg = some true := by
  unfold gimmallaw4_ItemLattice.f
  rw [gimmallaw4_awake.is_true]
  simp only [Option.bind_some, if_true, gimmallaw0_Num.f]
  obtain ⟨a, ha⟩ : ∃ a : It, a = ⟨ak, ac, ax, av, ag⟩ := ⟨_, rfl⟩
  obtain ⟨b, hb⟩ : ∃ a : It, a = ⟨ak, bc, bx, bv, bg⟩ := ⟨_, rfl⟩
  obtain ⟨c, hc⟩ : ∃ a : It, a = ⟨ak, cc, cx, cv, cg⟩ := ⟨_, rfl⟩
  have ma := imay_f ak ac ax av ag
  have mb := imay_f ak bc bx bv bg
  have mc := imay_f ak cc cx cv cg
  by_cases h1 : MayP ak ac ax av ag
  · by_cases h2 : MayP ak bc bx bv bg
    · by_cases h3 : MayP ak cc cx cv cg
      · have k1 : a.may := by rw [ha]; exact h1
        have k2 : b.may := by rw [hb]; exact h2
        have k3 : c.may := by rw [hc]; exact h3
        have q1 : a.k = b.k := by rw [ha, hb]
        have q2 : b.k = c.k := by rw [hb, hc]
        have b1 := best_yes 1 a b k1 k2 q1
        have b2 := best_yes 1 b a k2 k1 q1.symm
        have b3 := best_yes 1 b c k2 k3 q2
        have m12 := bst_may a b k1 k2
        have m23 := bst_may b c k2 k3
        have b4 := best_yes 0 (bst a b) c m12 k3 (by rw [bst_key a b q1]; omega)
        have b5 := best_yes 0 a (bst b c) k1 m23 (by rw [bst_key b c q2]; omega)
        have b6 := best_yes 0 (bst a b) (bst a b) m12 m12 rfl
        rw [bst_assoc a b c k1 k2 k3 q1 q2] at b4
        rw [bst_self] at b6
        rw [← bst_comm a b k1 k2 q1] at b2
        have hor := bst_or a b
        generalize bst a b = x at *
        generalize bst b c = z at *
        generalize bst a z = p at *
        rw [ha, hb] at b1 b2
        rw [hb, hc] at b3
        rw [hc] at b4
        rw [ha] at b5
        simp only at b1 b2 b3 b4 b5
        rw [b1, b2, b3]
        simp only [Option.bind_some, if_true, gimmallaw4_ItemLattice.j0]
        rw [b4, b5, b6]
        rcases hor with h | h
        · rw [h, ha]
          simp [gimmallaw0_Num.f]
        · rw [h, hb]
          simp [gimmallaw0_Num.f]
      · have b1 := best_yes 1 ⟨ak, ac, ax, av, ag⟩ ⟨ak, bc, bx, bv, bg⟩ h1 h2 rfl
        have b2 := best_yes 1 ⟨ak, bc, bx, bv, bg⟩ ⟨ak, ac, ax, av, ag⟩ h2 h1 rfl
        have b3 := best_no 1 ⟨ak, bc, bx, bv, bg⟩ ⟨ak, cc, cx, cv, cg⟩ (fun h => h3 h.2.1)
        simp only at b1 b2 b3
        rw [b1, b2, b3]
        simp [gimmallaw4_ItemLattice.j0, ma, mb, mc, h1, h2, h3]
    · have b1 := best_no 1 ⟨ak, ac, ax, av, ag⟩ ⟨ak, bc, bx, bv, bg⟩ (fun h => h2 h.2.1)
      have b2 := best_no 1 ⟨ak, bc, bx, bv, bg⟩ ⟨ak, ac, ax, av, ag⟩ (fun h => h2 h.1)
      have b3 := best_no 1 ⟨ak, bc, bx, bv, bg⟩ ⟨ak, cc, cx, cv, cg⟩ (fun h => h2 h.1)
      simp only at b1 b2 b3
      rw [b1, b2, b3]
      simp [gimmallaw4_ItemLattice.j0, ma, mb, mc, h1, h2]
  · have b1 := best_no 1 ⟨ak, ac, ax, av, ag⟩ ⟨ak, bc, bx, bv, bg⟩ (fun h => h1 h.1)
    have b2 := best_no 1 ⟨ak, bc, bx, bv, bg⟩ ⟨ak, ac, ax, av, ag⟩ (fun h => h1 h.2.1)
    obtain ⟨p, b3⟩ : ∃ p, item_Best.f 1 ak bc bx bv bg ak cc cx cv cg = some p := by
      by_cases h : (It.mk ak bc bx bv bg).may ∧ (It.mk ak cc cx cv cg).may ∧ ak = ak
      · exact ⟨_, best_yes 1 _ _ h.1 h.2.1 h.2.2⟩
      · exact ⟨_, best_no 1 _ _ h⟩
    simp only at b1 b2
    rw [b1, b2, b3]
    simp [gimmallaw4_ItemLattice.j0, ma, mb, mc, h1]

end Go.Proofs.Ytklaiaididkiiaa.MI
