/- Over numbers alone: the best of two items by a rank; what the laws over it ask. Conditions: as each says. -/
import Derived.Test.YtklaiaididkiiaaM3
import Derived.Test.YtklaiaididkiiaaBits
namespace Go.Proofs.Ytklaiaididkiiaa.MI
open Go.RowKit Go.Proofs.YtklaiaididkiiaaW.PrintWords Go.Proofs.YtklaiaididkiiaaW.PrintLast

/-- An item. -/
structure It where
  k : Int
  c : Int
  x : Int
  v : Int
  g : Bool
def It.may (a : It) : Prop := MayP a.k a.c a.x a.v a.g
instance (a : It) : Decidable a.may := by unfold It.may; infer_instance
def It.r (a : It) : Int := a.c * 131072 + a.x * 512 + (if a.g = true then 256 else 0) + a.v
def bst (a b : It) : It := if a.r > b.r then a else b

theorem better_r (a b : It) (h1 : a.may) (h2 : b.may) : betterB a.c a.x a.v a.g b.c b.x b.v b.g = decide (a.r > b.r) := by
  obtain ⟨ak, ac, ax, av, ag⟩ := a
  obtain ⟨bk, bc, bx, bv, bg⟩ := b
  obtain ⟨-, hv, hc, hg⟩ := h1
  obtain ⟨-, hv', hc', hg'⟩ := h2
  simp only at hv hc hg hv' hc' hg' ⊢
  unfold betterB newerB It.r
  by_cases e : ac = bc ∧ ax = bx
  · obtain ⟨rfl, rfl⟩ := e
    have : ¬ ((!(ac == ac) || !(ax == ax)) = true) := by simp
    rw [if_neg this]
    cases ag <;> cases bg
    · simp
    · have := hg' rfl
      simp; omega
    · have := hg rfl
      simp; omega
    · simp
  · have : ((!(ac == bc) || !(ax == bx)) = true) := by
      by_cases e1 : ac = bc
      · have e2 : ¬ ax = bx := fun h => e ⟨e1, h⟩
        simp [e1, e2]
      · simp [e1]
    rw [if_pos this]
    simp only [decide_eq_decide]
    cases ag <;> cases bg <;> simp <;> omega

theorem r_inj (a b : It) (h1 : a.may) (h2 : b.may) (hk : a.k = b.k) (h : a.r = b.r) : a = b := by
  obtain ⟨ak, ac, ax, av, ag⟩ := a
  obtain ⟨bk, bc, bx, bv, bg⟩ := b
  obtain ⟨-, hv, hc, hg⟩ := h1
  obtain ⟨-, hv', hc', hg'⟩ := h2
  simp only at hv hc hg hv' hc' hg' hk ⊢
  unfold It.r at h
  subst hk
  cases ag <;> cases bg
  · simp at h
    obtain rfl : ac = bc := by omega
    obtain rfl : ax = bx := by omega
    obtain rfl : av = bv := by omega
    rfl
  · have := hg' rfl
    simp at h; omega
  · have := hg rfl
    simp at h; omega
  · simp at h
    obtain rfl : ac = bc := by omega
    obtain rfl : ax = bx := by omega
    obtain rfl : av = bv := by omega
    rfl

theorem best_yes (k : Nat) (a b : It) (h1 : a.may) (h2 : b.may) (hk : a.k = b.k) :
    item_Best.f k a.k a.c a.x a.v a.g b.k b.c b.x b.v b.g = some ((bst a b).k, (bst a b).c, (bst a b).x, (bst a b).v, (bst a b).g, 0) := by
  have h1' : MayP a.k a.c a.x a.v a.g := h1
  have h2' : MayP b.k b.c b.x b.v b.g := h2
  unfold item_Best.f
  rw [imay_f, imay_f, decide_eq_true h1', decide_eq_true h2']
  simp only [Option.bind_some, if_true]
  rw [if_pos hk, better_r a b h1 h2]
  unfold bst
  by_cases e : a.r > b.r
  · rw [decide_eq_true e, if_pos rfl, if_pos e]
  · rw [decide_eq_false e, if_neg (by decide), if_neg e]
theorem best_no (k : Nat) (a b : It) (h : ¬ (a.may ∧ b.may ∧ a.k = b.k)) :
    item_Best.f k a.k a.c a.x a.v a.g b.k b.c b.x b.v b.g = some (0, 0, 0, 0, false, 400) := by
  unfold item_Best.f
  rw [imay_f, imay_f]
  simp only [Option.bind_some]
  by_cases h1 : MayP a.k a.c a.x a.v a.g
  · rw [decide_eq_true h1, if_pos rfl]
    by_cases h2 : MayP b.k b.c b.x b.v b.g
    · rw [decide_eq_true h2, if_pos rfl, if_neg (fun e => h ⟨h1, h2, e⟩)]
    · rw [decide_eq_false h2, if_neg (by decide)]
  · rw [decide_eq_false h1, if_neg (by decide)]

theorem bst_or (a b : It) : bst a b = a ∨ bst a b = b := by unfold bst; split <;> simp
theorem bst_may (a b : It) (h1 : a.may) (h2 : b.may) : (bst a b).may := by rcases bst_or a b with h | h <;> rw [h] <;> assumption
theorem bst_key (a b : It) (h : a.k = b.k) : (bst a b).k = a.k := by rcases bst_or a b with e | e <;> rw [e]; exact h.symm
theorem bst_r (a b : It) : (bst a b).r = if a.r > b.r then a.r else b.r := by unfold bst; split <;> rfl
theorem bst_comm (a b : It) (h1 : a.may) (h2 : b.may) (hk : a.k = b.k) : bst a b = bst b a := by
  refine r_inj _ _ (bst_may _ _ h1 h2) (bst_may _ _ h2 h1) ?_ ?_
  · rw [bst_key a b hk, bst_key b a hk.symm, hk]
  · rw [bst_r, bst_r]; split <;> split <;> omega
theorem bst_assoc (a b c : It) (h1 : a.may) (h2 : b.may) (h3 : c.may) (hk : a.k = b.k) (hk' : b.k = c.k) : bst (bst a b) c = bst a (bst b c) := by
  refine r_inj _ _ (bst_may _ _ (bst_may _ _ h1 h2) h3) (bst_may _ _ h1 (bst_may _ _ h2 h3)) ?_ ?_
  · rw [bst_key _ c (by rw [bst_key a b hk]; omega), bst_key a b hk, bst_key a _ (by rw [bst_key b c hk']; exact hk)]
  · rw [bst_r, bst_r, bst_r, bst_r]; repeat' split
    all_goals omega
theorem bst_self (a : It) : bst a a = a := by unfold bst; split <;> rfl

end Go.Proofs.Ytklaiaididkiiaa.MI
