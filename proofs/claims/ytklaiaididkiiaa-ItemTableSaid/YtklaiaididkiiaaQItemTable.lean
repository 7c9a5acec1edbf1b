/- Over numbers alone: which of two small items is the best, by a number made of them. -/
import Derived.Test.YtklaiaididkiiaaMP
import Derived.Test.YtklaiaididkiiaaLItemTable
namespace Go.Proofs.Ytklaiaididkiiaa.MI
set_option linter.unusedVariables false
open Go.RowKit Go.Proofs.YtklaiaididkiiaaW.PrintWords Go.Proofs.YtklaiaididkiiaaW.PrintLast

def num (a : It) : Int := 100 * a.c + 10 * a.x + a.v + if a.g = true then 5 else 0

theorem table (k : Nat) (a b : It) (h1 : a.may) (h2 : b.may) (hk : a.k = b.k) (ca : a.c ≤ 2) (xa : a.x ≤ 1) (va : a.v ≤ 1) (cb : b.c ≤ 2) (xb : b.x ≤ 1) (vb : b.v ≤ 1) :
    gimmallaw4_ItemTable.j2 (k + 1) (num a) (100 * b.c + 10 * b.x + b.v) a.k a.c a.x a.v a.g b.k b.c b.x b.v b.g = some true := by
  have hb := best_yes k a b h1 h2 hk
  simp only [gimmallaw4_ItemTable.j2]
  rw [hb]
  have e5 : wrap64 (100 * b.c + 10 * b.x + b.v + 5) = 100 * b.c + 10 * b.x + b.v + 5 := by
    obtain ⟨-, hv', hc', hg'⟩ := h2
    unfold wrap64; omega
  rw [e5]
  simp only [Option.bind_some, gimmallaw0_Num.f, if_true]
  have key : (num a ≥ num b ∧ bst a b = a) ∨ (num b ≥ num a ∧ ¬ (num a ≥ num b) ∧ bst a b = b) ∨ (num a ≥ num b ∧ num b ≥ num a ∧ bst a b = b) := by
    obtain ⟨-, hv, hc, hg⟩ := h1
    obtain ⟨-, hv', hc', hg'⟩ := h2
    unfold num bst It.r
    by_cases e : (a.c * 131072 + a.x * 512 + (if a.g = true then 256 else 0) + a.v > b.c * 131072 + b.x * 512 + (if b.g = true then 256 else 0) + b.v)
    · rw [if_pos e]
      left
      refine ⟨?_, rfl⟩
      cases ga : a.g <;> cases gb : b.g <;> simp [ga, gb] at e ⊢ <;> (try have := hg ga) <;> (try have := hg' gb) <;> omega
    · rw [if_neg e]
      right
      by_cases f : (100 * a.c + 10 * a.x + a.v + (if a.g = true then 5 else 0) : Int) ≥ 100 * b.c + 10 * b.x + b.v + (if b.g = true then 5 else 0)
      · right
        refine ⟨f, ?_, rfl⟩
        cases ga : a.g <;> cases gb : b.g <;> simp [ga, gb] at e f ⊢ <;> (try have := hg ga) <;> (try have := hg' gb) <;> omega
      · left
        refine ⟨by omega, f, rfl⟩
  have hn : num b = 100 * b.c + 10 * b.x + b.v + if b.g = true then 5 else 0 := rfl
  by_cases gb : b.g = true
  · rw [if_pos gb] at hn ⊢
    rw [← hn]
    rcases key with ⟨f, e⟩ | ⟨f, f', e⟩ | ⟨f, f', e⟩
    · rw [if_pos f, e]; simp
    · rw [if_neg f', if_pos f, e]; simp
    · rw [if_pos f, if_pos f', e]; simp
  · rw [if_neg gb] at hn ⊢
    rw [Int.add_zero] at hn
    rw [← hn]
    rcases key with ⟨f, e⟩ | ⟨f, f', e⟩ | ⟨f, f', e⟩
    · rw [if_pos f, e]; simp
    · rw [if_neg f', if_pos f, e]; simp
    · rw [if_pos f, if_pos f', e]; simp

theorem table1 (k : Nat) (a b : It) (h1 : a.may) (h2 : b.may) (hk : a.k = b.k) (ca : a.c ≤ 2) (xa : a.x ≤ 1) (va : a.v ≤ 1) (cb : b.c ≤ 2) (xb : b.x ≤ 1) (vb : b.v ≤ 1) :
    gimmallaw4_ItemTable.j1 (k + 2) a.k a.c a.x a.v a.g b.k b.c b.x b.v b.g = some true := by
  simp only [gimmallaw4_ItemTable.j1]
  have hh := table k a b h1 h2 hk ca xa va cb xb vb
  obtain ⟨-, hv, hc, hg⟩ := h1
  obtain ⟨-, hv', hc', hg'⟩ := h2
  have e1 : wrap64 (100 * a.c) = 100 * a.c := by unfold wrap64; omega
  have e2 : wrap64 (10 * a.x) = 10 * a.x := by unfold wrap64; omega
  have e3 : wrap64 (100 * a.c + 10 * a.x) = 100 * a.c + 10 * a.x := by unfold wrap64; omega
  have e4 : wrap64 (100 * a.c + 10 * a.x + a.v) = 100 * a.c + 10 * a.x + a.v := by unfold wrap64; omega
  have e5 : wrap64 (100 * a.c + 10 * a.x + a.v + 5) = 100 * a.c + 10 * a.x + a.v + 5 := by unfold wrap64; omega
  have f1 : wrap64 (100 * b.c) = 100 * b.c := by unfold wrap64; omega
  have f2 : wrap64 (10 * b.x) = 10 * b.x := by unfold wrap64; omega
  have f3 : wrap64 (100 * b.c + 10 * b.x) = 100 * b.c + 10 * b.x := by unfold wrap64; omega
  have f4 : wrap64 (100 * b.c + 10 * b.x + b.v) = 100 * b.c + 10 * b.x + b.v := by unfold wrap64; omega
  rw [e1, e2, e3, e4, e5, f1, f2, f3, f4]
  unfold num at hh
  by_cases g : a.g = true
  · rw [if_pos g] at hh ⊢; exact hh
  · rw [if_neg g, Int.add_zero] at hh; rw [if_neg g]; exact hh

theorem ItemTable : gimmallaw4_ItemTable.Pure := by
  intro a0 a1 w0 w1
  refine ⟨3, ?_⟩
  unfold gimmallaw4_ItemTable.f
  rw [gimmallaw4_awake.is_true]
  simp only [Option.bind_some, if_true, Plain.and1]
  have e1 : wrap64 (1 + a0 % 2) = 1 + a0 % 2 := by unfold wrap64; omega
  have e2 : wrap64 (1 + a1 % 2) = 1 + a1 % 2 := by unfold wrap64; omega
  rw [e1, e2]
  have m : ∀ c x v : Int, 1 ≤ c → c ≤ 2 → 0 ≤ x → x ≤ 1 → 0 ≤ v → v ≤ 1 → (It.mk 5 c x v false).may := fun c x v _ _ _ _ _ _ =>
    ⟨⟨by simp, by simp⟩, by simp only; omega, by simp only; omega, fun h => by cases h⟩
  have m' : ∀ c x : Int, 1 ≤ c → c ≤ 2 → 0 ≤ x → x ≤ 1 → (It.mk 5 c x 0 true).may := fun c x _ _ _ _ =>
    ⟨⟨by simp, by simp⟩, by simp, by simp only; omega, fun _ => rfl⟩
  have p0 : 0 ≤ a0 % 2 ∧ a0 % 2 ≤ 1 := by omega
  have p1 : 0 ≤ a0 / 2 % 2 ∧ a0 / 2 % 2 ≤ 1 := by omega
  have p2 : 0 ≤ a0 / 4 % 2 ∧ a0 / 4 % 2 ≤ 1 := by omega
  have q0 : 0 ≤ a1 % 2 ∧ a1 % 2 ≤ 1 := by omega
  have q1 : 0 ≤ a1 / 2 % 2 ∧ a1 / 2 % 2 ≤ 1 := by omega
  have q2 : 0 ≤ a1 / 4 % 2 ∧ a1 / 4 % 2 ≤ 1 := by omega
  by_cases h : a0 / 8 % 2 = 1
  · rw [if_pos h]
    simp only [gimmallaw4_ItemTable.j0, Plain.and1]
    by_cases g : a1 / 8 % 2 = 1
    · rw [if_pos g]
      exact table1 0 ⟨5, _, _, 0, true⟩ ⟨5, _, _, 0, true⟩ (m' _ _ (by omega) (by omega) (by omega) (by omega)) (m' _ _ (by omega) (by omega) (by omega) (by omega)) rfl (by simp only; omega) (by simp only; omega) (by simp) (by simp only; omega) (by simp only; omega) (by simp)
    · rw [if_neg g]
      exact table1 0 ⟨5, _, _, 0, true⟩ ⟨5, _, _, _, false⟩ (m' _ _ (by omega) (by omega) (by omega) (by omega)) (m _ _ _ (by omega) (by omega) (by omega) (by omega) (by omega) (by omega)) rfl (by simp only; omega) (by simp only; omega) (by simp) (by simp only; omega) (by simp only; omega) (by simp only; omega)
  · rw [if_neg h]
    simp only [gimmallaw4_ItemTable.j0, Plain.and1]
    by_cases g : a1 / 8 % 2 = 1
    · rw [if_pos g]
      exact table1 0 ⟨5, _, _, _, false⟩ ⟨5, _, _, 0, true⟩ (m _ _ _ (by omega) (by omega) (by omega) (by omega) (by omega) (by omega)) (m' _ _ (by omega) (by omega) (by omega) (by omega)) rfl (by simp only; omega) (by simp only; omega) (by simp only; omega) (by simp only; omega) (by simp only; omega) (by simp)
    · rw [if_neg g]
      exact table1 0 ⟨5, _, _, _, false⟩ ⟨5, _, _, _, false⟩ (m _ _ _ (by omega) (by omega) (by omega) (by omega) (by omega) (by omega)) (m _ _ _ (by omega) (by omega) (by omega) (by omega) (by omega) (by omega)) rfl (by simp only; omega) (by simp only; omega) (by simp only; omega) (by simp only; omega) (by simp only; omega) (by simp only; omega)

end Go.Proofs.Ytklaiaididkiiaa.MI
