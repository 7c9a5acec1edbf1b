/- Over numbers alone: items that may not be, and items of unlike keys, are refused. -/
import Derived.Test.YtklaiaididkiiaaMP
import Derived.Test.YtklaiaididkiiaaLItemForms
namespace Go.Proofs.Ytklaiaididkiiaa.MI
open Go.RowKit Go.Proofs.YtklaiaididkiiaaW.PrintWords Go.Proofs.YtklaiaididkiiaaW.PrintLast

theorem ItemForms : gimmallaw4_ItemForms.Pure := by
  intro a0 a1 w0 w1
  refine ⟨1, ?_⟩
  unfold gimmallaw4_ItemForms.f
  rw [gimmallaw4_awake.is_true]
  simp only [Option.bind_some, if_true, Plain.and1023, Plain.and7, gimmallaw0_Num.f]
  have h254 := Plain.and254 a1
  generalize Go.bits .and .i64 a1 254 = z at h254
  have e1 : wrap64 (1 + a1 % 1024) = 1 + a1 % 1024 := by unfold wrap64; omega
  have e2 : wrap64 (-(1 + a1 % 1024)) = -1 - a1 % 1024 := by unfold wrap64; omega
  have e3 : wrap64 (255 + (1 + a1 % 1024)) = 256 + a1 % 1024 := by unfold wrap64; omega
  have e4 : wrap64 (65535 + (1 + a1 % 1024)) = 65536 + a1 % 1024 := by unfold wrap64; omega
  have e5 : wrap64 (1 + z) = 1 + z := by unfold wrap64; omega
  rw [e1, e2, e3, e4, e5]
  have hd : 0 ≤ a1 % 1024 := by omega
  generalize a1 % 1024 = d at hd
  have hw : a0 % 8 = 0 ∨ a0 % 8 = 1 ∨ a0 % 8 = 2 ∨ a0 % 8 = 3 ∨ a0 % 8 = 4 ∨ a0 % 8 = 5 ∨ a0 % 8 = 6 ∨ a0 % 8 = 7 := by omega
  rw [if_pos (by omega), if_pos (by simp; omega)]
  have hr : ∃ k c x v : Int, ∃ g : Bool, rd_T25 [(⟨-1 - d, (⟨2, 5⟩ : S23), 0, false⟩ : S25), (⟨256 + d, (⟨2, 5⟩ : S23), 0, false⟩ : S25), (⟨5, (⟨2, 5⟩ : S23), -1 - d, false⟩ : S25), (⟨5, (⟨2, 5⟩ : S23), 256 + d, false⟩ : S25), (⟨5, (⟨0, 0⟩ : S23), 0, false⟩ : S25), (⟨5, (⟨65536 + d, 0⟩ : S23), 0, false⟩ : S25), (⟨5, (⟨1, -1 - d⟩ : S23), 0, false⟩ : S25), (⟨5, (⟨2, 5⟩ : S23), 1 + z, true⟩ : S25)] (a0 % 8) = ⟨k, ⟨c, x⟩, v, g⟩ ∧ ¬ MayP k c x v g := by
    rcases hw with h | h | h | h | h | h | h | h <;> rw [h]
    · exact ⟨-1 - d, 2, 5, 0, false, rfl, fun m => by have := m.1; omega⟩
    · exact ⟨256 + d, 2, 5, 0, false, rfl, fun m => by have := m.1; omega⟩
    · exact ⟨5, 2, 5, -1 - d, false, rfl, fun m => by have := m.2.1; omega⟩
    · exact ⟨5, 2, 5, 256 + d, false, rfl, fun m => by have := m.2.1; omega⟩
    · exact ⟨5, 0, 0, 0, false, rfl, fun m => by have := m.2.2.1; omega⟩
    · exact ⟨5, 65536 + d, 0, 0, false, rfl, fun m => by have := m.2.2.1; omega⟩
    · exact ⟨5, 1, -1 - d, 0, false, rfl, fun m => by have := m.2.2.1; omega⟩
    · exact ⟨5, 2, 5, 1 + z, true, rfl, fun m => by have := m.2.2.2 rfl; omega⟩
  obtain ⟨k, c, x, v, g, e, hn⟩ := hr
  rw [e]
  have b1 := best_no 1 ⟨5, 2, 5, 9, false⟩ ⟨k, c, x, v, g⟩ (fun h => hn h.2.1)
  have b2 := best_no 1 ⟨k, c, x, v, g⟩ ⟨5, 2, 5, 9, false⟩ (fun h => hn h.1)
  have b3 := best_no 1 ⟨5, 2, 5, 9, false⟩ ⟨6, 2, 5, 0, false⟩ (fun h => by have := h.2.2; simp at this)
  simp only at b1 b2 b3 ⊢
  rw [b1, b2, b3, imay_f, imay_f, decide_eq_false hn]
  have hm : MayP 5 2 5 9 false := by decide
  rw [decide_eq_true hm]
  rfl

end Go.Proofs.Ytklaiaididkiiaa.MI
