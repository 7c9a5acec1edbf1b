/- Over numbers and lists alone: stores and places that may not be are refused. -/
import Derived.Test.YtklaiaididkiiaaSP
import Derived.Test.YtklaiaididkiiaaSSpanForms
namespace Go.Proofs.Ytklaiaididkiiaa.MS
set_option linter.unusedVariables false
open Go.RowKit Go.Proofs.YtklaiaididkiiaaW.PrintWords Go.Proofs.YtklaiaididkiiaaW.PrintLast

theorem no_from (k : Nat) (xs : List S25) (hs : store_May.f (k + 1) xs = some true) (x y : Int) (hx : ¬ (0 ≤ x ∧ x < 256)) : span_Of.f (k + 1) xs x y = some ([], 600) := by
  unfold span_Of.f
  rw [hs, place_f, decide_eq_false hx]
  simp only [Option.bind_some, if_true, Bool.false_eq_true, if_false, span_Of.j0]
theorem no_to (k : Nat) (xs : List S25) (hs : store_May.f (k + 1) xs = some true) (x y : Int) (hx : 0 ≤ x ∧ x < 256) (hy : ¬ (0 ≤ y ∧ y < 256)) : span_Of.f (k + 1) xs x y = some ([], 600) := by
  unfold span_Of.f
  rw [hs, place_f, place_f, decide_eq_true hx, decide_eq_false hy]
  simp only [Option.bind_some, if_true, Bool.not_false, span_Of.j0]
theorem no_store (k : Nat) (xs : List S25) (hs : store_May.f (k + 1) xs = some false) (x y : Int) : span_Of.f (k + 1) xs x y = some ([], 600) := by
  unfold span_Of.f
  rw [hs]
  simp only [Option.bind_some, if_true, Bool.false_eq_true, if_false, span_Of.j0]

theorem SpanForms : gimmallaw6_SpanForms.Pure := by
  intro a0 a1 w0 w1
  refine ⟨0 + 20, ?_⟩
  unfold gimmallaw6_SpanForms.f
  rw [gimmallaw6_awake.is_true]
  simp only [Option.bind_some, if_true, Plain.and1023, Plain.and1, gimmallaw0_Num.f, gimmallaw6_it.f]
  have e1 : wrap64 (1 + a1 % 1024) = 1 + a1 % 1024 := by unfold wrap64; omega
  have e2 : wrap64 (-(1 + a1 % 1024)) = -1 - a1 % 1024 := by unfold wrap64; omega
  have e3 : wrap64 (255 + (1 + a1 % 1024)) = 256 + a1 % 1024 := by unfold wrap64; omega
  rw [e1, e2, e3]
  clear e1 e2 e3
  have hd : 0 ≤ a1 % 1024 := by omega
  generalize a1 % 1024 = d at hd
  have hw : a0 % 2 = 0 ∨ a0 % 2 = 1 := by omega
  have hlen : ((([-1 - d, 256 + d] : List Int).length : Nat) : Int) = 2 := rfl
  rw [hlen, if_pos (by omega), if_pos (by omega)]
  have hr : ∃ c : Int, rd [-1 - d, 256 + d] (a0 % 2) = c ∧ ¬ (0 ≤ c ∧ c < 256) := by
    rcases hw with h | h <;> rw [h]
    · exact ⟨-1 - d, rfl, by omega⟩
    · exact ⟨256 + d, rfl, by omega⟩
  obtain ⟨c, e, hc⟩ := hr
  rw [e]
  have s1 : store_May.f 20 [(⟨3, (⟨1, 0⟩ : S23), 0, false⟩ : S25), (⟨9, (⟨1, 0⟩ : S23), 0, false⟩ : S25)] = some true := by decide +kernel
  have s2 : store_May.f 20 [(⟨9, (⟨1, 0⟩ : S23), 0, false⟩ : S25), (⟨3, (⟨1, 0⟩ : S23), 0, false⟩ : S25)] = some false := by decide +kernel
  have s3 : store_May.f 20 [(⟨3, (⟨0, 0⟩ : S23), 0, false⟩ : S25)] = some false := by decide +kernel
  rw [no_from 19 _ s1 c 5 hc, no_to 19 _ s1 5 c (by omega) hc, no_store 19 _ s2 5 6, no_store 19 _ s3 5 6]
  rfl

end Go.Proofs.Ytklaiaididkiiaa.MS
