/- The statement Items of package gimmallaw4, at every 2 items, no condition: the frame of its row. -/
import Derived.Test.YtklaiaididkiiaaRows
import Derived.Test.YtklaiaididkiiaaQItems
import Derived.Test.YtklaiaididkiiaaOpen
import Derived.WalkKit
import Derived.ProofKit
import Derived.OpenShut
import Derived.ShutString
import Derived.ChangeOld
import Derived.Below
import Derived.SizedLaws
namespace Go.Proofs.Ytklaiaididkiiaa.items
open Go.ChangeShapes Go.WideShapes Go.ChangeAt Go.RowKit
set_option linter.unusedVariables false
theorem own : ownKnob Try.prog.godebug = none := by kernel_rfl
set_option maxRecDepth 100000 in
theorem lifted (os : Os) (started : os.Started) (H : Type) (enc : TypeId × Value → H) :
    ReturnsInHanded {} Try.checked os 3 .any (Rows.itemsSpec.pre6 enc Try.prog Try.f3 Rows.itemsRow.domain false) (Rows.itemsSpec.post enc Try.prog Try.f3 false true false false) := by
  refine returnsInHanded_of_change_sized (C := Try.checked) own started (by kernel_rfl) Try.func3
    (ChangeSpec.witness6 (enc := enc) (C := Try.checked) false ⟨#[], #[.agg #[.int .i64 0, .int .i64 0, .int .i64 0, .int .i64 0, .bool false], .agg #[.int .i64 0, .int .i64 0, .int .i64 0, .int .i64 0, .bool false]], []⟩ 8 (by kernel_rfl) (by kernel_rfl) (by kernel_rfl) (by kernel_rfl)) ?_
  intro W base args ds gs before hval0 hW hcnd hsz0 _
  have hval : ∀ (j : Nat) t v, Try.f3.params[j]? = some t → args[j]? = some v → Value.okWide Try.prog W .any base t v := hval0
  have hW' := hW
  obtain ⟨p, q, hA0, hV, rfl, hfz, hnd⟩ := hW
  have hA : DataW.TrodAll enc Try.prog W 0 (fun _ => true) true Try.f3.params.toList args.toList ds p := hA0
  rw [Try.params3] at hA hval
  obtain ⟨v0, vs0, d0, ds0, p0, q0, hargs, rfl, rfl, h0, r0⟩ := trodAll_cons hA
  obtain ⟨v1, vs1, d1, ds1, p1, q1, rfl, rfl, rfl, h1, r1⟩ := trodAll_cons r0
  obtain ⟨rfl, rfl, rfl⟩ := trodAll_nil r1
  obtain rfl : args = #[v0, v1] := by cases args; simp_all
  obtain ⟨rfl, rfl⟩ := trodVars_none hV
  obtain ⟨k0, c0, x0, n0, g0, rfl, rfl, rfl, wk0, wc0, wx0, wv0⟩ := Open.open_item (hval 0 25 v0 rfl rfl) h0
  obtain ⟨k1, c1, x1, n1, g1, rfl, rfl, rfl, wk1, wc1, wx1, wv1⟩ := Open.open_item (hval 1 25 v1 rfl rfl) h1
  clear hA0 hval0 hsz0
  refine (MI.gimmallaw4_Items.calls 1 k0 c0 x0 n0 g0 k1 c1 x1 n1 g1 W (MI.Items k0 c0 x0 n0 g0 k1 c1 x1 n1 g1)).mono fun e W' ⟨he, bel⟩ => ?_
  subst he
  exact ⟨_, rfl, _, _, _, [], _, [], hW', trodAll_mk1 (shut_bool Try.underlying4 _), (trodAll_cons_mk (Open.shut_item _ _ _ _ g0 wk0 wc0 wx0 wv0) (trodAll_cons_mk (Open.shut_item _ _ _ _ g1 wk1 wc1 wx1 wv1) trodAll_mk0)), rfl, bel.frame _, fun h => by cases h⟩
theorem over : Rows.itemsRow.holds Try.pinned (OpenSpec.ofChange Rows.itemsSpec) :=
  OpenClaim.holds_of_wide 3 Try.f3 rfl rfl rfl rfl rfl rfl rfl ⟨rfl, rfl, rfl, rfl, rfl⟩ rfl rfl rfl rfl rfl (by kernel_rfl) Try.func3 (by kernel_rfl)
    (of_decide_eq_true (by kernel_rfl)) (by unfold Func.isWrapper; first | (rw [if_pos (by decide +kernel)]; kernel_rfl) | (rw [if_neg (by decide +kernel)]; exact ⟨rfl, rfl⟩))
    (fun os started H enc _ => lifted os started H enc)
theorem proved : Rows.ItemsSaid := over
#print axioms proved
end Go.Proofs.Ytklaiaididkiiaa.items
namespace Go.Proofs.Ytklaiaididkiiaa
/-- The row, under a short name, for the claim. -/
theorem items_holds : Rows.ItemsSaid := items.proved
end Go.Proofs.Ytklaiaididkiiaa
