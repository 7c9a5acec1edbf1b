/- The statement TopLost of package gimmaltop, at every world and every row of acts, no condition: the frame of its row. -/
import Derived.Test.YtljipbmmgcccnaaGreatKL17
import Derived.Test.YtljipbmmgcccnaaGreatRows
import Derived.WalkKit
import Derived.ProofKit
import Derived.OpenShut
import Derived.ShutString
import Derived.ChangeOld
import Derived.Below
import Derived.SizedLaws
namespace Go.Proofs.YtljipbmmgcccnaaGreat.topLost
open Go.ChangeShapes Go.WideShapes Go.ChangeAt Go.RowKit Go.Proofs.YtljipbmmgcccnaaGreat.T
set_option linter.unusedVariables false
theorem own : ownKnob Tryz.prog.godebug = none := by kernel_rfl
set_option maxRecDepth 100000 in
theorem lifted (os : Os) (started : os.Started) (H : Type) (enc : TypeId × Value → H) :
    ReturnsInHanded {} Tryz.checked os 7 .any (Rows.topLostSpec.pre6 enc Tryz.prog Tryz.f7 Rows.topLostRow.domain false) (Rows.topLostSpec.post enc Tryz.prog Tryz.f7 false true false false) := by
  refine returnsInHanded_of_change_sized (C := Tryz.checked) own started (by kernel_rfl) Tryz.func7
    (ChangeSpec.witness6 (enc := enc) (C := Tryz.checked) false ⟨#[], #[.agg #[.slice none 0 0, .slice none 0 0, .slice none 0 0], .slice none 0 0], []⟩ 8 (by kernel_rfl) (by kernel_rfl) (by kernel_rfl) (by kernel_rfl)) ?_
  intro W base args ds gs before hval0 hW hcnd hsz0 _
  have hval : ∀ (j : Nat) t v, Tryz.f7.params[j]? = some t → args[j]? = some v → Value.okWide Tryz.prog W .any base t v := hval0
  have hW' := hW
  obtain ⟨p, q, hA0, hV, rfl, hfz, hnd⟩ := hW
  have hA : DataW.TrodAll enc Tryz.prog W 0 (fun _ => true) true Tryz.f7.params.toList args.toList ds p := hA0
  rw [Tryz.params7] at hA hval
  obtain ⟨v0, vs0, d0, ds0, p0, q0, hargs, rfl, rfl, h0, r0⟩ := trodAll_cons hA
  obtain ⟨v1, vs1, d1, ds1, p1, q1, rfl, rfl, rfl, h1, r1⟩ := trodAll_cons r0
  obtain ⟨rfl, rfl, rfl⟩ := trodAll_nil r1
  obtain rfl : args = #[v0, v1] := by cases args; simp_all
  obtain ⟨rfl, rfl⟩ := trodVars_none hV
  have k0 := h0
  have lt0 : ∀ x ∈ p0, x.block < W.heap.size := by obtain ⟨m, hm⟩ := k0; exact DataW.trod_lt m _ _ _ hm
  have w0 : Fits (d0.weights Tryz.prog 61) := fun q hq => by
    have hall := List.all_eq_true.1 hsz0 q (DataW.weights_mem_each (P := Tryz.prog) (j := 0) (t := 61) (d := d0) (by rfl) (by rfl) q hq)
    simpa using hall
  have k1 := h1
  have lt1 : ∀ x ∈ p1, x.block < W.heap.size := by obtain ⟨m, hm⟩ := k1; exact DataW.trod_lt m _ _ _ hm
  have w1 : Fits (d1.weights Tryz.prog 79) := fun q hq => by
    have hall := List.all_eq_true.1 hsz0 q (DataW.weights_mem_each (P := Tryz.prog) (j := 1) (t := 79) (d := d1) (by rfl) (by rfl) q hq)
    simpa using hall
  obtain ⟨A, n, c, ns, B, m, e, C, k, f, ps, rfl, s1, s2, fit, b0⟩ := open_world (hval 0 61 v0 rfl rfl) h0 w0
  obtain ⟨E, na, ca, acts, rfl, s3⟩ := open_acts (hval 1 79 v1 rfl rfl) h1
  clear hA0 hval0 hsz0
  refine (topLost_ (E := E) (na := na) (ca := ca) (acts := acts) (A := A) (B := B) (C := C) (n := n) (c := c) (m := m) (d := e) (k := k) (f := f) (ns := ns) (ps := ps) (w := W) s3 fit).mono fun e W' ⟨he, bel'⟩ => ?_
  subst he
  have bel := bel'.out
  exact ⟨_, rfl, _, _, _, [], _, [], hW', trodAll_mk1 (shut_bool Tryz.underlying4 _), (trodAll_cons_mk (Below.trod laidOut (by kernel_rfl) (of_decide_eq_true (by kernel_rfl)) k0 bel lt0) (trodAll_cons_mk (Below.trod laidOut (by kernel_rfl) (of_decide_eq_true (by kernel_rfl)) k1 bel lt1) trodAll_mk0)), rfl, bel.frame _, fun h => by cases h⟩
theorem over : Rows.topLostRow.holds Tryz.pinned (OpenSpec.ofChange Rows.topLostSpec) :=
  OpenClaim.holds_of_wide 7 Tryz.f7 rfl rfl rfl rfl rfl rfl rfl ⟨rfl, rfl, rfl, rfl, rfl⟩ rfl rfl rfl rfl rfl (by kernel_rfl) Tryz.func7 (by kernel_rfl)
    (of_decide_eq_true (by kernel_rfl)) (by unfold Func.isWrapper; first | (rw [if_pos (by decide +kernel)]; kernel_rfl) | (rw [if_neg (by decide +kernel)]; exact ⟨rfl, rfl⟩))
    (fun os started H enc _ => lifted os started H enc)
theorem proved : Rows.TopLostSaid := over
#print axioms proved
end Go.Proofs.YtljipbmmgcccnaaGreat.topLost
namespace Go.Proofs.YtljipbmmgcccnaaGreat
/-- The row, under a short name, for the claim. -/
theorem topLost_holds : Rows.TopLostSaid := topLost.proved
end Go.Proofs.YtljipbmmgcccnaaGreat
