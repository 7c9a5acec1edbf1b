/- The statement TopWrites of package gimmaltop, at every node and all numbers, no condition: the frame of its row. -/
import Derived.Test.YtljipbmmgcccnaaGreatKW16
import Derived.Test.YtljipbmmgcccnaaGreatRows
import Derived.WalkKit
import Derived.ProofKit
import Derived.OpenShut
import Derived.ShutString
import Derived.ChangeOld
import Derived.Below
import Derived.SizedLaws
namespace Go.Proofs.YtljipbmmgcccnaaGreat.topWrites
open Go.ChangeShapes Go.WideShapes Go.ChangeAt Go.RowKit Go.Proofs.YtljipbmmgcccnaaGreat.T
set_option linter.unusedVariables false
theorem own : ownKnob Tryz.prog.godebug = none := by kernel_rfl
set_option maxRecDepth 100000 in
theorem lifted (os : Os) (started : os.Started) (H : Type) (enc : TypeId × Value → H) :
    ReturnsInHanded {} Tryz.checked os 4 .any (Rows.topWritesSpec.pre6 enc Tryz.prog Tryz.f4 Rows.topWritesRow.domain false) (Rows.topWritesSpec.post enc Tryz.prog Tryz.f4 false true false false) := by
  refine returnsInHanded_of_change_sized (C := Tryz.checked) own started (by kernel_rfl) Tryz.func4
    (ChangeSpec.witness6 (enc := enc) (C := Tryz.checked) false ⟨#[], #[.agg #[.bool false, .int .i64 0, .slice none 0 0, .slice none 0 0, .slice none 0 0, .slice none 0 0], .int .i64 0, .int .i64 0, .int .i64 0], []⟩ 8 (by kernel_rfl) (by kernel_rfl) (by kernel_rfl) (by kernel_rfl)) ?_
  intro W base args ds gs before hval0 hW hcnd hsz0 _
  have hval : ∀ (j : Nat) t v, Tryz.f4.params[j]? = some t → args[j]? = some v → Value.okWide Tryz.prog W .any base t v := hval0
  have hW' := hW
  obtain ⟨p, q, hA0, hV, rfl, hfz, hnd⟩ := hW
  have hA : DataW.TrodAll enc Tryz.prog W 0 (fun _ => true) true Tryz.f4.params.toList args.toList ds p := hA0
  rw [Tryz.params4] at hA hval
  obtain ⟨v0, vs0, d0, ds0, p0, q0, hargs, rfl, rfl, h0, r0⟩ := trodAll_cons hA
  obtain ⟨v1, vs1, d1, ds1, p1, q1, rfl, rfl, rfl, h1, r1⟩ := trodAll_cons r0
  obtain ⟨v2, vs2, d2, ds2, p2, q2, rfl, rfl, rfl, h2, r2⟩ := trodAll_cons r1
  obtain ⟨v3, vs3, d3, ds3, p3, q3, rfl, rfl, rfl, h3, r3⟩ := trodAll_cons r2
  obtain ⟨rfl, rfl, rfl⟩ := trodAll_nil r3
  obtain rfl : args = #[v0, v1, v2, v3] := by cases args; simp_all
  obtain ⟨rfl, rfl⟩ := trodVars_none hV
  have k0 := h0
  have lt0 : ∀ x ∈ p0, x.block < W.heap.size := by obtain ⟨m, hm⟩ := k0; exact DataW.trod_lt m _ _ _ hm
  have w0 : Fits (d0.weights Tryz.prog 40) := fun q hq => by
    have hall := List.all_eq_true.1 hsz0 q (DataW.weights_mem_each (P := Tryz.prog) (j := 0) (t := 40) (d := d0) (by rfl) (by rfl) q hq)
    simpa using hall
  obtain ⟨up, id, A, n, c, ps, B, m, e, xs, I, ni, ci, is, L, nl, cl, ls, rfl, s1, s2, s3, s4, b1, b2, b3, b4⟩ := open_node (hval 0 40 v0 rfl rfl) h0 w0
  obtain ⟨n1, rfl, rfl, rfl, u1⟩ := open_int Tryz.underlying3 (hval 1 3 v1 rfl rfl) h1
  obtain ⟨n2, rfl, rfl, rfl, u2⟩ := open_int Tryz.underlying3 (hval 2 3 v2 rfl rfl) h2
  obtain ⟨n3, rfl, rfl, rfl, u3⟩ := open_int Tryz.underlying3 (hval 3 3 v3 rfl rfl) h3
  clear hA0 hval0 hsz0
  refine (topWrites_ (up := up) (id := id) (key := n1) (u := n2) (other := n3) (A := A) (B := B) (I := I) (L := L) (n := n) (c := c) (m := m) (d := e) (ni := ni) (ci := ci) (nl := nl) (cl := cl) (ps := ps) (xs := xs) (is := is) (ls := ls) (w := W) b1 b2 b3 b4).mono fun e W' ⟨he, bel'⟩ => ?_
  subst he
  have bel := bel'.out
  exact ⟨_, rfl, _, _, _, [], _, [], hW', trodAll_mk1 (shut_bool Tryz.underlying4 _), (trodAll_cons_mk (Below.trod laidOut (by kernel_rfl) (of_decide_eq_true (by kernel_rfl)) k0 bel lt0) (trodAll_cons_mk (shut_int Tryz.underlying3 u1) (trodAll_cons_mk (shut_int Tryz.underlying3 u2) (trodAll_cons_mk (shut_int Tryz.underlying3 u3) trodAll_mk0)))), rfl, bel.frame _, fun h => by cases h⟩
theorem over : Rows.topWritesRow.holds Tryz.pinned (OpenSpec.ofChange Rows.topWritesSpec) :=
  OpenClaim.holds_of_wide 4 Tryz.f4 rfl rfl rfl rfl rfl rfl rfl ⟨rfl, rfl, rfl, rfl, rfl⟩ rfl rfl rfl rfl rfl (by kernel_rfl) Tryz.func4 (by kernel_rfl)
    (of_decide_eq_true (by kernel_rfl)) (by unfold Func.isWrapper; first | (rw [if_pos (by decide +kernel)]; kernel_rfl) | (rw [if_neg (by decide +kernel)]; exact ⟨rfl, rfl⟩))
    (fun os started H enc _ => lifted os started H enc)
theorem proved : Rows.TopWritesSaid := over
#print axioms proved
end Go.Proofs.YtljipbmmgcccnaaGreat.topWrites
namespace Go.Proofs.YtljipbmmgcccnaaGreat
/-- The row, under a short name, for the claim. -/
theorem topWrites_holds : Rows.TopWritesSaid := topWrites.proved
end Go.Proofs.YtljipbmmgcccnaaGreat
