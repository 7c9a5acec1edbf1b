/- Words and lemmas that the claim's proof names, part 4: what the program's functions answer, at the inputs that each theorem's premises name. Conditions: each theorem's own premises. -/
import Derived.Test.YtljipbmmgcccnaaGreatKP3
import Derived.WalkSpells
import Derived.Lib.SliceRun
section
namespace Go.Proofs.YtljipbmmgcccnaaGreat.T
open Go.RowKit Go.Proofs.YtljipbmmgcccnaaGreatW.PrintWords Go.Proofs.YtljipbmmgcccnaaGreatW.PrintLast Go.Proofs.YtljipbmmgcccnaaGreatW.PrintMore
set_option linter.unusedVariables false
set_option linter.unusedSimpArgs false
theorem infoC98 : (Tryz.prog.info? 98).map (fun i => (i.zero, i.size, i.bytes)) = some (some (.agg #[(.int .i64 0), (.int .i64 0)]), k98.sz, 16) := by kernel_rfl
set_option maxHeartbeats 2000000 in
set_option maxRecDepth 100000 in
theorem clonePeer (A : Option Addr) (c : Nat) (l : List S98) (w : World) (hr : Kd.C k98 w A l.length l) (hc : l.length ≤ c) (hn : l.length * 16 ≤ 140737488351232) :
 Calls Tryz.prog 44 #[.slice A l.length c] w fun e w' => ∃ v : Value, e = .returned v ∧ Kd.R k98 98 w' w.heap.size (fun _ => True) v l ∧ Below w.heap.size w w' := by
 have HR0 := Aside0.mk hr
 have HB := Aside0.mk (Below.refl w.heap.size w)
 have HN := Aside0.mk hn
 cases A with
 | none =>
   have hl : l = [] := by
    cases l with
    | nil => rfl
    | cons x xs => obtain ⟨ad, e, _⟩ := hr.2.2 (by simp); cases e
   subst hl
   clear hr hn
   have hnil := fun w => Lib.run_eql_slice_nil (P := Tryz.prog) w 22 98 none 0 c 0 0 Tryz.underlying22
   go_enter Tryz.func44, Tryz.ntmps44
   go_wp2
   go_ret
   exact ⟨_, rfl, Kd.R_nil _ _ _ _ _, by repeat (first | (with_reducible first | exact HB.out | apply below_alloc | apply pw_below_drewN | apply below_drew1) | exact HB.out)⟩
 | some A =>
   clear hr hn
   have hnil := fun w => Lib.run_eql_slice_nil (P := Tryz.prog) w 22 98 (some A) l.length c 0 0 Tryz.underlying22
   go_enter Tryz.func44, Tryz.ntmps44
   go_wp2_with (first
    | ((with_reducible refine gate_dst (N := 5) rfl ?_); refine Kd.R_lit k98 _ 98 ?hg (N := 5) ?hd (xs := ([] : List S98)) (inner := []) (ok := fun _ => True) (okp := fun _ => True) ?hr ?hp (fun _ hk => hk) trivial (Below.refl _ _) (Nat.le_refl _) (by simp) ?_; (case hd => rfl); (case hg => rfl); (case hr => first | (go_simp; done) | (go_simp; rfl)); (case hp => exact (Reps.none _ _)); intro v1 w1 ho hb hg_ hnew_; clear hg_ hnew_; have HO := Aside0.mk (Kd.R_lower ho (below_size (by repeat (first | (with_reducible first | exact HB.out | apply below_alloc | apply pw_below_drewN | apply below_drew1) | exact HB.out)))); have n1_ := Aside0.mk (below_step (by repeat (first | (with_reducible first | exact HB.out | apply below_alloc | apply pw_below_drewN | apply below_drew1) | exact HB.out)) hb); clear HB; have HB := n1_; clear n1_; clear hb ho)
    | ((with_reducible refine gate_builtin (b := .append) (xs := #[.tmp 5, .tmp 6]) rfl ?_); at_builtin; refine Kd.R_append_rows k98 (w0 := w) w.heap.size rfl (.tmp 5) (.tmp 6) 22 98 (.agg #[(.int .i64 0), (.int .i64 0)]) 16 rfl Tryz.underlying22 infoC98 rfl (by decide) (by omega) v1 ([] : List S98) l _ _ _ (fun _ => True) (fun _ => False) rfl rfl ?aO ?aR (fun _ _ h => h) (fun _ h => h.elim) ?aF ?aB ?aS ?aL ?_; (case aR => repeat (first | exact (Kd.C_below HR0.out HB.out) | (with_reducible refine Kd.C_alloc ?_ _) | (with_reducible refine Kd.C_drewN ?_ _) | (with_reducible refine Kd.C_drew ?_))); (case aB => exact (by repeat (first | (with_reducible first | exact HB.out | apply below_alloc | apply pw_below_drewN | apply below_drew1) | exact HB.out))); (case aF => exact (fun _ _ => trivial)); (case aO => exact (by (with_reducible repeat (first | apply Kd.R_alloc | apply Kd.R_drewN | apply Kd.R_drew)); exact HO.out)); (case aS => exact (below_size (by repeat (first | (with_reducible first | exact HB.out | apply below_alloc | apply pw_below_drewN | apply below_drew1) | exact HB.out)))); (case aL => have := HN.out; simp; omega); intro v2 w5 ho hb hg hat; have HB2 := Aside0.mk hb; have HO2 := Aside0.mk ho; clear ho hb hg hat))
   go_ret
   exact ⟨_, rfl, by (with_reducible repeat (first | apply Kd.R_alloc | apply Kd.R_drewN | apply Kd.R_drew)); exact HO2.out, by repeat (first | (with_reducible first | exact HB2.out | apply below_alloc | apply pw_below_drewN | apply below_drew1) | exact HB2.out)⟩
theorem infoC3 : (Tryz.prog.info? 3).map (fun i => (i.zero, i.size, i.bytes)) = some (some (.int .i64 0), (Kd.int .i64).sz, 8) := by kernel_rfl
set_option maxHeartbeats 2000000 in
set_option maxRecDepth 100000 in
theorem cloneInt (A : Option Addr) (c : Nat) (l : List Int) (w : World) (hr : Kd.C (Kd.int .i64) w A l.length l) (hc : l.length ≤ c) (hn : l.length * 8 ≤ 140737488351232) :
 Calls Tryz.prog 50 #[.slice A l.length c] w fun e w' => ∃ v : Value, e = .returned v ∧ Kd.R (Kd.int .i64) 3 w' w.heap.size (fun _ => True) v l ∧ Below w.heap.size w w' := by
 have HR0 := Aside0.mk hr
 have HB := Aside0.mk (Below.refl w.heap.size w)
 have HN := Aside0.mk hn
 cases A with
 | none =>
   have hl : l = [] := by
    cases l with
    | nil => rfl
    | cons x xs => obtain ⟨ad, e, _⟩ := hr.2.2 (by simp); cases e
   subst hl
   clear hr hn
   have hnil := fun w => Lib.run_eql_slice_nil (P := Tryz.prog) w 23 3 none 0 c 0 0 Tryz.underlying23
   go_enter Tryz.func50, Tryz.ntmps50
   go_wp2
   go_ret
   exact ⟨_, rfl, Kd.R_nil _ _ _ _ _, by repeat (first | (with_reducible first | exact HB.out | apply below_alloc | apply pw_below_drewN | apply below_drew1) | exact HB.out)⟩
 | some A =>
   clear hr hn
   have hnil := fun w => Lib.run_eql_slice_nil (P := Tryz.prog) w 23 3 (some A) l.length c 0 0 Tryz.underlying23
   go_enter Tryz.func50, Tryz.ntmps50
   go_wp2_with (first
    | ((with_reducible refine gate_dst (N := 5) rfl ?_); refine Kd.R_lit (Kd.int .i64) _ 3 ?hg (N := 5) ?hd (xs := ([] : List Int)) (inner := []) (ok := fun _ => True) (okp := fun _ => True) ?hr ?hp (fun _ hk => hk) trivial (Below.refl _ _) (Nat.le_refl _) (by simp) ?_; (case hd => rfl); (case hg => rfl); (case hr => first | (go_simp; done) | (go_simp; rfl)); (case hp => exact (Reps.none _ _)); intro v1 w1 ho hb hg_ hnew_; clear hg_ hnew_; have HO := Aside0.mk (Kd.R_lower ho (below_size (by repeat (first | (with_reducible first | exact HB.out | apply below_alloc | apply pw_below_drewN | apply below_drew1) | exact HB.out)))); have n1_ := Aside0.mk (below_step (by repeat (first | (with_reducible first | exact HB.out | apply below_alloc | apply pw_below_drewN | apply below_drew1) | exact HB.out)) hb); clear HB; have HB := n1_; clear n1_; clear hb ho)
    | ((with_reducible refine gate_builtin (b := .append) (xs := #[.tmp 5, .tmp 6]) rfl ?_); at_builtin; refine Kd.R_append_rows (Kd.int .i64) (w0 := w) w.heap.size rfl (.tmp 5) (.tmp 6) 23 3 (.int .i64 0) 8 rfl Tryz.underlying23 infoC3 rfl (by decide) (by omega) v1 ([] : List Int) l _ _ _ (fun _ => True) (fun _ => False) rfl rfl ?aO ?aR (fun _ _ h => h) (fun _ h => h.elim) ?aF ?aB ?aS ?aL ?_; (case aR => repeat (first | exact (Kd.C_below HR0.out HB.out) | (with_reducible refine Kd.C_alloc ?_ _) | (with_reducible refine Kd.C_drewN ?_ _) | (with_reducible refine Kd.C_drew ?_))); (case aB => exact (by repeat (first | (with_reducible first | exact HB.out | apply below_alloc | apply pw_below_drewN | apply below_drew1) | exact HB.out))); (case aF => exact (fun _ _ => trivial)); (case aO => exact (by (with_reducible repeat (first | apply Kd.R_alloc | apply Kd.R_drewN | apply Kd.R_drew)); exact HO.out)); (case aS => exact (below_size (by repeat (first | (with_reducible first | exact HB.out | apply below_alloc | apply pw_below_drewN | apply below_drew1) | exact HB.out)))); (case aL => have := HN.out; simp; omega); intro v2 w5 ho hb hg hat; have HB2 := Aside0.mk hb; have HO2 := Aside0.mk ho; clear ho hb hg hat))
   go_ret
   exact ⟨_, rfl, by (with_reducible repeat (first | apply Kd.R_alloc | apply Kd.R_drewN | apply Kd.R_drew)); exact HO2.out, by repeat (first | (with_reducible first | exact HB2.out | apply below_alloc | apply pw_below_drewN | apply below_drew1) | exact HB2.out)⟩
theorem infoC48 : (Tryz.prog.info? 48).map (fun i => (i.zero, i.size, i.bytes)) = some (some (.agg #[(.int .i64 0), (.int .i64 0), (.int .i64 0), (.int .i64 0), (.bool false)]), k48.sz, 40) := by kernel_rfl
set_option maxHeartbeats 2000000 in
set_option maxRecDepth 100000 in
theorem cloneItem (A : Option Addr) (c : Nat) (l : List S48) (w : World) (hr : Kd.C k48 w A l.length l) (hc : l.length ≤ c) (hn : l.length * 40 ≤ 140737488351232) :
 Calls Tryz.prog 109 #[.slice A l.length c] w fun e w' => ∃ v : Value, e = .returned v ∧ Kd.R k48 48 w' w.heap.size (fun _ => True) v l ∧ Below w.heap.size w w' := by
 have HR0 := Aside0.mk hr
 have HB := Aside0.mk (Below.refl w.heap.size w)
 have HN := Aside0.mk hn
 cases A with
 | none =>
   have hl : l = [] := by
    cases l with
    | nil => rfl
    | cons x xs => obtain ⟨ad, e, _⟩ := hr.2.2 (by simp); cases e
   subst hl
   clear hr hn
   have hnil := fun w => Lib.run_eql_slice_nil (P := Tryz.prog) w 37 48 none 0 c 0 0 Tryz.underlying37
   go_enter Tryz.func109, Tryz.ntmps109
   go_wp2
   go_ret
   exact ⟨_, rfl, Kd.R_nil _ _ _ _ _, by repeat (first | (with_reducible first | exact HB.out | apply below_alloc | apply pw_below_drewN | apply below_drew1) | exact HB.out)⟩
 | some A =>
   clear hr hn
   have hnil := fun w => Lib.run_eql_slice_nil (P := Tryz.prog) w 37 48 (some A) l.length c 0 0 Tryz.underlying37
   go_enter Tryz.func109, Tryz.ntmps109
   go_wp2_with (first
    | ((with_reducible refine gate_dst (N := 5) rfl ?_); refine Kd.R_lit k48 _ 48 ?hg (N := 5) ?hd (xs := ([] : List S48)) (inner := []) (ok := fun _ => True) (okp := fun _ => True) ?hr ?hp (fun _ hk => hk) trivial (Below.refl _ _) (Nat.le_refl _) (by simp) ?_; (case hd => rfl); (case hg => rfl); (case hr => first | (go_simp; done) | (go_simp; rfl)); (case hp => exact (Reps.none _ _)); intro v1 w1 ho hb hg_ hnew_; clear hg_ hnew_; have HO := Aside0.mk (Kd.R_lower ho (below_size (by repeat (first | (with_reducible first | exact HB.out | apply below_alloc | apply pw_below_drewN | apply below_drew1) | exact HB.out)))); have n1_ := Aside0.mk (below_step (by repeat (first | (with_reducible first | exact HB.out | apply below_alloc | apply pw_below_drewN | apply below_drew1) | exact HB.out)) hb); clear HB; have HB := n1_; clear n1_; clear hb ho)
    | ((with_reducible refine gate_builtin (b := .append) (xs := #[.tmp 5, .tmp 6]) rfl ?_); at_builtin; refine Kd.R_append_rows k48 (w0 := w) w.heap.size rfl (.tmp 5) (.tmp 6) 37 48 (.agg #[(.int .i64 0), (.int .i64 0), (.int .i64 0), (.int .i64 0), (.bool false)]) 40 rfl Tryz.underlying37 infoC48 rfl (by decide) (by omega) v1 ([] : List S48) l _ _ _ (fun _ => True) (fun _ => False) rfl rfl ?aO ?aR (fun _ _ h => h) (fun _ h => h.elim) ?aF ?aB ?aS ?aL ?_; (case aR => repeat (first | exact (Kd.C_below HR0.out HB.out) | (with_reducible refine Kd.C_alloc ?_ _) | (with_reducible refine Kd.C_drewN ?_ _) | (with_reducible refine Kd.C_drew ?_))); (case aB => exact (by repeat (first | (with_reducible first | exact HB.out | apply below_alloc | apply pw_below_drewN | apply below_drew1) | exact HB.out))); (case aF => exact (fun _ _ => trivial)); (case aO => exact (by (with_reducible repeat (first | apply Kd.R_alloc | apply Kd.R_drewN | apply Kd.R_drew)); exact HO.out)); (case aS => exact (below_size (by repeat (first | (with_reducible first | exact HB.out | apply below_alloc | apply pw_below_drewN | apply below_drew1) | exact HB.out)))); (case aL => have := HN.out; simp; omega); intro v2 w5 ho hb hg hat; have HB2 := Aside0.mk hb; have HO2 := Aside0.mk ho; clear ho hb hg hat))
   go_ret
   exact ⟨_, rfl, by (with_reducible repeat (first | apply Kd.R_alloc | apply Kd.R_drewN | apply Kd.R_drew)); exact HO2.out, by repeat (first | (with_reducible first | exact HB2.out | apply below_alloc | apply pw_below_drewN | apply below_drew1) | exact HB2.out)⟩
theorem infoC77 : (Tryz.prog.info? 77).map (fun i => (i.zero, i.size, i.bytes)) = some (some (.agg #[(.int .i64 0), (.bool false), (.int .i64 0)]), k77.sz, 24) := by kernel_rfl
set_option maxHeartbeats 2000000 in
set_option maxRecDepth 100000 in
theorem cloneTold (A : Option Addr) (c : Nat) (l : List S77) (w : World) (hr : Kd.C k77 w A l.length l) (hc : l.length ≤ c) (hn : l.length * 24 ≤ 140737488351232) :
 Calls Tryz.prog 110 #[.slice A l.length c] w fun e w' => ∃ v : Value, e = .returned v ∧ Kd.R k77 77 w' w.heap.size (fun _ => True) v l ∧ Below w.heap.size w w' := by
 have HR0 := Aside0.mk hr
 have HB := Aside0.mk (Below.refl w.heap.size w)
 have HN := Aside0.mk hn
 cases A with
 | none =>
   have hl : l = [] := by
    cases l with
    | nil => rfl
    | cons x xs => obtain ⟨ad, e, _⟩ := hr.2.2 (by simp); cases e
   subst hl
   clear hr hn
   have hnil := fun w => Lib.run_eql_slice_nil (P := Tryz.prog) w 38 77 none 0 c 0 0 Tryz.underlying38
   go_enter Tryz.func110, Tryz.ntmps110
   go_wp2
   go_ret
   exact ⟨_, rfl, Kd.R_nil _ _ _ _ _, by repeat (first | (with_reducible first | exact HB.out | apply below_alloc | apply pw_below_drewN | apply below_drew1) | exact HB.out)⟩
 | some A =>
   clear hr hn
   have hnil := fun w => Lib.run_eql_slice_nil (P := Tryz.prog) w 38 77 (some A) l.length c 0 0 Tryz.underlying38
   go_enter Tryz.func110, Tryz.ntmps110
   go_wp2_with (first
    | ((with_reducible refine gate_dst (N := 5) rfl ?_); refine Kd.R_lit k77 _ 77 ?hg (N := 5) ?hd (xs := ([] : List S77)) (inner := []) (ok := fun _ => True) (okp := fun _ => True) ?hr ?hp (fun _ hk => hk) trivial (Below.refl _ _) (Nat.le_refl _) (by simp) ?_; (case hd => rfl); (case hg => rfl); (case hr => first | (go_simp; done) | (go_simp; rfl)); (case hp => exact (Reps.none _ _)); intro v1 w1 ho hb hg_ hnew_; clear hg_ hnew_; have HO := Aside0.mk (Kd.R_lower ho (below_size (by repeat (first | (with_reducible first | exact HB.out | apply below_alloc | apply pw_below_drewN | apply below_drew1) | exact HB.out)))); have n1_ := Aside0.mk (below_step (by repeat (first | (with_reducible first | exact HB.out | apply below_alloc | apply pw_below_drewN | apply below_drew1) | exact HB.out)) hb); clear HB; have HB := n1_; clear n1_; clear hb ho)
    | ((with_reducible refine gate_builtin (b := .append) (xs := #[.tmp 5, .tmp 6]) rfl ?_); at_builtin; refine Kd.R_append_rows k77 (w0 := w) w.heap.size rfl (.tmp 5) (.tmp 6) 38 77 (.agg #[(.int .i64 0), (.bool false), (.int .i64 0)]) 24 rfl Tryz.underlying38 infoC77 rfl (by decide) (by omega) v1 ([] : List S77) l _ _ _ (fun _ => True) (fun _ => False) rfl rfl ?aO ?aR (fun _ _ h => h) (fun _ h => h.elim) ?aF ?aB ?aS ?aL ?_; (case aR => repeat (first | exact (Kd.C_below HR0.out HB.out) | (with_reducible refine Kd.C_alloc ?_ _) | (with_reducible refine Kd.C_drewN ?_ _) | (with_reducible refine Kd.C_drew ?_))); (case aB => exact (by repeat (first | (with_reducible first | exact HB.out | apply below_alloc | apply pw_below_drewN | apply below_drew1) | exact HB.out))); (case aF => exact (fun _ _ => trivial)); (case aO => exact (by (with_reducible repeat (first | apply Kd.R_alloc | apply Kd.R_drewN | apply Kd.R_drew)); exact HO.out)); (case aS => exact (below_size (by repeat (first | (with_reducible first | exact HB.out | apply below_alloc | apply pw_below_drewN | apply below_drew1) | exact HB.out)))); (case aL => have := HN.out; simp; omega); intro v2 w5 ho hb hg hat; have HB2 := Aside0.mk hb; have HO2 := Aside0.mk ho; clear ho hb hg hat))
   go_ret
   exact ⟨_, rfl, by (with_reducible repeat (first | apply Kd.R_alloc | apply Kd.R_drewN | apply Kd.R_drew)); exact HO2.out, by repeat (first | (with_reducible first | exact HB2.out | apply below_alloc | apply pw_below_drewN | apply below_drew1) | exact HB2.out)⟩
theorem infoC157 : (Tryz.prog.info? 157).map (fun i => (i.zero, i.size, i.bytes)) = some (some (.agg #[(.int .i64 0), (.int .i64 0)]), k157.sz, 16) := by kernel_rfl
set_option maxHeartbeats 2000000 in
set_option maxRecDepth 100000 in
theorem cloneCut (A : Option Addr) (c : Nat) (l : List S157) (w : World) (hr : Kd.C k157 w A l.length l) (hc : l.length ≤ c) (hn : l.length * 16 ≤ 140737488351232) :
 Calls Tryz.prog 118 #[.slice A l.length c] w fun e w' => ∃ v : Value, e = .returned v ∧ Kd.R k157 157 w' w.heap.size (fun _ => True) v l ∧ Below w.heap.size w w' := by
 have HR0 := Aside0.mk hr
 have HB := Aside0.mk (Below.refl w.heap.size w)
 have HN := Aside0.mk hn
 cases A with
 | none =>
   have hl : l = [] := by
    cases l with
    | nil => rfl
    | cons x xs => obtain ⟨ad, e, _⟩ := hr.2.2 (by simp); cases e
   subst hl
   clear hr hn
   have hnil := fun w => Lib.run_eql_slice_nil (P := Tryz.prog) w 58 157 none 0 c 0 0 Tryz.underlying58
   go_enter Tryz.func118, Tryz.ntmps118
   go_wp2
   go_ret
   exact ⟨_, rfl, Kd.R_nil _ _ _ _ _, by repeat (first | (with_reducible first | exact HB.out | apply below_alloc | apply pw_below_drewN | apply below_drew1) | exact HB.out)⟩
 | some A =>
   clear hr hn
   have hnil := fun w => Lib.run_eql_slice_nil (P := Tryz.prog) w 58 157 (some A) l.length c 0 0 Tryz.underlying58
   go_enter Tryz.func118, Tryz.ntmps118
   go_wp2_with (first
    | ((with_reducible refine gate_dst (N := 5) rfl ?_); refine Kd.R_lit k157 _ 157 ?hg (N := 5) ?hd (xs := ([] : List S157)) (inner := []) (ok := fun _ => True) (okp := fun _ => True) ?hr ?hp (fun _ hk => hk) trivial (Below.refl _ _) (Nat.le_refl _) (by simp) ?_; (case hd => rfl); (case hg => rfl); (case hr => first | (go_simp; done) | (go_simp; rfl)); (case hp => exact (Reps.none _ _)); intro v1 w1 ho hb hg_ hnew_; clear hg_ hnew_; have HO := Aside0.mk (Kd.R_lower ho (below_size (by repeat (first | (with_reducible first | exact HB.out | apply below_alloc | apply pw_below_drewN | apply below_drew1) | exact HB.out)))); have n1_ := Aside0.mk (below_step (by repeat (first | (with_reducible first | exact HB.out | apply below_alloc | apply pw_below_drewN | apply below_drew1) | exact HB.out)) hb); clear HB; have HB := n1_; clear n1_; clear hb ho)
    | ((with_reducible refine gate_builtin (b := .append) (xs := #[.tmp 5, .tmp 6]) rfl ?_); at_builtin; refine Kd.R_append_rows k157 (w0 := w) w.heap.size rfl (.tmp 5) (.tmp 6) 58 157 (.agg #[(.int .i64 0), (.int .i64 0)]) 16 rfl Tryz.underlying58 infoC157 rfl (by decide) (by omega) v1 ([] : List S157) l _ _ _ (fun _ => True) (fun _ => False) rfl rfl ?aO ?aR (fun _ _ h => h) (fun _ h => h.elim) ?aF ?aB ?aS ?aL ?_; (case aR => repeat (first | exact (Kd.C_below HR0.out HB.out) | (with_reducible refine Kd.C_alloc ?_ _) | (with_reducible refine Kd.C_drewN ?_ _) | (with_reducible refine Kd.C_drew ?_))); (case aB => exact (by repeat (first | (with_reducible first | exact HB.out | apply below_alloc | apply pw_below_drewN | apply below_drew1) | exact HB.out))); (case aF => exact (fun _ _ => trivial)); (case aO => exact (by (with_reducible repeat (first | apply Kd.R_alloc | apply Kd.R_drewN | apply Kd.R_drew)); exact HO.out)); (case aS => exact (below_size (by repeat (first | (with_reducible first | exact HB.out | apply below_alloc | apply pw_below_drewN | apply below_drew1) | exact HB.out)))); (case aL => have := HN.out; simp; omega); intro v2 w5 ho hb hg hat; have HB2 := Aside0.mk hb; have HO2 := Aside0.mk ho; clear ho hb hg hat))
   go_ret
   exact ⟨_, rfl, by (with_reducible repeat (first | apply Kd.R_alloc | apply Kd.R_drewN | apply Kd.R_drew)); exact HO2.out, by repeat (first | (with_reducible first | exact HB2.out | apply below_alloc | apply pw_below_drewN | apply below_drew1) | exact HB2.out)⟩
end Go.Proofs.YtljipbmmgcccnaaGreat.T
end
section
namespace Go.Proofs.YtljipbmmgcccnaaGreat.T
open Go.RowKit Go.Proofs.YtljipbmmgcccnaaGreatW.PrintWords Go.Proofs.YtljipbmmgcccnaaGreatW.PrintLast Go.Proofs.YtljipbmmgcccnaaGreatW.PrintMore
set_option linter.unusedVariables false
set_option linter.unusedSimpArgs false
def placeB (x : Int) : Bool := decide (0 ≤ x ∧ x < 256)
theorem placeB_iff (x : Int) : placeB x = true ↔ 0 ≤ x ∧ x < 256 := decide_eq_true_iff
def farI (a b : Int) : Int := (b - a) % 256
def cmpI (a b : Int) : Int := if a < b then -1 else if a > b then 1 else 0
theorem num (a : Int) (w : World) : Calls Tryz.prog 11 #[.int .i64 a] w fun e w' => e = .returned (.int .i64 a) ∧ Drawn0 w w' := by
 go_enter Tryz.func11, Tryz.ntmps11
 go_wp2
 go_ret
 exact ⟨rfl, by repeat (first | exact Drawn0.refl _ | apply Drawn0.step)⟩
theorem place (a : Int) (w : World) : Calls Tryz.prog 35 #[.int .i64 a] w fun e w' => e = .returned (.bool (placeB a)) ∧ Drawn0 w w' := by
 by_cases h0 : 0 ≤ a
 ·have HR := Aside0.mk (show placeB a = decide (a < 256) by unfold placeB; simp [h0])
  go_enter Tryz.func35, Tryz.ntmps35
  go_wp2
  go_ret
  exact ⟨by rw [HR.out]; rfl, by repeat (first | exact Drawn0.refl _ | apply Drawn0.step)⟩
 ·have HR := Aside0.mk (show placeB a = false by unfold placeB; simp [h0])
  go_enter Tryz.func35, Tryz.ntmps35
  go_wp2
  go_ret
  exact ⟨by rw [HR.out]; rfl, by repeat (first | exact Drawn0.refl _ | apply Drawn0.step)⟩
theorem byte (a : Int) (w : World) : Calls Tryz.prog 106 #[.int .i64 a] w fun e w' => e = .returned (.bool (placeB a)) ∧ Drawn0 w w' := by
 by_cases h0 : 0 ≤ a
 ·have HR := Aside0.mk (show placeB a = decide (a < 256) by unfold placeB; simp [h0])
  go_enter Tryz.func106, Tryz.ntmps106
  go_wp2
  go_ret
  exact ⟨by rw [HR.out]; rfl, by repeat (first | exact Drawn0.refl _ | apply Drawn0.step)⟩
 ·have HR := Aside0.mk (show placeB a = false by unfold placeB; simp [h0])
  go_enter Tryz.func106, Tryz.ntmps106
  go_wp2
  go_ret
  exact ⟨by rw [HR.out]; rfl, by repeat (first | exact Drawn0.refl _ | apply Drawn0.step)⟩
theorem far (a b : Int) (ha : placeB a = true) (hb : placeB b = true) (w : World) :
 Calls Tryz.prog 100 #[.int .i64 a, .int .i64 b] w fun e w' => e = .returned (.int .i64 (farI a b)) ∧ Drawn0 w w' := by
 obtain ⟨a0, a1⟩ := (placeB_iff a).1 ha
 obtain ⟨b0, b1⟩ := (placeB_iff b).1 hb
 have HX := Aside0.mk (show (b - a + 256) % 256 = farI a b by unfold farI; omega)
 clear ha hb
 go_enter Tryz.func100, Tryz.ntmps100
 go_wp2
 go_ret
 exact ⟨by rw [← HX.out]; rfl, by repeat (first | exact Drawn0.refl _ | apply Drawn0.step)⟩
theorem isNaN (a : Int) (w : World) : Calls Tryz.prog 150 #[.int .i64 a] w fun e w' => e = .returned (.bool false) ∧ Drawn0 w w' := by
 have h : (a != a) = false := by simp
 go_enter Tryz.func150, Tryz.ntmps150
 go_wp2
 go_ret
 exact ⟨by first | rfl | (simp; done), by repeat (first | exact Drawn0.refl _ | apply Drawn0.step)⟩
theorem compare (a b : Int) (w : World) : Calls Tryz.prog 107 #[.int .i64 a, .int .i64 b] w fun e w' => e = .returned (.int .i64 (cmpI a b)) ∧ Drawn0 w w' := by
 by_cases h : a < b
 ·have HR := Aside0.mk (show cmpI a b = -1 by unfold cmpI; rw [if_pos h])
  go_enter Tryz.func107, Tryz.ntmps107
  go_wp2_with (first | (go_at_call 150; (with_reducible refine (isNaN _ _).mono ?_); rintro e w' ⟨rfl, ⟨nd, rfl⟩⟩))
  go_ret
  exact ⟨by rw [HR.out]; rfl, by repeat (first | exact Drawn0.refl _ | apply Drawn0.step)⟩
 ·by_cases g : b < a
  ·have HR := Aside0.mk (show cmpI a b = 1 by unfold cmpI; rw [if_neg h, if_pos g])
   go_enter Tryz.func107, Tryz.ntmps107
   go_wp2_with (first | (go_at_call 150; (with_reducible refine (isNaN _ _).mono ?_); rintro e w' ⟨rfl, ⟨nd, rfl⟩⟩))
   go_ret
   exact ⟨by rw [HR.out]; rfl, by repeat (first | exact Drawn0.refl _ | apply Drawn0.step)⟩
  ·have HR := Aside0.mk (show cmpI a b = 0 by unfold cmpI; rw [if_neg h, if_neg g])
   go_enter Tryz.func107, Tryz.ntmps107
   go_wp2_with (first | (go_at_call 150; (with_reducible refine (isNaN _ _).mono ?_); rintro e w' ⟨rfl, ⟨nd, rfl⟩⟩))
   go_ret
   exact ⟨by rw [HR.out]; rfl, by repeat (first | exact Drawn0.refl _ | apply Drawn0.step)⟩
theorem int_at {w : World} {A : Option Addr} {l : List Int} (h : Kd.C (Kd.int .i64) w A l.length l) (j : Nat) (hj : j < l.length) :
 ∃ ad, A = some ad ∧ w.cell? (ad.add j) = some (.int .i64 l[j]) := by
 obtain ⟨ad, e, hc⟩ := h.2.2 (by omega)
 obtain ⟨c, hs, hr, hcell⟩ := hc j l[j] (List.getElem?_eq_getElem hj)
 obtain rfl : c = [.int .i64 l[j]] := hr
 have hq := hcell 0 _ rfl
 rw [show (Kd.int .i64).sz = 1 from rfl, Nat.mul_one, Nat.add_zero] at hq
 exact ⟨ad, e, hq⟩
theorem all_take {α : Type} {p : α → Bool} {l : List α} {i : Nat} (h : (l.take i).all p = true) (hi : i < l.length) (hp : p l[i] = true) : (l.take (i + 1)).all p = true := by
 rw [List.take_succ_eq_append_getElem hi, List.all_append, h]; simp [hp]
theorem all_false {α : Type} {p : α → Bool} {l : List α} {i : Nat} (hi : i < l.length) (hp : p l[i] = false) : l.all p = false := by
 rw [List.all_eq_false]; exact ⟨l[i], List.getElem_mem hi, by simp [hp]⟩
theorem all_done {α : Type} {p : α → Bool} {l : List α} {i : Nat} (h : (l.take i).all p = true) (hi : ¬ i < l.length) : l.all p = true := by
 rwa [List.take_of_length_le (by omega)] at h
set_option maxHeartbeats 2000000 in
theorem places (A : Option Addr) (c : Nat) (l : List Int) (w : World) (hr : Kd.C (Kd.int .i64) w A l.length l) (hc : l.length ≤ c) :
 Calls Tryz.prog 36 #[.slice A l.length c] w fun e w' => e = .returned (.bool (l.all placeB)) ∧ Drawn0 w w' := by
 have HR := Aside0.mk hr
 have hlen : l.length ≤ 9223372036854775807 := hr.2.1
 clear hr hc
 go_enter Tryz.func36, Tryz.ntmps36
 go_wp2
 go_loopg [7] l.length (fun kq v7 w' => ∃ i : Nat, v7 = .int .i64 i ∧ i ≤ l.length ∧ kq = l.length - i ∧ Aside0 ((l.take i).all placeB = true) ∧ Drawn0 w w')
 case atStart => exact ⟨0, rfl, Nat.zero_le _, rfl, ⟨by simp⟩, by repeat (first | exact Drawn0.refl _ | apply Drawn0.step)⟩
 case round =>
  obtain ⟨i, rfl, hi, rfl, HA, ⟨m1, rfl⟩⟩ := hrel
  by_cases hlt : i < l.length
  ·obtain ⟨ad, rfl, hx⟩ := int_at HR.out i hlt
   cases hp : placeB l[i]
   ·have HF := Aside0.mk (all_false (p := placeB) hlt hp)
    go_wp2_with (first | (go_at_call 35; (with_reducible refine (place _ _).mono ?_); rintro e w' ⟨rfl, ⟨nd, rfl⟩⟩))
    go_ret
    exact ⟨by rw [HF.out]; rfl, by repeat (first | exact Drawn0.refl _ | apply Drawn0.step)⟩
   ·have HT := Aside0.mk (all_take HA.out hlt hp)
    go_wp2_with (first | (go_at_call 35; (with_reducible refine (place _ _).mono ?_); rintro e w' ⟨rfl, ⟨nd, rfl⟩⟩))
    go_roundg (l.length - (i + 1))
    case measure => omega
    case rel => exact ⟨i + 1, by go_num, by omega, rfl, HT, by repeat (first | exact Drawn0.refl _ | apply Drawn0.step)⟩
  ·have HT := Aside0.mk (all_done HA.out hlt)
   go_wp2
   go_ret
   exact ⟨by rw [HT.out]; rfl, by repeat (first | exact Drawn0.refl _ | apply Drawn0.step)⟩
end Go.Proofs.YtljipbmmgcccnaaGreat.T
end
section
namespace Go.Proofs.YtljipbmmgcccnaaGreat.T
open Go.RowKit Go.Proofs.YtljipbmmgcccnaaGreatW.PrintWords Go.Proofs.YtljipbmmgcccnaaGreatW.PrintLast Go.Proofs.YtljipbmmgcccnaaGreatW.PrintMore
set_option linter.unusedVariables false
set_option linter.unusedSimpArgs false
theorem put3 : (∀ (l : List Value) (i : Nat) (a : Value), l.toArray.setIfInBounds i a = (l.set i a).toArray) ∧ (∀ (a b : Value) (l : List Value), (a :: l).set 0 b = b :: l) ∧ (∀ (a b : Value) (l : List Value) (i : Nat), (a :: l).set (i + 1) b = a :: l.set i b) := by
 refine ⟨fun l i a => ?_, fun a b l => ?_, fun a b l i => ?_⟩ <;> simp
def verB (c x : Int) : Bool := decide (1 ≤ c ∧ c ≤ 65535) && placeB x
def itemB (k c x v : Int) (g : Bool) : Bool := placeB k && placeB v && verB c x && (!g || v == 0)
theorem verMay_a (c x : Int) (w : World) (h : ¬ 1 ≤ c) :
 Calls Tryz.prog 61 #[.agg #[.int .i64 c, .int .i64 x]] w fun e w' => e = .returned (.bool (verB c x)) ∧ Below w.heap.size w w' := by
 have HB := Aside0.mk (Below.refl w.heap.size w)
 have HR := Aside0.mk (show verB c x = false by unfold verB; simp [h])
 go_enter Tryz.func61, Tryz.ntmps61
 go_upto_region 1 with (first | ((with_reducible refine gate_dst (N := 1) rfl ?_); refine box_event ?hg (N := 1) ?hd (cs := #[.int .i64 c, .int .i64 x]) (t := 46) ?hr ?_; (case hd => rfl); (case hg => rfl); (case hr => first | (go_simp; done) | (go_simp; rfl)); intro gv hg wgv hbox hb; have n0_ := Aside0.mk (below_step (by repeat (first | (with_reducible first | exact HB.out | apply below_alloc | apply pw_below_drewN | apply below_drew1) | exact HB.out)) hb); have n1_ := Aside0.mk hbox; have n2_ := Aside0.mk ((by rw [hg]; exact (below_size (by repeat (first | (with_reducible first | exact HB.out | apply below_alloc | apply pw_below_drewN | apply below_drew1) | exact HB.out))) : w.heap.size ≤ gv)); clear HB; have HB := n0_; have BKgv := n1_; have GEgv := n2_; clear n0_ n1_ n2_; clear hb hbox hg))
 (try simp only [Act.put, put3])
 have hc0_gv_0 : wgv.cell? ⟨gv, 0, none⟩ = some (.int .i64 c) := (blk_cell BKgv.out 0).trans rfl
 have hf0_gv_0 := blk_frozen BKgv.out 0
 have hc0_gv_1 : wgv.cell? ⟨gv, 1, none⟩ = some (.int .i64 x) := (blk_cell BKgv.out 1).trans rfl
 have hf0_gv_1 := blk_frozen BKgv.out 1
 go_wp2_with (first | (go_at_call 35; (with_reducible refine (place _ _).mono ?_); rintro e w' ⟨rfl, ⟨nd, rfl⟩⟩))
 go_ret
 exact ⟨by rw [HR.out]; rfl, by repeat (first | (with_reducible first | exact HB.out | apply below_alloc | apply pw_below_drewN | apply below_drew1 | refine below_set ?_ GEgv.out) | exact HB.out)⟩
theorem verMay_b (c x : Int) (w : World) (h : 1 ≤ c) (h2 : ¬ c ≤ 65535) :
 Calls Tryz.prog 61 #[.agg #[.int .i64 c, .int .i64 x]] w fun e w' => e = .returned (.bool (verB c x)) ∧ Below w.heap.size w w' := by
 have HB := Aside0.mk (Below.refl w.heap.size w)
 have HR := Aside0.mk (show verB c x = false by unfold verB; simp [h, h2])
 go_enter Tryz.func61, Tryz.ntmps61
 go_upto_region 1 with (first | ((with_reducible refine gate_dst (N := 1) rfl ?_); refine box_event ?hg (N := 1) ?hd (cs := #[.int .i64 c, .int .i64 x]) (t := 46) ?hr ?_; (case hd => rfl); (case hg => rfl); (case hr => first | (go_simp; done) | (go_simp; rfl)); intro gv hg wgv hbox hb; have n0_ := Aside0.mk (below_step (by repeat (first | (with_reducible first | exact HB.out | apply below_alloc | apply pw_below_drewN | apply below_drew1) | exact HB.out)) hb); have n1_ := Aside0.mk hbox; have n2_ := Aside0.mk ((by rw [hg]; exact (below_size (by repeat (first | (with_reducible first | exact HB.out | apply below_alloc | apply pw_below_drewN | apply below_drew1) | exact HB.out))) : w.heap.size ≤ gv)); clear HB; have HB := n0_; have BKgv := n1_; have GEgv := n2_; clear n0_ n1_ n2_; clear hb hbox hg))
 (try simp only [Act.put, put3])
 have hc0_gv_0 : wgv.cell? ⟨gv, 0, none⟩ = some (.int .i64 c) := (blk_cell BKgv.out 0).trans rfl
 have hf0_gv_0 := blk_frozen BKgv.out 0
 have hc0_gv_1 : wgv.cell? ⟨gv, 1, none⟩ = some (.int .i64 x) := (blk_cell BKgv.out 1).trans rfl
 have hf0_gv_1 := blk_frozen BKgv.out 1
 go_wp2_with (first | (go_at_call 35; (with_reducible refine (place _ _).mono ?_); rintro e w' ⟨rfl, ⟨nd, rfl⟩⟩))
 go_ret
 exact ⟨by rw [HR.out]; rfl, by repeat (first | (with_reducible first | exact HB.out | apply below_alloc | apply pw_below_drewN | apply below_drew1 | refine below_set ?_ GEgv.out) | exact HB.out)⟩
theorem verMay_c (c x : Int) (w : World) (h : 1 ≤ c) (h2 : c ≤ 65535) :
 Calls Tryz.prog 61 #[.agg #[.int .i64 c, .int .i64 x]] w fun e w' => e = .returned (.bool (verB c x)) ∧ Below w.heap.size w w' := by
 have HB := Aside0.mk (Below.refl w.heap.size w)
 have HR := Aside0.mk (show verB c x = placeB x by unfold verB; simp [h, h2])
 go_enter Tryz.func61, Tryz.ntmps61
 go_upto_region 1 with (first | ((with_reducible refine gate_dst (N := 1) rfl ?_); refine box_event ?hg (N := 1) ?hd (cs := #[.int .i64 c, .int .i64 x]) (t := 46) ?hr ?_; (case hd => rfl); (case hg => rfl); (case hr => first | (go_simp; done) | (go_simp; rfl)); intro gv hg wgv hbox hb; have n0_ := Aside0.mk (below_step (by repeat (first | (with_reducible first | exact HB.out | apply below_alloc | apply pw_below_drewN | apply below_drew1) | exact HB.out)) hb); have n1_ := Aside0.mk hbox; have n2_ := Aside0.mk ((by rw [hg]; exact (below_size (by repeat (first | (with_reducible first | exact HB.out | apply below_alloc | apply pw_below_drewN | apply below_drew1) | exact HB.out))) : w.heap.size ≤ gv)); clear HB; have HB := n0_; have BKgv := n1_; have GEgv := n2_; clear n0_ n1_ n2_; clear hb hbox hg))
 (try simp only [Act.put, put3])
 have hc0_gv_0 : wgv.cell? ⟨gv, 0, none⟩ = some (.int .i64 c) := (blk_cell BKgv.out 0).trans rfl
 have hf0_gv_0 := blk_frozen BKgv.out 0
 have hc0_gv_1 : wgv.cell? ⟨gv, 1, none⟩ = some (.int .i64 x) := (blk_cell BKgv.out 1).trans rfl
 have hf0_gv_1 := blk_frozen BKgv.out 1
 go_wp2_with (first | (go_at_call 35; (with_reducible refine (place _ _).mono ?_); rintro e w' ⟨rfl, ⟨nd, rfl⟩⟩))
 go_ret
 exact ⟨by rw [HR.out]; rfl, by repeat (first | (with_reducible first | exact HB.out | apply below_alloc | apply pw_below_drewN | apply below_drew1 | refine below_set ?_ GEgv.out) | exact HB.out)⟩
theorem verMay (c x : Int) (w : World) :
 Calls Tryz.prog 61 #[.agg #[.int .i64 c, .int .i64 x]] w fun e w' => e = .returned (.bool (verB c x)) ∧ Below w.heap.size w w' := by
 by_cases h : 1 ≤ c
 ·by_cases h2 : c ≤ 65535
  ·exact verMay_c c x w h h2
  ·exact verMay_b c x w h h2
 ·exact verMay_a c x w h
theorem itemMay_a (k c x v : Int) (g : Bool) (w : World) (h1 : placeB k = false) :
 Calls Tryz.prog 57 #[.agg #[.int .i64 k, .int .i64 c, .int .i64 x, .int .i64 v, .bool g]] w fun e w' => e = .returned (.bool (itemB k c x v g)) ∧ Below w.heap.size w w' := by
 have HB := Aside0.mk (Below.refl w.heap.size w)
 have HR := Aside0.mk (show itemB k c x v g = false by unfold itemB; simp [h1])
 go_enter Tryz.func57, Tryz.ntmps57
 go_upto_region 1 with (first | ((with_reducible refine gate_dst (N := 1) rfl ?_); refine box_event ?hg (N := 1) ?hd (cs := #[.int .i64 k, .int .i64 c, .int .i64 x, .int .i64 v, .bool g]) (t := 48) ?hr ?_; (case hd => rfl); (case hg => rfl); (case hr => first | (go_simp; done) | (go_simp; rfl)); intro gi hg wgi hbox hb; have n0_ := Aside0.mk (below_step (by repeat (first | (with_reducible first | exact HB.out | apply below_alloc | apply pw_below_drewN | apply below_drew1) | exact HB.out)) hb); have n1_ := Aside0.mk hbox; have n2_ := Aside0.mk ((by rw [hg]; exact (below_size (by repeat (first | (with_reducible first | exact HB.out | apply below_alloc | apply pw_below_drewN | apply below_drew1) | exact HB.out))) : w.heap.size ≤ gi)); clear HB; have HB := n0_; have BKgi := n1_; have GEgi := n2_; clear n0_ n1_ n2_; clear hb hbox hg))
 (try simp only [Act.put, put3])
 have hc0_gi_0 : wgi.cell? ⟨gi, 0, none⟩ = some (.int .i64 k) := (blk_cell BKgi.out 0).trans rfl
 have hf0_gi_0 := blk_frozen BKgi.out 0
 have hc0_gi_1 : wgi.cell? ⟨gi, 1, none⟩ = some (.int .i64 c) := (blk_cell BKgi.out 1).trans rfl
 have hf0_gi_1 := blk_frozen BKgi.out 1
 have hc0_gi_2 : wgi.cell? ⟨gi, 2, none⟩ = some (.int .i64 x) := (blk_cell BKgi.out 2).trans rfl
 have hf0_gi_2 := blk_frozen BKgi.out 2
 have hc0_gi_3 : wgi.cell? ⟨gi, 3, none⟩ = some (.int .i64 v) := (blk_cell BKgi.out 3).trans rfl
 have hf0_gi_3 := blk_frozen BKgi.out 3
 have hc0_gi_4 : wgi.cell? ⟨gi, 4, none⟩ = some (.bool g) := (blk_cell BKgi.out 4).trans rfl
 have hf0_gi_4 := blk_frozen BKgi.out 4
 go_wp2_with (first | (go_at_call 106; (with_reducible refine (byte _ _).mono ?_); rintro e w' ⟨rfl, ⟨nd, rfl⟩⟩) | (go_at_call 61; (with_reducible refine (verMay _ _ _).mono ?_); rintro e w1 ⟨rfl, hb⟩; have n0_ := Aside0.mk (blk_below (g := gi) (o := .cells #[.int .i64 k, .int .i64 c, .int .i64 x, .int .i64 v, .bool g] 48 (0, 0)) (by (with_reducible repeat (first | refine blk_drewN ?_ _ | refine blk_drew ?_ | refine blk_alloc ?_ _)); exact BKgi.out) hb); have n1_ := Aside0.mk (below_step (by repeat (first | (with_reducible first | exact HB.out | apply below_alloc | apply pw_below_drewN | apply below_drew1 | refine below_set ?_ GEgi.out) | exact HB.out)) hb); clear BKgi; clear HB; have BKgi := n0_; have HB := n1_; clear n0_ n1_; clear hb; have hc1_gi_0 : w1.cell? ⟨gi, 0, none⟩ = some (.int .i64 k) := (blk_cell BKgi.out 0).trans rfl; have hf1_gi_0 := blk_frozen BKgi.out 0; have hc1_gi_1 : w1.cell? ⟨gi, 1, none⟩ = some (.int .i64 c) := (blk_cell BKgi.out 1).trans rfl; have hf1_gi_1 := blk_frozen BKgi.out 1; have hc1_gi_2 : w1.cell? ⟨gi, 2, none⟩ = some (.int .i64 x) := (blk_cell BKgi.out 2).trans rfl; have hf1_gi_2 := blk_frozen BKgi.out 2; have hc1_gi_3 : w1.cell? ⟨gi, 3, none⟩ = some (.int .i64 v) := (blk_cell BKgi.out 3).trans rfl; have hf1_gi_3 := blk_frozen BKgi.out 3; have hc1_gi_4 : w1.cell? ⟨gi, 4, none⟩ = some (.bool g) := (blk_cell BKgi.out 4).trans rfl; have hf1_gi_4 := blk_frozen BKgi.out 4))
 go_ret
 exact ⟨by rw [HR.out]; rfl, by repeat (first | (with_reducible first | exact HB.out | apply below_alloc | apply pw_below_drewN | apply below_drew1 | refine below_set ?_ GEgi.out) | exact HB.out)⟩
theorem itemMay_b (k c x v : Int) (g : Bool) (w : World) (h1 : placeB k = true) (h2 : placeB v = false) :
 Calls Tryz.prog 57 #[.agg #[.int .i64 k, .int .i64 c, .int .i64 x, .int .i64 v, .bool g]] w fun e w' => e = .returned (.bool (itemB k c x v g)) ∧ Below w.heap.size w w' := by
 have HB := Aside0.mk (Below.refl w.heap.size w)
 have HR := Aside0.mk (show itemB k c x v g = false by unfold itemB; simp [h1, h2])
 go_enter Tryz.func57, Tryz.ntmps57
 go_upto_region 1 with (first | ((with_reducible refine gate_dst (N := 1) rfl ?_); refine box_event ?hg (N := 1) ?hd (cs := #[.int .i64 k, .int .i64 c, .int .i64 x, .int .i64 v, .bool g]) (t := 48) ?hr ?_; (case hd => rfl); (case hg => rfl); (case hr => first | (go_simp; done) | (go_simp; rfl)); intro gi hg wgi hbox hb; have n0_ := Aside0.mk (below_step (by repeat (first | (with_reducible first | exact HB.out | apply below_alloc | apply pw_below_drewN | apply below_drew1) | exact HB.out)) hb); have n1_ := Aside0.mk hbox; have n2_ := Aside0.mk ((by rw [hg]; exact (below_size (by repeat (first | (with_reducible first | exact HB.out | apply below_alloc | apply pw_below_drewN | apply below_drew1) | exact HB.out))) : w.heap.size ≤ gi)); clear HB; have HB := n0_; have BKgi := n1_; have GEgi := n2_; clear n0_ n1_ n2_; clear hb hbox hg))
 (try simp only [Act.put, put3])
 have hc0_gi_0 : wgi.cell? ⟨gi, 0, none⟩ = some (.int .i64 k) := (blk_cell BKgi.out 0).trans rfl
 have hf0_gi_0 := blk_frozen BKgi.out 0
 have hc0_gi_1 : wgi.cell? ⟨gi, 1, none⟩ = some (.int .i64 c) := (blk_cell BKgi.out 1).trans rfl
 have hf0_gi_1 := blk_frozen BKgi.out 1
 have hc0_gi_2 : wgi.cell? ⟨gi, 2, none⟩ = some (.int .i64 x) := (blk_cell BKgi.out 2).trans rfl
 have hf0_gi_2 := blk_frozen BKgi.out 2
 have hc0_gi_3 : wgi.cell? ⟨gi, 3, none⟩ = some (.int .i64 v) := (blk_cell BKgi.out 3).trans rfl
 have hf0_gi_3 := blk_frozen BKgi.out 3
 have hc0_gi_4 : wgi.cell? ⟨gi, 4, none⟩ = some (.bool g) := (blk_cell BKgi.out 4).trans rfl
 have hf0_gi_4 := blk_frozen BKgi.out 4
 go_wp2_with (first | (go_at_call 106; (with_reducible refine (byte _ _).mono ?_); rintro e w' ⟨rfl, ⟨nd, rfl⟩⟩) | (go_at_call 61; (with_reducible refine (verMay _ _ _).mono ?_); rintro e w1 ⟨rfl, hb⟩; have n0_ := Aside0.mk (blk_below (g := gi) (o := .cells #[.int .i64 k, .int .i64 c, .int .i64 x, .int .i64 v, .bool g] 48 (0, 0)) (by (with_reducible repeat (first | refine blk_drewN ?_ _ | refine blk_drew ?_ | refine blk_alloc ?_ _)); exact BKgi.out) hb); have n1_ := Aside0.mk (below_step (by repeat (first | (with_reducible first | exact HB.out | apply below_alloc | apply pw_below_drewN | apply below_drew1 | refine below_set ?_ GEgi.out) | exact HB.out)) hb); clear BKgi; clear HB; have BKgi := n0_; have HB := n1_; clear n0_ n1_; clear hb; have hc1_gi_0 : w1.cell? ⟨gi, 0, none⟩ = some (.int .i64 k) := (blk_cell BKgi.out 0).trans rfl; have hf1_gi_0 := blk_frozen BKgi.out 0; have hc1_gi_1 : w1.cell? ⟨gi, 1, none⟩ = some (.int .i64 c) := (blk_cell BKgi.out 1).trans rfl; have hf1_gi_1 := blk_frozen BKgi.out 1; have hc1_gi_2 : w1.cell? ⟨gi, 2, none⟩ = some (.int .i64 x) := (blk_cell BKgi.out 2).trans rfl; have hf1_gi_2 := blk_frozen BKgi.out 2; have hc1_gi_3 : w1.cell? ⟨gi, 3, none⟩ = some (.int .i64 v) := (blk_cell BKgi.out 3).trans rfl; have hf1_gi_3 := blk_frozen BKgi.out 3; have hc1_gi_4 : w1.cell? ⟨gi, 4, none⟩ = some (.bool g) := (blk_cell BKgi.out 4).trans rfl; have hf1_gi_4 := blk_frozen BKgi.out 4))
 go_ret
 exact ⟨by rw [HR.out]; rfl, by repeat (first | (with_reducible first | exact HB.out | apply below_alloc | apply pw_below_drewN | apply below_drew1 | refine below_set ?_ GEgi.out) | exact HB.out)⟩
theorem itemMay_c (k c x v : Int) (g : Bool) (w : World) (h1 : placeB k = true) (h2 : placeB v = true) (h3 : verB c x = false) :
 Calls Tryz.prog 57 #[.agg #[.int .i64 k, .int .i64 c, .int .i64 x, .int .i64 v, .bool g]] w fun e w' => e = .returned (.bool (itemB k c x v g)) ∧ Below w.heap.size w w' := by
 have HB := Aside0.mk (Below.refl w.heap.size w)
 have HR := Aside0.mk (show itemB k c x v g = false by unfold itemB; simp [h1, h2, h3])
 go_enter Tryz.func57, Tryz.ntmps57
 go_upto_region 1 with (first | ((with_reducible refine gate_dst (N := 1) rfl ?_); refine box_event ?hg (N := 1) ?hd (cs := #[.int .i64 k, .int .i64 c, .int .i64 x, .int .i64 v, .bool g]) (t := 48) ?hr ?_; (case hd => rfl); (case hg => rfl); (case hr => first | (go_simp; done) | (go_simp; rfl)); intro gi hg wgi hbox hb; have n0_ := Aside0.mk (below_step (by repeat (first | (with_reducible first | exact HB.out | apply below_alloc | apply pw_below_drewN | apply below_drew1) | exact HB.out)) hb); have n1_ := Aside0.mk hbox; have n2_ := Aside0.mk ((by rw [hg]; exact (below_size (by repeat (first | (with_reducible first | exact HB.out | apply below_alloc | apply pw_below_drewN | apply below_drew1) | exact HB.out))) : w.heap.size ≤ gi)); clear HB; have HB := n0_; have BKgi := n1_; have GEgi := n2_; clear n0_ n1_ n2_; clear hb hbox hg))
 (try simp only [Act.put, put3])
 have hc0_gi_0 : wgi.cell? ⟨gi, 0, none⟩ = some (.int .i64 k) := (blk_cell BKgi.out 0).trans rfl
 have hf0_gi_0 := blk_frozen BKgi.out 0
 have hc0_gi_1 : wgi.cell? ⟨gi, 1, none⟩ = some (.int .i64 c) := (blk_cell BKgi.out 1).trans rfl
 have hf0_gi_1 := blk_frozen BKgi.out 1
 have hc0_gi_2 : wgi.cell? ⟨gi, 2, none⟩ = some (.int .i64 x) := (blk_cell BKgi.out 2).trans rfl
 have hf0_gi_2 := blk_frozen BKgi.out 2
 have hc0_gi_3 : wgi.cell? ⟨gi, 3, none⟩ = some (.int .i64 v) := (blk_cell BKgi.out 3).trans rfl
 have hf0_gi_3 := blk_frozen BKgi.out 3
 have hc0_gi_4 : wgi.cell? ⟨gi, 4, none⟩ = some (.bool g) := (blk_cell BKgi.out 4).trans rfl
 have hf0_gi_4 := blk_frozen BKgi.out 4
 go_wp2_with (first | (go_at_call 106; (with_reducible refine (byte _ _).mono ?_); rintro e w' ⟨rfl, ⟨nd, rfl⟩⟩) | (go_at_call 61; (with_reducible refine (verMay _ _ _).mono ?_); rintro e w1 ⟨rfl, hb⟩; have n0_ := Aside0.mk (blk_below (g := gi) (o := .cells #[.int .i64 k, .int .i64 c, .int .i64 x, .int .i64 v, .bool g] 48 (0, 0)) (by (with_reducible repeat (first | refine blk_drewN ?_ _ | refine blk_drew ?_ | refine blk_alloc ?_ _)); exact BKgi.out) hb); have n1_ := Aside0.mk (below_step (by repeat (first | (with_reducible first | exact HB.out | apply below_alloc | apply pw_below_drewN | apply below_drew1 | refine below_set ?_ GEgi.out) | exact HB.out)) hb); clear BKgi; clear HB; have BKgi := n0_; have HB := n1_; clear n0_ n1_; clear hb; have hc1_gi_0 : w1.cell? ⟨gi, 0, none⟩ = some (.int .i64 k) := (blk_cell BKgi.out 0).trans rfl; have hf1_gi_0 := blk_frozen BKgi.out 0; have hc1_gi_1 : w1.cell? ⟨gi, 1, none⟩ = some (.int .i64 c) := (blk_cell BKgi.out 1).trans rfl; have hf1_gi_1 := blk_frozen BKgi.out 1; have hc1_gi_2 : w1.cell? ⟨gi, 2, none⟩ = some (.int .i64 x) := (blk_cell BKgi.out 2).trans rfl; have hf1_gi_2 := blk_frozen BKgi.out 2; have hc1_gi_3 : w1.cell? ⟨gi, 3, none⟩ = some (.int .i64 v) := (blk_cell BKgi.out 3).trans rfl; have hf1_gi_3 := blk_frozen BKgi.out 3; have hc1_gi_4 : w1.cell? ⟨gi, 4, none⟩ = some (.bool g) := (blk_cell BKgi.out 4).trans rfl; have hf1_gi_4 := blk_frozen BKgi.out 4))
 go_ret
 exact ⟨by rw [HR.out]; rfl, by repeat (first | (with_reducible first | exact HB.out | apply below_alloc | apply pw_below_drewN | apply below_drew1 | refine below_set ?_ GEgi.out) | exact HB.out)⟩
theorem itemMay_d (k c x v : Int) (g : Bool) (w : World) (h1 : placeB k = true) (h2 : placeB v = true) (h3 : verB c x = true) (h4 : g = false) :
 Calls Tryz.prog 57 #[.agg #[.int .i64 k, .int .i64 c, .int .i64 x, .int .i64 v, .bool g]] w fun e w' => e = .returned (.bool (itemB k c x v g)) ∧ Below w.heap.size w w' := by
 have HB := Aside0.mk (Below.refl w.heap.size w)
 have HR := Aside0.mk (show itemB k c x v g = true by unfold itemB; simp [h1, h2, h3, h4])
 go_enter Tryz.func57, Tryz.ntmps57
 go_upto_region 1 with (first | ((with_reducible refine gate_dst (N := 1) rfl ?_); refine box_event ?hg (N := 1) ?hd (cs := #[.int .i64 k, .int .i64 c, .int .i64 x, .int .i64 v, .bool g]) (t := 48) ?hr ?_; (case hd => rfl); (case hg => rfl); (case hr => first | (go_simp; done) | (go_simp; rfl)); intro gi hg wgi hbox hb; have n0_ := Aside0.mk (below_step (by repeat (first | (with_reducible first | exact HB.out | apply below_alloc | apply pw_below_drewN | apply below_drew1) | exact HB.out)) hb); have n1_ := Aside0.mk hbox; have n2_ := Aside0.mk ((by rw [hg]; exact (below_size (by repeat (first | (with_reducible first | exact HB.out | apply below_alloc | apply pw_below_drewN | apply below_drew1) | exact HB.out))) : w.heap.size ≤ gi)); clear HB; have HB := n0_; have BKgi := n1_; have GEgi := n2_; clear n0_ n1_ n2_; clear hb hbox hg))
 (try simp only [Act.put, put3])
 have hc0_gi_0 : wgi.cell? ⟨gi, 0, none⟩ = some (.int .i64 k) := (blk_cell BKgi.out 0).trans rfl
 have hf0_gi_0 := blk_frozen BKgi.out 0
 have hc0_gi_1 : wgi.cell? ⟨gi, 1, none⟩ = some (.int .i64 c) := (blk_cell BKgi.out 1).trans rfl
 have hf0_gi_1 := blk_frozen BKgi.out 1
 have hc0_gi_2 : wgi.cell? ⟨gi, 2, none⟩ = some (.int .i64 x) := (blk_cell BKgi.out 2).trans rfl
 have hf0_gi_2 := blk_frozen BKgi.out 2
 have hc0_gi_3 : wgi.cell? ⟨gi, 3, none⟩ = some (.int .i64 v) := (blk_cell BKgi.out 3).trans rfl
 have hf0_gi_3 := blk_frozen BKgi.out 3
 have hc0_gi_4 : wgi.cell? ⟨gi, 4, none⟩ = some (.bool g) := (blk_cell BKgi.out 4).trans rfl
 have hf0_gi_4 := blk_frozen BKgi.out 4
 go_wp2_with (first | (go_at_call 106; (with_reducible refine (byte _ _).mono ?_); rintro e w' ⟨rfl, ⟨nd, rfl⟩⟩) | (go_at_call 61; (with_reducible refine (verMay _ _ _).mono ?_); rintro e w1 ⟨rfl, hb⟩; have n0_ := Aside0.mk (blk_below (g := gi) (o := .cells #[.int .i64 k, .int .i64 c, .int .i64 x, .int .i64 v, .bool g] 48 (0, 0)) (by (with_reducible repeat (first | refine blk_drewN ?_ _ | refine blk_drew ?_ | refine blk_alloc ?_ _)); exact BKgi.out) hb); have n1_ := Aside0.mk (below_step (by repeat (first | (with_reducible first | exact HB.out | apply below_alloc | apply pw_below_drewN | apply below_drew1 | refine below_set ?_ GEgi.out) | exact HB.out)) hb); clear BKgi; clear HB; have BKgi := n0_; have HB := n1_; clear n0_ n1_; clear hb; have hc1_gi_0 : w1.cell? ⟨gi, 0, none⟩ = some (.int .i64 k) := (blk_cell BKgi.out 0).trans rfl; have hf1_gi_0 := blk_frozen BKgi.out 0; have hc1_gi_1 : w1.cell? ⟨gi, 1, none⟩ = some (.int .i64 c) := (blk_cell BKgi.out 1).trans rfl; have hf1_gi_1 := blk_frozen BKgi.out 1; have hc1_gi_2 : w1.cell? ⟨gi, 2, none⟩ = some (.int .i64 x) := (blk_cell BKgi.out 2).trans rfl; have hf1_gi_2 := blk_frozen BKgi.out 2; have hc1_gi_3 : w1.cell? ⟨gi, 3, none⟩ = some (.int .i64 v) := (blk_cell BKgi.out 3).trans rfl; have hf1_gi_3 := blk_frozen BKgi.out 3; have hc1_gi_4 : w1.cell? ⟨gi, 4, none⟩ = some (.bool g) := (blk_cell BKgi.out 4).trans rfl; have hf1_gi_4 := blk_frozen BKgi.out 4))
 go_ret
 exact ⟨by rw [HR.out]; rfl, by repeat (first | (with_reducible first | exact HB.out | apply below_alloc | apply pw_below_drewN | apply below_drew1 | refine below_set ?_ GEgi.out) | exact HB.out)⟩
theorem itemMay_e (k c x v : Int) (g : Bool) (w : World) (h1 : placeB k = true) (h2 : placeB v = true) (h3 : verB c x = true) (h4 : g = true) :
 Calls Tryz.prog 57 #[.agg #[.int .i64 k, .int .i64 c, .int .i64 x, .int .i64 v, .bool g]] w fun e w' => e = .returned (.bool (itemB k c x v g)) ∧ Below w.heap.size w w' := by
 have HB := Aside0.mk (Below.refl w.heap.size w)
 have HR := Aside0.mk (show itemB k c x v g = (v == 0) by unfold itemB; simp [h1, h2, h3, h4])
 go_enter Tryz.func57, Tryz.ntmps57
 go_upto_region 1 with (first | ((with_reducible refine gate_dst (N := 1) rfl ?_); refine box_event ?hg (N := 1) ?hd (cs := #[.int .i64 k, .int .i64 c, .int .i64 x, .int .i64 v, .bool g]) (t := 48) ?hr ?_; (case hd => rfl); (case hg => rfl); (case hr => first | (go_simp; done) | (go_simp; rfl)); intro gi hg wgi hbox hb; have n0_ := Aside0.mk (below_step (by repeat (first | (with_reducible first | exact HB.out | apply below_alloc | apply pw_below_drewN | apply below_drew1) | exact HB.out)) hb); have n1_ := Aside0.mk hbox; have n2_ := Aside0.mk ((by rw [hg]; exact (below_size (by repeat (first | (with_reducible first | exact HB.out | apply below_alloc | apply pw_below_drewN | apply below_drew1) | exact HB.out))) : w.heap.size ≤ gi)); clear HB; have HB := n0_; have BKgi := n1_; have GEgi := n2_; clear n0_ n1_ n2_; clear hb hbox hg))
 (try simp only [Act.put, put3])
 have hc0_gi_0 : wgi.cell? ⟨gi, 0, none⟩ = some (.int .i64 k) := (blk_cell BKgi.out 0).trans rfl
 have hf0_gi_0 := blk_frozen BKgi.out 0
 have hc0_gi_1 : wgi.cell? ⟨gi, 1, none⟩ = some (.int .i64 c) := (blk_cell BKgi.out 1).trans rfl
 have hf0_gi_1 := blk_frozen BKgi.out 1
 have hc0_gi_2 : wgi.cell? ⟨gi, 2, none⟩ = some (.int .i64 x) := (blk_cell BKgi.out 2).trans rfl
 have hf0_gi_2 := blk_frozen BKgi.out 2
 have hc0_gi_3 : wgi.cell? ⟨gi, 3, none⟩ = some (.int .i64 v) := (blk_cell BKgi.out 3).trans rfl
 have hf0_gi_3 := blk_frozen BKgi.out 3
 have hc0_gi_4 : wgi.cell? ⟨gi, 4, none⟩ = some (.bool g) := (blk_cell BKgi.out 4).trans rfl
 have hf0_gi_4 := blk_frozen BKgi.out 4
 go_wp2_with (first | (go_at_call 106; (with_reducible refine (byte _ _).mono ?_); rintro e w' ⟨rfl, ⟨nd, rfl⟩⟩) | (go_at_call 61; (with_reducible refine (verMay _ _ _).mono ?_); rintro e w1 ⟨rfl, hb⟩; have n0_ := Aside0.mk (blk_below (g := gi) (o := .cells #[.int .i64 k, .int .i64 c, .int .i64 x, .int .i64 v, .bool g] 48 (0, 0)) (by (with_reducible repeat (first | refine blk_drewN ?_ _ | refine blk_drew ?_ | refine blk_alloc ?_ _)); exact BKgi.out) hb); have n1_ := Aside0.mk (below_step (by repeat (first | (with_reducible first | exact HB.out | apply below_alloc | apply pw_below_drewN | apply below_drew1 | refine below_set ?_ GEgi.out) | exact HB.out)) hb); clear BKgi; clear HB; have BKgi := n0_; have HB := n1_; clear n0_ n1_; clear hb; have hc1_gi_0 : w1.cell? ⟨gi, 0, none⟩ = some (.int .i64 k) := (blk_cell BKgi.out 0).trans rfl; have hf1_gi_0 := blk_frozen BKgi.out 0; have hc1_gi_1 : w1.cell? ⟨gi, 1, none⟩ = some (.int .i64 c) := (blk_cell BKgi.out 1).trans rfl; have hf1_gi_1 := blk_frozen BKgi.out 1; have hc1_gi_2 : w1.cell? ⟨gi, 2, none⟩ = some (.int .i64 x) := (blk_cell BKgi.out 2).trans rfl; have hf1_gi_2 := blk_frozen BKgi.out 2; have hc1_gi_3 : w1.cell? ⟨gi, 3, none⟩ = some (.int .i64 v) := (blk_cell BKgi.out 3).trans rfl; have hf1_gi_3 := blk_frozen BKgi.out 3; have hc1_gi_4 : w1.cell? ⟨gi, 4, none⟩ = some (.bool g) := (blk_cell BKgi.out 4).trans rfl; have hf1_gi_4 := blk_frozen BKgi.out 4))
 go_ret
 exact ⟨by rw [HR.out]; rfl, by repeat (first | (with_reducible first | exact HB.out | apply below_alloc | apply pw_below_drewN | apply below_drew1 | refine below_set ?_ GEgi.out) | exact HB.out)⟩
theorem itemMay (k c x v : Int) (g : Bool) (w : World) :
 Calls Tryz.prog 57 #[.agg #[.int .i64 k, .int .i64 c, .int .i64 x, .int .i64 v, .bool g]] w fun e w' => e = .returned (.bool (itemB k c x v g)) ∧ Below w.heap.size w w' := by
 cases h1 : placeB k
 ·exact itemMay_a k c x v g w h1
 ·cases h2 : placeB v
  ·exact itemMay_b k c x v g w h1 h2
  ·cases h3 : verB c x
   ·exact itemMay_c k c x v g w h1 h2 h3
   ·cases h4 : g
    ·subst h4; exact itemMay_d k c x v false w h1 h2 h3 rfl
    ·subst h4; exact itemMay_e k c x v true w h1 h2 h3 rfl
def passAt (l : List Int) (i : Nat) : Bool := placeB (l.getD i 0) && (decide (i = 0) || decide (l.getD (i - 1) 0 < l.getD i 0))
def passB (l : List Int) : Bool := (List.range l.length).all (passAt l) && decide (l.length ≤ 16)
theorem passAt_of {l : List Int} {i : Nat} (h : placeB (l.getD i 0) = true) (h2 : i = 0 ∨ l.getD (i - 1) 0 < l.getD i 0) : passAt l i = true := by
 unfold passAt; rw [h]; rcases h2 with h2 | h2 <;> simp only [h2, decide_true, Bool.true_or, Bool.or_true, Bool.and_true]
theorem passAt_no1 {l : List Int} {i : Nat} (h : placeB (l.getD i 0) = false) : passAt l i = false := by unfold passAt; rw [h]; rfl
theorem passAt_no2 {l : List Int} {i : Nat} (h0 : i ≠ 0) (h2 : ¬ l.getD (i - 1) 0 < l.getD i 0) : passAt l i = false := by
 unfold passAt; rw [decide_eq_false h0, decide_eq_false h2]; simp only [Bool.or_false, Bool.and_false]
theorem range_all {p : Nat → Bool} {i : Nat} (h : (List.range i).all p = true) (hp : p i = true) : (List.range (i + 1)).all p = true := by
 rw [List.range_succ, List.all_append, h]; simp only [List.all_cons, List.all_nil, hp, Bool.and_true]
theorem range_no {p : Nat → Bool} {n i : Nat} (hi : i < n) (hp : p i = false) : (List.range n).all p = false := by
 rw [List.all_eq_false]; exact ⟨i, List.mem_range.2 hi, by simp [hp]⟩
theorem getD_at {l : List Int} {i : Nat} (h : i < l.length) : l.getD i 0 = l[i] := by
 rw [List.getD_eq_getElem?_getD, List.getElem?_eq_getElem h]; rfl
set_option maxHeartbeats 2000000 in
theorem passMay (A : Option Addr) (c : Nat) (l : List Int) (w : World) (hr : Kd.C (Kd.int .i64) w A l.length l) (hc : l.length ≤ c) :
 Calls Tryz.prog 47 #[.slice A l.length c] w fun e w' => e = .returned (.bool (passB l)) ∧ Drawn0 w w' := by
 have HR := Aside0.mk hr
 have hlen : l.length ≤ 9223372036854775807 := hr.2.1
 clear hr hc
 go_enter Tryz.func47, Tryz.ntmps47
 go_wp2
 go_loopg [7] l.length (fun kq v7 w' => ∃ i : Nat, v7 = .int .i64 i ∧ i ≤ l.length ∧ kq = l.length - i ∧ Aside0 ((List.range i).all (passAt l) = true) ∧ Drawn0 w w')
 case atStart => exact ⟨0, rfl, Nat.zero_le _, rfl, ⟨by simp⟩, by repeat (first | exact Drawn0.refl _ | apply Drawn0.step)⟩
 case round =>
  obtain ⟨i, rfl, hi, rfl, HA, ⟨m1, rfl⟩⟩ := hrel
  by_cases hlt : i < l.length
  ·obtain ⟨ad, rfl, hx⟩ := int_at HR.out i hlt
   have HG := Aside0.mk (getD_at hlt)
   cases hp : placeB l[i]
   ·have HF := Aside0.mk (show passB l = false by
     unfold passB; rw [range_no hlt (passAt_no1 (by rw [HG.out]; exact hp))]; rfl)
    go_wp2_with (first | (go_at_call 35; (with_reducible refine (place _ _).mono ?_); rintro e w' ⟨rfl, ⟨nd, rfl⟩⟩))
    go_ret
    exact ⟨by rw [HF.out]; rfl, by repeat (first | exact Drawn0.refl _ | apply Drawn0.step)⟩
   ·by_cases h0 : i = 0
    ·subst h0
     have HT := Aside0.mk (range_all HA.out (passAt_of (by rw [HG.out]; exact hp) (Or.inl rfl)))
     have hx0 : w.cell? ad = some (.int .i64 l[0]) := by simpa [Addr.add] using hx
     go_wp2_with (first | (go_at_call 35; (with_reducible refine (place _ _).mono ?_); rintro e w' ⟨rfl, ⟨nd, rfl⟩⟩))
     go_roundg (l.length - (0 + 1))
     case measure => omega
     case rel => exact ⟨0 + 1, by go_num, by omega, rfl, HT, by repeat (first | exact Drawn0.refl _ | apply Drawn0.step)⟩
    ·obtain ⟨ad', e', hx'⟩ := int_at HR.out (i - 1) (by omega)
     obtain rfl := Option.some.inj e'
     have HG' := Aside0.mk (getD_at (l := l) (i := i - 1) (by omega))
     clear e'
     by_cases hlt2 : l[i - 1] < l[i]
     ·have HT := Aside0.mk (range_all HA.out (passAt_of (by rw [HG.out]; exact hp) (Or.inr (by rw [HG.out, HG'.out]; exact hlt2))))
      go_wp2_with (first | (go_at_call 35; (with_reducible refine (place _ _).mono ?_); rintro e w' ⟨rfl, ⟨nd, rfl⟩⟩))
      go_roundg (l.length - (i + 1))
      case measure => omega
      case rel => exact ⟨i + 1, by go_num, by omega, rfl, HT, by repeat (first | exact Drawn0.refl _ | apply Drawn0.step)⟩
     ·have HF := Aside0.mk (show passB l = false by
       unfold passB; rw [range_no hlt (passAt_no2 h0 (by rw [HG.out, HG'.out]; exact hlt2))]; rfl)
      go_wp2_with (first | (go_at_call 35; (with_reducible refine (place _ _).mono ?_); rintro e w' ⟨rfl, ⟨nd, rfl⟩⟩))
      go_ret
      exact ⟨by rw [HF.out]; rfl, by repeat (first | exact Drawn0.refl _ | apply Drawn0.step)⟩
  ·have HT := Aside0.mk (show passB l = decide (l.length ≤ 16) by
    have e : i = l.length := by omega
    have := HA.out
    rw [e] at this
    unfold passB; rw [this]; rfl)
   go_wp2
   go_ret
   exact ⟨by rw [HT.out, show decide (l.length ≤ 16) = decide ((l.length : Int) ≤ 16) from by simp only [decide_eq_decide]; omega]; rfl, by repeat (first | exact Drawn0.refl _ | apply Drawn0.step)⟩
end Go.Proofs.YtljipbmmgcccnaaGreat.T
end
section
namespace Go.Proofs.YtljipbmmgcccnaaGreat.T
open Go.RowKit Go.Proofs.YtljipbmmgcccnaaGreatW.PrintWords Go.Proofs.YtljipbmmgcccnaaGreatW.PrintLast Go.Proofs.YtljipbmmgcccnaaGreatW.PrintMore
set_option linter.unusedVariables false
set_option linter.unusedSimpArgs false
def lastFar (base : Int) (l : List S98) (i : Nat) : Int := if i = 0 then 0 else farI base (l.getD (i - 1) z98).f0
def peerAt (base : Int) (l : List S98) (i : Nat) : Bool :=
 placeB (l.getD i z98).f0 && decide (0 ≤ (l.getD i z98).f1) && decide ((l.getD i z98).f1 < 3) && decide (lastFar base l i < farI base (l.getD i z98).f0)
def peersB (base : Int) (l : List S98) : Bool := placeB base && decide (l.length ≤ 16) && (List.range l.length).all (peerAt base l)
theorem peer_getD {l : List S98} {i : Nat} (h : i < l.length) : l.getD i z98 = l[i] := by
 rw [List.getD_eq_getElem?_getD, List.getElem?_eq_getElem h]; rfl
theorem peer_at {w : World} {A : Option Addr} {l : List S98} (h : Kd.C k98 w A l.length l) (j : Nat) (hj : j < l.length) :
 ∃ ad, A = some ad ∧ w.cell? (ad.add (j * 2)) = some (.int .i64 l[j].f0) ∧ w.cell? ⟨(ad.add (j * 2)).block, (ad.add (j * 2)).off + 1, none⟩ = some (.int .i64 l[j].f1) := by
 obtain ⟨ad, e, h0, h1⟩ := at_T98 h j (by omega) (by omega)
 have e2 : rd_T98 l (j : Int) = l[j] := by unfold rd_T98; rw [Int.toNat_natCast]; exact peer_getD hj
 rw [e2, Int.toNat_natCast] at h0 h1
 exact ⟨ad, e, h0, h1⟩
theorem peerAt_yes {base : Int} {l : List S98} {i : Nat} (h : i < l.length) (h1 : placeB l[i].f0 = true) (h2 : ¬ l[i].f1 < 0) (h3 : ¬ 3 ≤ l[i].f1) (h4 : ¬ farI base l[i].f0 ≤ lastFar base l i) : peerAt base l i = true := by
 unfold peerAt; rw [peer_getD h, h1, decide_eq_true (show 0 ≤ l[i].f1 by omega), decide_eq_true (show l[i].f1 < 3 by omega), decide_eq_true (show lastFar base l i < farI base l[i].f0 by omega)]; rfl
theorem peerAt_no1 {base : Int} {l : List S98} {i : Nat} (h : i < l.length) (h1 : placeB l[i].f0 = false) : peerAt base l i = false := by
 unfold peerAt; rw [peer_getD h, h1]; rfl
theorem peerAt_no2 {base : Int} {l : List S98} {i : Nat} (h : i < l.length) (h1 : l[i].f1 < 0) : peerAt base l i = false := by
 unfold peerAt; rw [peer_getD h, decide_eq_false (show ¬ 0 ≤ l[i].f1 by omega)]; simp
theorem peerAt_no3 {base : Int} {l : List S98} {i : Nat} (h : i < l.length) (h1 : 3 ≤ l[i].f1) : peerAt base l i = false := by
 unfold peerAt; rw [peer_getD h, decide_eq_false (show ¬ l[i].f1 < 3 by omega)]; simp
theorem peerAt_no4 {base : Int} {l : List S98} {i : Nat} (h : i < l.length) (h1 : farI base l[i].f0 ≤ lastFar base l i) : peerAt base l i = false := by
 unfold peerAt; rw [peer_getD h, decide_eq_false (show ¬ lastFar base l i < farI base l[i].f0 by omega)]; simp
theorem lastFar_next {base : Int} {l : List S98} {i : Nat} (h : i < l.length) : lastFar base l (i + 1) = farI base l[i].f0 := by
 unfold lastFar; rw [if_neg (by omega), Nat.add_sub_cancel, peer_getD h]
set_option maxHeartbeats 4000000 in
theorem peersMay (base : Int) (A : Option Addr) (c : Nat) (l : List S98) (w : World) (hr : Kd.C k98 w A l.length l) (hc : l.length ≤ c) :
 Calls Tryz.prog 43 #[.int .i64 base, .slice A l.length c] w fun e w' => e = .returned (.bool (peersB base l)) ∧ Below w.heap.size w w' := by
 have HR := Aside0.mk hr
 have hlen : l.length ≤ 9223372036854775807 := hr.2.1
 have HB := Aside0.mk (Below.refl w.heap.size w)
 clear hr hc
 cases hb : placeB base
 ·have HF := Aside0.mk (show peersB base l = false by unfold peersB; rw [hb]; rfl)
  go_enter Tryz.func43, Tryz.ntmps43
  go_wp2_with (first | (go_at_call 35; (with_reducible refine (place _ _).mono ?_); rintro e w' ⟨rfl, ⟨nd, rfl⟩⟩))
  go_ret
  exact ⟨by rw [HF.out]; rfl, by repeat (first | (with_reducible first | exact HB.out | apply below_alloc | apply pw_below_drewN | apply below_drew1) | exact HB.out)⟩
 ·by_cases hl : l.length ≤ 16
  ·have hgt : decide ((l.length : Int) > 16) = false := decide_eq_false (by omega)
   go_enter Tryz.func43, Tryz.ntmps43
   go_wp2_with (first | (go_at_call 35; (with_reducible refine (place _ _).mono ?_); rintro e w' ⟨rfl, ⟨nd, rfl⟩⟩))
   go_loopg [5, 18] l.length (fun kq v5 v18 w' => ∃ i : Nat, v18 = .int .i64 i ∧ v5 = .int .i64 (lastFar base l i) ∧ i ≤ l.length ∧ kq = l.length - i ∧ Aside0 ((List.range i).all (peerAt base l) = true) ∧ Aside0 (Below w.heap.size w w'))
   case atStart => exact ⟨0, rfl, rfl, Nat.zero_le _, rfl, ⟨by simp⟩, ⟨by repeat (first | (with_reducible first | exact HB.out | apply below_alloc | apply pw_below_drewN | apply below_drew1) | exact HB.out)⟩⟩
   case round =>
    obtain ⟨i, rfl, rfl, hi, rfl, HA, HB1⟩ := hrel
    clear HB
    have HB := HB1
    clear HB1
    by_cases hlt : i < l.length
    ·obtain ⟨ad, rfl, hx0, hx1⟩ := peer_at (Kd.C_below HR.out HB.out) i hlt
     cases h1 : placeB l[i].f0
     ·have HF := Aside0.mk (show peersB base l = false by unfold peersB; rw [range_no hlt (peerAt_no1 hlt h1), Bool.and_false])
      go_wp2_with (first | ((with_reducible refine gate_dst (N := 7) rfl ?_); refine box_event ?hg (N := 7) ?hd (cs := #[.int .i64 0, .int .i64 0]) (t := 98) ?hr ?_; (case hd => rfl); (case hg => rfl); (case hr => first | (go_simp; done) | (go_simp; rfl)); intro gp hg wgp hbox hb; have n0_ := Aside0.mk (below_step (by repeat (first | (with_reducible first | exact HB.out | apply below_alloc | apply pw_below_drewN | apply below_drew1) | exact HB.out)) hb); have n1_ := Aside0.mk hbox; have n2_ := Aside0.mk ((by rw [hg]; exact (below_size (by repeat (first | (with_reducible first | exact HB.out | apply below_alloc | apply pw_below_drewN | apply below_drew1) | exact HB.out))) : w.heap.size ≤ gp)); clear HB; have HB := n0_; have BKgp := n1_; have GEgp := n2_; clear n0_ n1_ n2_; clear hb hbox hg; have hc0_gp_0 : wgp.cell? ⟨gp, 0, none⟩ = some (.int .i64 0) := (blk_cell BKgp.out 0).trans rfl; have hf0_gp_0 := blk_frozen BKgp.out 0; have hc0_gp_1 : wgp.cell? ⟨gp, 1, none⟩ = some (.int .i64 0) := (blk_cell BKgp.out 1).trans rfl; have hf0_gp_1 := blk_frozen BKgp.out 1) | (go_at_call 35; (with_reducible refine (place _ _).mono ?_); rintro e w' ⟨rfl, ⟨nd, rfl⟩⟩) | (go_at_call 100; (with_reducible refine (far _ _ (by assumption) (by assumption) _).mono ?_); rintro e w' ⟨rfl, ⟨nd, rfl⟩⟩))
      go_ret
      exact ⟨by rw [HF.out]; rfl, by repeat (first | (with_reducible first | exact HB.out | apply below_alloc | apply pw_below_drewN | apply below_drew1 | refine below_set ?_ GEgp.out) | exact HB.out)⟩
     ·by_cases h2 : l[i].f1 < 0
      ·have HF := Aside0.mk (show peersB base l = false by unfold peersB; rw [range_no hlt (peerAt_no2 hlt h2), Bool.and_false])
       go_wp2_with (first | ((with_reducible refine gate_dst (N := 7) rfl ?_); refine box_event ?hg (N := 7) ?hd (cs := #[.int .i64 0, .int .i64 0]) (t := 98) ?hr ?_; (case hd => rfl); (case hg => rfl); (case hr => first | (go_simp; done) | (go_simp; rfl)); intro gp hg wgp hbox hb; have n0_ := Aside0.mk (below_step (by repeat (first | (with_reducible first | exact HB.out | apply below_alloc | apply pw_below_drewN | apply below_drew1) | exact HB.out)) hb); have n1_ := Aside0.mk hbox; have n2_ := Aside0.mk ((by rw [hg]; exact (below_size (by repeat (first | (with_reducible first | exact HB.out | apply below_alloc | apply pw_below_drewN | apply below_drew1) | exact HB.out))) : w.heap.size ≤ gp)); clear HB; have HB := n0_; have BKgp := n1_; have GEgp := n2_; clear n0_ n1_ n2_; clear hb hbox hg; have hc0_gp_0 : wgp.cell? ⟨gp, 0, none⟩ = some (.int .i64 0) := (blk_cell BKgp.out 0).trans rfl; have hf0_gp_0 := blk_frozen BKgp.out 0; have hc0_gp_1 : wgp.cell? ⟨gp, 1, none⟩ = some (.int .i64 0) := (blk_cell BKgp.out 1).trans rfl; have hf0_gp_1 := blk_frozen BKgp.out 1) | (go_at_call 35; (with_reducible refine (place _ _).mono ?_); rintro e w' ⟨rfl, ⟨nd, rfl⟩⟩) | (go_at_call 100; (with_reducible refine (far _ _ (by assumption) (by assumption) _).mono ?_); rintro e w' ⟨rfl, ⟨nd, rfl⟩⟩))
       go_ret
       exact ⟨by rw [HF.out]; rfl, by repeat (first | (with_reducible first | exact HB.out | apply below_alloc | apply pw_below_drewN | apply below_drew1 | refine below_set ?_ GEgp.out) | exact HB.out)⟩
      ·by_cases h3 : 3 ≤ l[i].f1
       ·have HF := Aside0.mk (show peersB base l = false by unfold peersB; rw [range_no hlt (peerAt_no3 hlt h3), Bool.and_false])
        go_wp2_with (first | ((with_reducible refine gate_dst (N := 7) rfl ?_); refine box_event ?hg (N := 7) ?hd (cs := #[.int .i64 0, .int .i64 0]) (t := 98) ?hr ?_; (case hd => rfl); (case hg => rfl); (case hr => first | (go_simp; done) | (go_simp; rfl)); intro gp hg wgp hbox hb; have n0_ := Aside0.mk (below_step (by repeat (first | (with_reducible first | exact HB.out | apply below_alloc | apply pw_below_drewN | apply below_drew1) | exact HB.out)) hb); have n1_ := Aside0.mk hbox; have n2_ := Aside0.mk ((by rw [hg]; exact (below_size (by repeat (first | (with_reducible first | exact HB.out | apply below_alloc | apply pw_below_drewN | apply below_drew1) | exact HB.out))) : w.heap.size ≤ gp)); clear HB; have HB := n0_; have BKgp := n1_; have GEgp := n2_; clear n0_ n1_ n2_; clear hb hbox hg; have hc0_gp_0 : wgp.cell? ⟨gp, 0, none⟩ = some (.int .i64 0) := (blk_cell BKgp.out 0).trans rfl; have hf0_gp_0 := blk_frozen BKgp.out 0; have hc0_gp_1 : wgp.cell? ⟨gp, 1, none⟩ = some (.int .i64 0) := (blk_cell BKgp.out 1).trans rfl; have hf0_gp_1 := blk_frozen BKgp.out 1) | (go_at_call 35; (with_reducible refine (place _ _).mono ?_); rintro e w' ⟨rfl, ⟨nd, rfl⟩⟩) | (go_at_call 100; (with_reducible refine (far _ _ (by assumption) (by assumption) _).mono ?_); rintro e w' ⟨rfl, ⟨nd, rfl⟩⟩))
        go_ret
        exact ⟨by rw [HF.out]; rfl, by repeat (first | (with_reducible first | exact HB.out | apply below_alloc | apply pw_below_drewN | apply below_drew1 | refine below_set ?_ GEgp.out) | exact HB.out)⟩
       ·by_cases h4 : farI base l[i].f0 ≤ lastFar base l i
        ·have HF := Aside0.mk (show peersB base l = false by unfold peersB; rw [range_no hlt (peerAt_no4 hlt h4), Bool.and_false])
         go_wp2_with (first | ((with_reducible refine gate_dst (N := 7) rfl ?_); refine box_event ?hg (N := 7) ?hd (cs := #[.int .i64 0, .int .i64 0]) (t := 98) ?hr ?_; (case hd => rfl); (case hg => rfl); (case hr => first | (go_simp; done) | (go_simp; rfl)); intro gp hg wgp hbox hb; have n0_ := Aside0.mk (below_step (by repeat (first | (with_reducible first | exact HB.out | apply below_alloc | apply pw_below_drewN | apply below_drew1) | exact HB.out)) hb); have n1_ := Aside0.mk hbox; have n2_ := Aside0.mk ((by rw [hg]; exact (below_size (by repeat (first | (with_reducible first | exact HB.out | apply below_alloc | apply pw_below_drewN | apply below_drew1) | exact HB.out))) : w.heap.size ≤ gp)); clear HB; have HB := n0_; have BKgp := n1_; have GEgp := n2_; clear n0_ n1_ n2_; clear hb hbox hg; have hc0_gp_0 : wgp.cell? ⟨gp, 0, none⟩ = some (.int .i64 0) := (blk_cell BKgp.out 0).trans rfl; have hf0_gp_0 := blk_frozen BKgp.out 0; have hc0_gp_1 : wgp.cell? ⟨gp, 1, none⟩ = some (.int .i64 0) := (blk_cell BKgp.out 1).trans rfl; have hf0_gp_1 := blk_frozen BKgp.out 1) | (go_at_call 35; (with_reducible refine (place _ _).mono ?_); rintro e w' ⟨rfl, ⟨nd, rfl⟩⟩) | (go_at_call 100; (with_reducible refine (far _ _ (by assumption) (by assumption) _).mono ?_); rintro e w' ⟨rfl, ⟨nd, rfl⟩⟩))
         go_ret
         exact ⟨by rw [HF.out]; rfl, by repeat (first | (with_reducible first | exact HB.out | apply below_alloc | apply pw_below_drewN | apply below_drew1 | refine below_set ?_ GEgp.out) | exact HB.out)⟩
        ·have HT := Aside0.mk (range_all HA.out (peerAt_yes hlt h1 h2 h3 h4))
         have HN := Aside0.mk (lastFar_next (base := base) hlt)
         go_wp2_with (first | ((with_reducible refine gate_dst (N := 7) rfl ?_); refine box_event ?hg (N := 7) ?hd (cs := #[.int .i64 0, .int .i64 0]) (t := 98) ?hr ?_; (case hd => rfl); (case hg => rfl); (case hr => first | (go_simp; done) | (go_simp; rfl)); intro gp hg wgp hbox hb; have n0_ := Aside0.mk (below_step (by repeat (first | (with_reducible first | exact HB.out | apply below_alloc | apply pw_below_drewN | apply below_drew1) | exact HB.out)) hb); have n1_ := Aside0.mk hbox; have n2_ := Aside0.mk ((by rw [hg]; exact (below_size (by repeat (first | (with_reducible first | exact HB.out | apply below_alloc | apply pw_below_drewN | apply below_drew1) | exact HB.out))) : w.heap.size ≤ gp)); clear HB; have HB := n0_; have BKgp := n1_; have GEgp := n2_; clear n0_ n1_ n2_; clear hb hbox hg; have hc0_gp_0 : wgp.cell? ⟨gp, 0, none⟩ = some (.int .i64 0) := (blk_cell BKgp.out 0).trans rfl; have hf0_gp_0 := blk_frozen BKgp.out 0; have hc0_gp_1 : wgp.cell? ⟨gp, 1, none⟩ = some (.int .i64 0) := (blk_cell BKgp.out 1).trans rfl; have hf0_gp_1 := blk_frozen BKgp.out 1) | (go_at_call 35; (with_reducible refine (place _ _).mono ?_); rintro e w' ⟨rfl, ⟨nd, rfl⟩⟩) | (go_at_call 100; (with_reducible refine (far _ _ (by assumption) (by assumption) _).mono ?_); rintro e w' ⟨rfl, ⟨nd, rfl⟩⟩))
         go_roundg (l.length - (i + 1))
         case measure => omega
         case rel => exact ⟨i + 1, by go_num, by rw [HN.out], by omega, rfl, HT, ⟨by repeat (first | (with_reducible first | exact HB.out | apply below_alloc | apply pw_below_drewN | apply below_drew1 | refine below_set ?_ GEgp.out) | exact HB.out)⟩⟩
    ·have HT := Aside0.mk (show peersB base l = true by
      have e : i = l.length := by omega
      have := HA.out
      rw [e] at this
      unfold peersB; rw [hb, this, decide_eq_true hl]; rfl)
     go_wp2
     go_ret
     exact ⟨by rw [HT.out]; rfl, by repeat (first | (with_reducible first | exact HB.out | apply below_alloc | apply pw_below_drewN | apply below_drew1) | exact HB.out)⟩
  ·have HF := Aside0.mk (show peersB base l = false by unfold peersB; rw [decide_eq_false hl]; simp)
   have hgt : decide ((l.length : Int) > 16) = true := decide_eq_true (by omega)
   have hgt' : (16 : Int) < (l.length : Int) := by omega
   go_enter Tryz.func43, Tryz.ntmps43
   go_wp2_with (first | (go_at_call 35; (with_reducible refine (place _ _).mono ?_); rintro e w' ⟨rfl, ⟨nd, rfl⟩⟩))
   go_ret
   exact ⟨by rw [HF.out]; rfl, by repeat (first | (with_reducible first | exact HB.out | apply below_alloc | apply pw_below_drewN | apply below_drew1) | exact HB.out)⟩
end Go.Proofs.YtljipbmmgcccnaaGreat.T
end
