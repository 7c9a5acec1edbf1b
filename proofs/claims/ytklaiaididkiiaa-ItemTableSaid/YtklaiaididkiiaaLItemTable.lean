/- The walk of the law ItemTable over the contracts of item.Best and of the reference, by program (the printer's lines, the ways to false closed). -/
import Derived.Test.YtklaiaididkiiaaM2
import Derived.Test.YtklaiaididkiiaaM3
namespace Go.Proofs.Ytklaiaididkiiaa.MI
open Go.RowKit Go.Proofs.YtklaiaididkiiaaW.PrintWords Go.Proofs.YtklaiaididkiiaaW.PrintLast Go.Proofs.YtklaiaididkiiaaW.PrintMore
attribute [local go_sem] max2_int min2_int max_two min_two max_three min_three max_four min_four   -- for this text's walks alone
set_option linter.unusedVariables false
set_option linter.unusedSimpArgs false
attribute [local go_sem high] eqA23
attribute [local go_sem high] eqA25

/-! ### gimmallaw4_ItemTable: function 6 -/
mutual
def gimmallaw4_ItemTable.j0 : Nat → Int → Int → Int → Int → Int → Bool → Int → Int → Int → Int → Bool → Option (Bool)
  | 0, _, _, _, _, _, _, _, _, _, _, _ => none
  | k + 1, x1, x277000, x277001, x277002, x277003, x277004, x278000, x278001, x278002, x278003, x278004 => if (Go.bits .and .i64 (x1 / 8) 1) = 1 then (gimmallaw4_ItemTable.j1 k x277000 x277001 x277002 x277003 x277004 x278000 x278001 x278002 0 true) else (gimmallaw4_ItemTable.j1 k x277000 x277001 x277002 x277003 x277004 x278000 x278001 x278002 x278003 x278004)
def gimmallaw4_ItemTable.j1 : Nat → Int → Int → Int → Int → Bool → Int → Int → Int → Int → Bool → Option (Bool)
  | 0, _, _, _, _, _, _, _, _, _, _ => none
  | k + 1, x277000, x277001, x277002, x277003, x277004, x278000, x278001, x278002, x278003, x278004 => if x277004 = true then (gimmallaw4_ItemTable.j2 k (wrap64 ((wrap64 ((wrap64 ((wrap64 (100 * x277001)) + (wrap64 (10 * x277002)))) + x277003)) + 5)) (wrap64 ((wrap64 ((wrap64 (100 * x278001)) + (wrap64 (10 * x278002)))) + x278003)) x277000 x277001 x277002 x277003 x277004 x278000 x278001 x278002 x278003 x278004) else (gimmallaw4_ItemTable.j2 k (wrap64 ((wrap64 ((wrap64 (100 * x277001)) + (wrap64 (10 * x277002)))) + x277003)) (wrap64 ((wrap64 ((wrap64 (100 * x278001)) + (wrap64 (10 * x278002)))) + x278003)) x277000 x277001 x277002 x277003 x277004 x278000 x278001 x278002 x278003 x278004)
def gimmallaw4_ItemTable.j2 : Nat → Int → Int → Int → Int → Int → Int → Bool → Int → Int → Int → Int → Bool → Option (Bool)
  | 0, _, _, _, _, _, _, _, _, _, _, _, _ => none
  | k + 1, x7, x8, x277000, x277001, x277002, x277003, x277004, x278000, x278001, x278002, x278003, x278004 => if x278004 = true then ((item_Best.f k x277000 x277001 x277002 x277003 x277004 x278000 x278001 x278002 x278003 x278004).bind fun bt278 => ((gimmallaw0_Num.f bt278.2.2.2.2.2).bind fun t285 => (if t285 = 0 then (if x7 ≥ (wrap64 (x8 + 5)) then (if (bt278.1 == x277000 && ((bt278.2.1 == x277001 && (bt278.2.2.1 == x277002)) && (bt278.2.2.2.1 == x277003 && (bt278.2.2.2.2.1 == x277004)))) = true then (some true) else (if (wrap64 (x8 + 5)) ≥ x7 then (some (bt278.1 == x278000 && ((bt278.2.1 == x278001 && (bt278.2.2.1 == x278002)) && (bt278.2.2.2.1 == x278003 && (bt278.2.2.2.2.1 == x278004))))) else (some false))) else (if (wrap64 (x8 + 5)) ≥ x7 then (some (bt278.1 == x278000 && ((bt278.2.1 == x278001 && (bt278.2.2.1 == x278002)) && (bt278.2.2.2.1 == x278003 && (bt278.2.2.2.2.1 == x278004))))) else (some false))) else (some false)))) else ((item_Best.f k x277000 x277001 x277002 x277003 x277004 x278000 x278001 x278002 x278003 x278004).bind fun bt286 => ((gimmallaw0_Num.f bt286.2.2.2.2.2).bind fun t293 => (if t293 = 0 then (if x7 ≥ x8 then (if (bt286.1 == x277000 && ((bt286.2.1 == x277001 && (bt286.2.2.1 == x277002)) && (bt286.2.2.2.1 == x277003 && (bt286.2.2.2.2.1 == x277004)))) = true then (some true) else (if x8 ≥ x7 then (some (bt286.1 == x278000 && ((bt286.2.1 == x278001 && (bt286.2.2.1 == x278002)) && (bt286.2.2.2.1 == x278003 && (bt286.2.2.2.2.1 == x278004))))) else (some false))) else (if x8 ≥ x7 then (some (bt286.1 == x278000 && ((bt286.2.1 == x278001 && (bt286.2.2.1 == x278002)) && (bt286.2.2.2.1 == x278003 && (bt286.2.2.2.2.1 == x278004))))) else (some false))) else (some false))))
end
def gimmallaw4_ItemTable.f (k : Nat) (a0 : Int) (a1 : Int) : Option (Bool) := (gimmallaw4_awake.f k).bind fun t275 => (if t275 = true then (if (Go.bits .and .i64 (a0 / 8) 1) = 1 then (gimmallaw4_ItemTable.j0 k a1 5 (wrap64 (1 + (Go.bits .and .i64 a0 1))) (Go.bits .and .i64 (a0 / 2) 1) 0 true 5 (wrap64 (1 + (Go.bits .and .i64 a1 1))) (Go.bits .and .i64 (a1 / 2) 1) (Go.bits .and .i64 (a1 / 4) 1) false) else (gimmallaw4_ItemTable.j0 k a1 5 (wrap64 (1 + (Go.bits .and .i64 a0 1))) (Go.bits .and .i64 (a0 / 2) 1) (Go.bits .and .i64 (a0 / 4) 1) false 5 (wrap64 (1 + (Go.bits .and .i64 a1 1))) (Go.bits .and .i64 (a1 / 2) 1) (Go.bits .and .i64 (a1 / 4) 1) false)) else (some false))
theorem gimmallaw4_ItemTable.mono_l : ∀ k, (∀ y0 y1 y2 y3 y4 y5 y6 y7 y8 y9 y10, LeO (gimmallaw4_ItemTable.j0 k y0 y1 y2 y3 y4 y5 y6 y7 y8 y9 y10) (gimmallaw4_ItemTable.j0 (k + 1) y0 y1 y2 y3 y4 y5 y6 y7 y8 y9 y10)) ∧ (∀ y0 y1 y2 y3 y4 y5 y6 y7 y8 y9, LeO (gimmallaw4_ItemTable.j1 k y0 y1 y2 y3 y4 y5 y6 y7 y8 y9) (gimmallaw4_ItemTable.j1 (k + 1) y0 y1 y2 y3 y4 y5 y6 y7 y8 y9)) ∧ (∀ y0 y1 y2 y3 y4 y5 y6 y7 y8 y9 y10 y11, LeO (gimmallaw4_ItemTable.j2 k y0 y1 y2 y3 y4 y5 y6 y7 y8 y9 y10 y11) (gimmallaw4_ItemTable.j2 (k + 1) y0 y1 y2 y3 y4 y5 y6 y7 y8 y9 y10 y11))
  | 0 => ⟨fun _ _ _ _ _ _ _ _ _ _ _ r h => by simp [gimmallaw4_ItemTable.j0] at h, fun _ _ _ _ _ _ _ _ _ _ r h => by simp [gimmallaw4_ItemTable.j1] at h, fun _ _ _ _ _ _ _ _ _ _ _ _ r h => by simp [gimmallaw4_ItemTable.j2] at h⟩
  | k + 1 => by
    obtain ⟨ih0, ih1, ih2⟩ := gimmallaw4_ItemTable.mono_l k
    refine ⟨?_, ?_, ?_⟩
    · intro y0 y1 y2 y3 y4 y5 y6 y7 y8 y9 y10
      unfold gimmallaw4_ItemTable.j0
      repeat' first
      | (with_reducible exact ih0 _ _ _ _ _ _ _ _ _ _ _)
      | (with_reducible exact ih1 _ _ _ _ _ _ _ _ _ _)
      | (with_reducible exact ih2 _ _ _ _ _ _ _ _ _ _ _ _)
      | (with_reducible exact gimmallaw4_awake.mono _)
      | (with_reducible exact item_Best.mono _ _ _ _ _ _ _ _ _ _ _)
      | (with_reducible exact LeO.refl _)
      | (with_reducible exact LeO.none _)
      | (with_reducible refine LeO.ite ?_ ?_)
      | (with_reducible refine LeO.bind ?_ (fun _ => ?_))
      | exact ih0 _ _ _ _ _ _ _ _ _ _ _
      | exact ih1 _ _ _ _ _ _ _ _ _ _
      | exact ih2 _ _ _ _ _ _ _ _ _ _ _ _
      | exact gimmallaw4_awake.mono _
      | exact item_Best.mono _ _ _ _ _ _ _ _ _ _ _
      | exact LeO.none _
      | refine LeO.ite ?_ ?_
      | refine LeO.bind ?_ (fun _ => ?_)
    · intro y0 y1 y2 y3 y4 y5 y6 y7 y8 y9
      unfold gimmallaw4_ItemTable.j1
      repeat' first
      | (with_reducible exact ih0 _ _ _ _ _ _ _ _ _ _ _)
      | (with_reducible exact ih1 _ _ _ _ _ _ _ _ _ _)
      | (with_reducible exact ih2 _ _ _ _ _ _ _ _ _ _ _ _)
      | (with_reducible exact gimmallaw4_awake.mono _)
      | (with_reducible exact item_Best.mono _ _ _ _ _ _ _ _ _ _ _)
      | (with_reducible exact LeO.refl _)
      | (with_reducible exact LeO.none _)
      | (with_reducible refine LeO.ite ?_ ?_)
      | (with_reducible refine LeO.bind ?_ (fun _ => ?_))
      | exact ih0 _ _ _ _ _ _ _ _ _ _ _
      | exact ih1 _ _ _ _ _ _ _ _ _ _
      | exact ih2 _ _ _ _ _ _ _ _ _ _ _ _
      | exact gimmallaw4_awake.mono _
      | exact item_Best.mono _ _ _ _ _ _ _ _ _ _ _
      | exact LeO.none _
      | refine LeO.ite ?_ ?_
      | refine LeO.bind ?_ (fun _ => ?_)
    · intro y0 y1 y2 y3 y4 y5 y6 y7 y8 y9 y10 y11
      unfold gimmallaw4_ItemTable.j2
      repeat' first
      | (with_reducible exact ih0 _ _ _ _ _ _ _ _ _ _ _)
      | (with_reducible exact ih1 _ _ _ _ _ _ _ _ _ _)
      | (with_reducible exact ih2 _ _ _ _ _ _ _ _ _ _ _ _)
      | (with_reducible exact gimmallaw4_awake.mono _)
      | (with_reducible exact item_Best.mono _ _ _ _ _ _ _ _ _ _ _)
      | (with_reducible exact LeO.refl _)
      | (with_reducible exact LeO.none _)
      | (with_reducible refine LeO.ite ?_ ?_)
      | (with_reducible refine LeO.bind ?_ (fun _ => ?_))
      | exact ih0 _ _ _ _ _ _ _ _ _ _ _
      | exact ih1 _ _ _ _ _ _ _ _ _ _
      | exact ih2 _ _ _ _ _ _ _ _ _ _ _ _
      | exact gimmallaw4_awake.mono _
      | exact item_Best.mono _ _ _ _ _ _ _ _ _ _ _
      | exact LeO.none _
      | refine LeO.ite ?_ ?_
      | refine LeO.bind ?_ (fun _ => ?_)
theorem gimmallaw4_ItemTable.mono : ∀ a0 a1 k, LeO (gimmallaw4_ItemTable.f k a0 a1) (gimmallaw4_ItemTable.f (k + 1) a0 a1) := by
  intro a0 a1 k
  obtain ⟨ih0, ih1, ih2⟩ := gimmallaw4_ItemTable.mono_l k
  unfold gimmallaw4_ItemTable.f
  repeat' first
      | (with_reducible exact ih0 _ _ _ _ _ _ _ _ _ _ _)
      | (with_reducible exact ih1 _ _ _ _ _ _ _ _ _ _)
      | (with_reducible exact ih2 _ _ _ _ _ _ _ _ _ _ _ _)
      | (with_reducible exact gimmallaw4_awake.mono _)
      | (with_reducible exact item_Best.mono _ _ _ _ _ _ _ _ _ _ _)
      | (with_reducible exact LeO.refl _)
      | (with_reducible exact LeO.none _)
      | (with_reducible refine LeO.ite ?_ ?_)
      | (with_reducible refine LeO.bind ?_ (fun _ => ?_))
      | exact ih0 _ _ _ _ _ _ _ _ _ _ _
      | exact ih1 _ _ _ _ _ _ _ _ _ _
      | exact ih2 _ _ _ _ _ _ _ _ _ _ _ _
      | exact gimmallaw4_awake.mono _
      | exact item_Best.mono _ _ _ _ _ _ _ _ _ _ _
      | exact LeO.none _
      | refine LeO.ite ?_ ?_
      | refine LeO.bind ?_ (fun _ => ?_)
set_option maxHeartbeats 8000000 in
set_option maxRecDepth 100000 in
theorem gimmallaw4_ItemTable.calls (k : Nat) (a0 : Int) (a1 : Int) (w : World) (h : gimmallaw4_ItemTable.f k a0 a1 = some true) :
    Calls Try.prog 6 #[.int .i64 a0, .int .i64 a1] w fun e w' => e = .returned (.bool true) ∧ Below w.heap.size w w' := by
  have hu23 := Try.underlying23
  have hu25 := Try.underlying25
  have HB := Aside0.mk (Below.refl w.heap.size w)
  have H : ((gimmallaw4_awake.f k).bind fun t275 => (if t275 = true then (if (Go.bits .and .i64 (a0 / 8) 1) = 1 then (gimmallaw4_ItemTable.j0 k a1 5 (wrap64 (1 + (Go.bits .and .i64 a0 1))) (Go.bits .and .i64 (a0 / 2) 1) 0 true 5 (wrap64 (1 + (Go.bits .and .i64 a1 1))) (Go.bits .and .i64 (a1 / 2) 1) (Go.bits .and .i64 (a1 / 4) 1) false) else (gimmallaw4_ItemTable.j0 k a1 5 (wrap64 (1 + (Go.bits .and .i64 a0 1))) (Go.bits .and .i64 (a0 / 2) 1) (Go.bits .and .i64 (a0 / 4) 1) false 5 (wrap64 (1 + (Go.bits .and .i64 a1 1))) (Go.bits .and .i64 (a1 / 2) 1) (Go.bits .and .i64 (a1 / 4) 1) false)) else (some false))) = some true := h
  clear h
  replace H := Option.bind_eq_some_iff.mp H
  obtain ⟨t275, A30, H⟩ := H
  replace H : (if t275 = true then (if (Go.bits .and .i64 (a0 / 8) 1) = 1 then (gimmallaw4_ItemTable.j0 k a1 5 (wrap64 (1 + (Go.bits .and .i64 a0 1))) (Go.bits .and .i64 (a0 / 2) 1) 0 true 5 (wrap64 (1 + (Go.bits .and .i64 a1 1))) (Go.bits .and .i64 (a1 / 2) 1) (Go.bits .and .i64 (a1 / 4) 1) false) else (gimmallaw4_ItemTable.j0 k a1 5 (wrap64 (1 + (Go.bits .and .i64 a0 1))) (Go.bits .and .i64 (a0 / 2) 1) (Go.bits .and .i64 (a0 / 4) 1) false 5 (wrap64 (1 + (Go.bits .and .i64 a1 1))) (Go.bits .and .i64 (a1 / 2) 1) (Go.bits .and .i64 (a1 / 4) 1) false)) else (some false)) = some true := H
  have A3 := Aside0.mk A30
  clear A30
  by_cases c4 : t275 = true
  · subst c4
    have H1 : (if (Go.bits .and .i64 (a0 / 8) 1) = 1 then (gimmallaw4_ItemTable.j0 k a1 5 (wrap64 (1 + (Go.bits .and .i64 a0 1))) (Go.bits .and .i64 (a0 / 2) 1) 0 true 5 (wrap64 (1 + (Go.bits .and .i64 a1 1))) (Go.bits .and .i64 (a1 / 2) 1) (Go.bits .and .i64 (a1 / 4) 1) false) else (gimmallaw4_ItemTable.j0 k a1 5 (wrap64 (1 + (Go.bits .and .i64 a0 1))) (Go.bits .and .i64 (a0 / 2) 1) (Go.bits .and .i64 (a0 / 4) 1) false 5 (wrap64 (1 + (Go.bits .and .i64 a1 1))) (Go.bits .and .i64 (a1 / 2) 1) (Go.bits .and .i64 (a1 / 4) 1) false)) = some true := by rw [if_pos rfl] at H; exact H
    clear H
    have H := H1
    clear H1
    have HC5 := Aside0.mk H
    clear H
    go_enter Try.func6, Try.ntmps6
    go_upto_if 38 with (first | ((with_reducible refine gate_callee (f := 18) rfl ?_); refine goesL_ (some 11) rfl rfl Try.func18 (by kernel_rfl) rfl #[] rfl (by (try simp only [List.map_toArray, List.map_cons, List.map_nil]); first | done | rfl | (simp only [List.length_drop, List.length_take]; rfl)) ?_; (with_reducible refine (gimmallaw4_awake.calls k  true _ A3.out).mono ?_); rintro e w6 ⟨rfl, hb⟩; refine ⟨_, rfl, ?_⟩; have n0_ := Aside0.mk (below_step (by repeat (first | (with_reducible first | exact HB.out | apply below_alloc | apply pw_below_drewN | apply below_drew1) | exact HB.out)) hb); clear HB; have HB := n0_; clear n0_; (try clear hb); (try clear hb2); (try clear hk); (try clear hi)) | ((with_reducible refine gate_dst (N := 5) rfl ?_); refine box_event ?hg (N := 5) ?hd (cs := #[.int .i64 0, .int .i64 0, .int .i64 0, .int .i64 0, .bool false]) (t := 25) ?hr ?_; (case hd => rfl); (case hg => rfl); (case hr => first | (go_simp; done) | (go_simp; rfl)); intro gb276 hg w7 hbox hb; have n0_ := Aside0.mk (below_step (by repeat (first | (with_reducible first | exact HB.out | apply below_alloc | apply pw_below_drewN | apply below_drew1) | exact HB.out)) hb); have n1_ := Aside0.mk (hbox); have n2_ := Aside0.mk ((by rw [hg]; exact (below_size (by repeat (first | (with_reducible first | exact HB.out | apply below_alloc | apply pw_below_drewN | apply below_drew1) | exact HB.out))) : w.heap.size ≤ gb276)); have n3_ := Aside0.mk ((by rw [hg]; exact (below_size (by repeat (first | (with_reducible first | exact HB.out | apply below_alloc | apply pw_below_drewN | apply below_drew1) | exact HB.out))) : w.heap.size ≤ gb276)); clear HB; have HB := n0_; have BK276 := n1_; have GW276 := n2_; have GE276 := n3_; clear n0_ n1_ n2_ n3_; clear hb hbox hg; have hcz8_0 : w7.cell? ⟨gb276, 0, none⟩ = some (.int .i64 0) := (blk_cell BK276.out 0).trans rfl; have hcz8_1 : w7.cell? ⟨gb276, 1, none⟩ = some (.int .i64 0) := (blk_cell BK276.out 1).trans rfl; have hcz8_2 : w7.cell? ⟨gb276, 2, none⟩ = some (.int .i64 0) := (blk_cell BK276.out 2).trans rfl; have hcz8_3 : w7.cell? ⟨gb276, 3, none⟩ = some (.int .i64 0) := (blk_cell BK276.out 3).trans rfl; have hcz8_4 : w7.cell? ⟨gb276, 4, none⟩ = some (.bool false) := (blk_cell BK276.out 4).trans rfl; have hfz8_0 := blk_frozen BK276.out 0; have hfz8_1 := blk_frozen BK276.out 1; have hfz8_2 := blk_frozen BK276.out 2; have hfz8_3 := blk_frozen BK276.out 3; have hfz8_4 := blk_frozen BK276.out 4) | ((with_reducible refine gate_dst (N := 6) rfl ?_); refine box_event ?hg (N := 6) ?hd (cs := #[.int .i64 0, .int .i64 0, .int .i64 0, .int .i64 0, .bool false]) (t := 25) ?hr ?_; (case hd => rfl); (case hg => rfl); (case hr => first | (go_simp; done) | (go_simp; rfl)); intro gb277 hg w9 hbox hb; have n0_ := Aside0.mk (blk_below (g := gb276) (o := .cells #[.int .i64 5, .int .i64 (wrap64 (1 + (Go.bits .and .i64 a0 1))), .int .i64 (Go.bits .and .i64 (a0 / 2) 1), .int .i64 (Go.bits .and .i64 (a0 / 4) 1), .bool false] 25 (0, 0)) (by (with_reducible repeat (first | refine blk_drewN ?_ _ | refine blk_drew ?_ | refine blk_alloc ?_ _)); refine blk_put (cs := #[.int .i64 5, .int .i64 (wrap64 (1 + (Go.bits .and .i64 a0 1))), .int .i64 (Go.bits .and .i64 (a0 / 2) 1), .int .i64 (Go.bits .and .i64 (a0 / 4) 1), .bool false]) ?_ 4 _ rfl; (with_reducible repeat (first | refine blk_drewN ?_ _ | refine blk_drew ?_ | refine blk_alloc ?_ _)); refine blk_put (cs := #[.int .i64 5, .int .i64 (wrap64 (1 + (Go.bits .and .i64 a0 1))), .int .i64 (Go.bits .and .i64 (a0 / 2) 1), .int .i64 0, .bool false]) ?_ 3 _ rfl; (with_reducible repeat (first | refine blk_drewN ?_ _ | refine blk_drew ?_ | refine blk_alloc ?_ _)); refine blk_put (cs := #[.int .i64 5, .int .i64 (wrap64 (1 + (Go.bits .and .i64 a0 1))), .int .i64 0, .int .i64 0, .bool false]) ?_ 2 _ rfl; (with_reducible repeat (first | refine blk_drewN ?_ _ | refine blk_drew ?_ | refine blk_alloc ?_ _)); refine blk_put (cs := #[.int .i64 5, .int .i64 0, .int .i64 0, .int .i64 0, .bool false]) ?_ 1 _ rfl; (with_reducible repeat (first | refine blk_drewN ?_ _ | refine blk_drew ?_ | refine blk_alloc ?_ _)); refine blk_put (cs := #[.int .i64 0, .int .i64 0, .int .i64 0, .int .i64 0, .bool false]) ?_ 0 _ rfl; (with_reducible repeat (first | refine blk_drewN ?_ _ | refine blk_drew ?_ | refine blk_alloc ?_ _)); exact BK276.out) hb); have n1_ := Aside0.mk (below_step (by repeat (first | (with_reducible first | exact HB.out | apply below_alloc | apply pw_below_drewN | apply below_drew1 | refine below_set ?_ GE276.out) | exact HB.out)) hb); have n2_ := Aside0.mk (hbox); have n3_ := Aside0.mk ((by rw [hg]; exact (below_size (by repeat (first | (with_reducible first | exact HB.out | apply below_alloc | apply pw_below_drewN | apply below_drew1 | refine below_set ?_ GE276.out) | exact HB.out))) : w.heap.size ≤ gb277)); have n4_ := Aside0.mk ((by rw [hg]; exact (below_size (by repeat (first | (with_reducible first | exact HB.out | apply below_alloc | apply pw_below_drewN | apply below_drew1 | refine below_set ?_ GE276.out) | exact HB.out))) : w.heap.size ≤ gb277)); have n5_ := Aside0.mk ((by rw [hg]; exact Nat.ne_of_lt (blk_lt (g := gb276) (o := .cells #[.int .i64 5, .int .i64 (wrap64 (1 + (Go.bits .and .i64 a0 1))), .int .i64 (Go.bits .and .i64 (a0 / 2) 1), .int .i64 (Go.bits .and .i64 (a0 / 4) 1), .bool false] 25 (0, 0)) (by (with_reducible repeat (first | refine blk_drewN ?_ _ | refine blk_drew ?_ | refine blk_alloc ?_ _)); refine blk_put (cs := #[.int .i64 5, .int .i64 (wrap64 (1 + (Go.bits .and .i64 a0 1))), .int .i64 (Go.bits .and .i64 (a0 / 2) 1), .int .i64 (Go.bits .and .i64 (a0 / 4) 1), .bool false]) ?_ 4 _ rfl; (with_reducible repeat (first | refine blk_drewN ?_ _ | refine blk_drew ?_ | refine blk_alloc ?_ _)); refine blk_put (cs := #[.int .i64 5, .int .i64 (wrap64 (1 + (Go.bits .and .i64 a0 1))), .int .i64 (Go.bits .and .i64 (a0 / 2) 1), .int .i64 0, .bool false]) ?_ 3 _ rfl; (with_reducible repeat (first | refine blk_drewN ?_ _ | refine blk_drew ?_ | refine blk_alloc ?_ _)); refine blk_put (cs := #[.int .i64 5, .int .i64 (wrap64 (1 + (Go.bits .and .i64 a0 1))), .int .i64 0, .int .i64 0, .bool false]) ?_ 2 _ rfl; (with_reducible repeat (first | refine blk_drewN ?_ _ | refine blk_drew ?_ | refine blk_alloc ?_ _)); refine blk_put (cs := #[.int .i64 5, .int .i64 0, .int .i64 0, .int .i64 0, .bool false]) ?_ 1 _ rfl; (with_reducible repeat (first | refine blk_drewN ?_ _ | refine blk_drew ?_ | refine blk_alloc ?_ _)); refine blk_put (cs := #[.int .i64 0, .int .i64 0, .int .i64 0, .int .i64 0, .bool false]) ?_ 0 _ rfl; (with_reducible repeat (first | refine blk_drewN ?_ _ | refine blk_drew ?_ | refine blk_alloc ?_ _)); exact BK276.out)) : gb276 ≠ gb277)); have n6_ := Aside0.mk ((by rw [hg]; exact Nat.ne_of_gt (blk_lt (g := gb276) (o := .cells #[.int .i64 5, .int .i64 (wrap64 (1 + (Go.bits .and .i64 a0 1))), .int .i64 (Go.bits .and .i64 (a0 / 2) 1), .int .i64 (Go.bits .and .i64 (a0 / 4) 1), .bool false] 25 (0, 0)) (by (with_reducible repeat (first | refine blk_drewN ?_ _ | refine blk_drew ?_ | refine blk_alloc ?_ _)); refine blk_put (cs := #[.int .i64 5, .int .i64 (wrap64 (1 + (Go.bits .and .i64 a0 1))), .int .i64 (Go.bits .and .i64 (a0 / 2) 1), .int .i64 (Go.bits .and .i64 (a0 / 4) 1), .bool false]) ?_ 4 _ rfl; (with_reducible repeat (first | refine blk_drewN ?_ _ | refine blk_drew ?_ | refine blk_alloc ?_ _)); refine blk_put (cs := #[.int .i64 5, .int .i64 (wrap64 (1 + (Go.bits .and .i64 a0 1))), .int .i64 (Go.bits .and .i64 (a0 / 2) 1), .int .i64 0, .bool false]) ?_ 3 _ rfl; (with_reducible repeat (first | refine blk_drewN ?_ _ | refine blk_drew ?_ | refine blk_alloc ?_ _)); refine blk_put (cs := #[.int .i64 5, .int .i64 (wrap64 (1 + (Go.bits .and .i64 a0 1))), .int .i64 0, .int .i64 0, .bool false]) ?_ 2 _ rfl; (with_reducible repeat (first | refine blk_drewN ?_ _ | refine blk_drew ?_ | refine blk_alloc ?_ _)); refine blk_put (cs := #[.int .i64 5, .int .i64 0, .int .i64 0, .int .i64 0, .bool false]) ?_ 1 _ rfl; (with_reducible repeat (first | refine blk_drewN ?_ _ | refine blk_drew ?_ | refine blk_alloc ?_ _)); refine blk_put (cs := #[.int .i64 0, .int .i64 0, .int .i64 0, .int .i64 0, .bool false]) ?_ 0 _ rfl; (with_reducible repeat (first | refine blk_drewN ?_ _ | refine blk_drew ?_ | refine blk_alloc ?_ _)); exact BK276.out)) : gb277 ≠ gb276)); clear BK276; clear HB; have BK276 := n0_; have HB := n1_; have BK277 := n2_; have GW277 := n3_; have GE277 := n4_; have NB276_277 := n5_; have NB277_276 := n6_; clear n0_ n1_ n2_ n3_ n4_ n5_ n6_; clear hb hbox hg; have hnb10 := NB277_276.out; have hnc10 := NB276_277.out; have hcz11_0 : w9.cell? ⟨gb277, 0, none⟩ = some (.int .i64 0) := (blk_cell BK277.out 0).trans rfl; have hcz11_1 : w9.cell? ⟨gb277, 1, none⟩ = some (.int .i64 0) := (blk_cell BK277.out 1).trans rfl; have hcz11_2 : w9.cell? ⟨gb277, 2, none⟩ = some (.int .i64 0) := (blk_cell BK277.out 2).trans rfl; have hcz11_3 : w9.cell? ⟨gb277, 3, none⟩ = some (.int .i64 0) := (blk_cell BK277.out 3).trans rfl; have hcz11_4 : w9.cell? ⟨gb277, 4, none⟩ = some (.bool false) := (blk_cell BK277.out 4).trans rfl; have hfz11_0 := blk_frozen BK277.out 0; have hfz11_1 := blk_frozen BK277.out 1; have hfz11_2 := blk_frozen BK277.out 2; have hfz11_3 := blk_frozen BK277.out 3; have hfz11_4 := blk_frozen BK277.out 4))
    (try simp only [Act.put, List.setIfInBounds_toArray, List.set_cons_zero, List.set_cons_succ])
    go_cut [] (fun wc => ∃ (kq : Nat) (x277003_4 : Int) (x277004_4 : Bool), Aside0 (gimmallaw4_ItemTable.j0 kq a1 5 (wrap64 (1 + (Go.bits .and .i64 a0 1))) (Go.bits .and .i64 (a0 / 2) 1) x277003_4 x277004_4 5 (wrap64 (1 + (Go.bits .and .i64 a1 1))) (Go.bits .and .i64 (a1 / 2) 1) (Go.bits .and .i64 (a1 / 4) 1) false = some true) ∧ Aside0 (kq ≤ k) ∧ Aside0 (wc.heap[gb276]? = some (.cells #[.int .i64 5, .int .i64 (wrap64 (1 + (Go.bits .and .i64 a0 1))), .int .i64 (Go.bits .and .i64 (a0 / 2) 1), .int .i64 x277003_4, .bool x277004_4] 25 (0, 0))) ∧ Aside0 (wc.heap[gb277]? = some (.cells #[.int .i64 5, .int .i64 (wrap64 (1 + (Go.bits .and .i64 a1 1))), .int .i64 (Go.bits .and .i64 (a1 / 2) 1), .int .i64 (Go.bits .and .i64 (a1 / 4) 1), .bool false] 25 (0, 0))) ∧ Aside0 (Below w.heap.size w wc))
    case first =>
      have H := HC5.out
      clear HC5
      by_cases c12 : (Go.bits .and .i64 (a0 / 8) 1) = 1
      · rw [if_pos c12] at H
        have c12b0 : ((Go.bits .and .i64 (a0 / 8) 1) == 1) = true := beq_iff_eq.mpr c12
        have c12b1 : ((Go.bits .and .i64 (a0 / 8) 1) != 1) = false := bne_eq_false_iff_eq.mpr c12
        clear c12
        (first | rw [c12b0] | (simp only [i64_w, i32_w]; rw [c12b0]) | skip)
        have H' := Aside0.mk H
        clear H
        have hnb13 := NB276_277.out
        have hnc13 := NB277_276.out
        have hcz14_0 : w9.cell? ⟨gb276, 0, none⟩ = some (.int .i64 5) := (blk_cell BK276.out 0).trans rfl
        have hcz14_1 : w9.cell? ⟨gb276, 1, none⟩ = some (.int .i64 (wrap64 (1 + (Go.bits .and .i64 a0 1)))) := (blk_cell BK276.out 1).trans rfl
        have hcz14_2 : w9.cell? ⟨gb276, 2, none⟩ = some (.int .i64 (Go.bits .and .i64 (a0 / 2) 1)) := (blk_cell BK276.out 2).trans rfl
        have hcz14_3 : w9.cell? ⟨gb276, 3, none⟩ = some (.int .i64 (Go.bits .and .i64 (a0 / 4) 1)) := (blk_cell BK276.out 3).trans rfl
        have hcz14_4 : w9.cell? ⟨gb276, 4, none⟩ = some (.bool false) := (blk_cell BK276.out 4).trans rfl
        have hfz14_0 := blk_frozen BK276.out 0
        have hfz14_1 := blk_frozen BK276.out 1
        have hfz14_2 := blk_frozen BK276.out 2
        have hfz14_3 := blk_frozen BK276.out 3
        have hfz14_4 := blk_frozen BK276.out 4
        go_wp2
        go_meet
        case rel => exact ⟨_, (0), (true), H', ⟨by first | omega | exact Nat.le_refl _⟩, ⟨by (with_reducible repeat (first | refine blk_drewN ?_ _ | refine blk_drew ?_ | refine blk_alloc ?_ _)); refine blk_put (cs := #[.int .i64 5, .int .i64 (wrap64 (1 + (Go.bits .and .i64 a0 1))), .int .i64 (Go.bits .and .i64 (a0 / 2) 1), .int .i64 (Go.bits .and .i64 (a0 / 4) 1), .bool true]) ?_ 3 _ rfl; (with_reducible repeat (first | refine blk_drewN ?_ _ | refine blk_drew ?_ | refine blk_alloc ?_ _)); refine blk_put (cs := #[.int .i64 5, .int .i64 (wrap64 (1 + (Go.bits .and .i64 a0 1))), .int .i64 (Go.bits .and .i64 (a0 / 2) 1), .int .i64 (Go.bits .and .i64 (a0 / 4) 1), .bool false]) ?_ 4 _ rfl; (with_reducible repeat (first | refine blk_drewN ?_ _ | refine blk_drew ?_ | refine blk_alloc ?_ _)); refine blk_far ?_ NB276_277.out _; (with_reducible repeat (first | refine blk_drewN ?_ _ | refine blk_drew ?_ | refine blk_alloc ?_ _)); refine blk_far ?_ NB276_277.out _; (with_reducible repeat (first | refine blk_drewN ?_ _ | refine blk_drew ?_ | refine blk_alloc ?_ _)); refine blk_far ?_ NB276_277.out _; (with_reducible repeat (first | refine blk_drewN ?_ _ | refine blk_drew ?_ | refine blk_alloc ?_ _)); refine blk_far ?_ NB276_277.out _; (with_reducible repeat (first | refine blk_drewN ?_ _ | refine blk_drew ?_ | refine blk_alloc ?_ _)); refine blk_far ?_ NB276_277.out _; (with_reducible repeat (first | refine blk_drewN ?_ _ | refine blk_drew ?_ | refine blk_alloc ?_ _)); exact BK276.out⟩, ⟨by (with_reducible repeat (first | refine blk_drewN ?_ _ | refine blk_drew ?_ | refine blk_alloc ?_ _)); refine blk_far ?_ NB277_276.out _; (with_reducible repeat (first | refine blk_drewN ?_ _ | refine blk_drew ?_ | refine blk_alloc ?_ _)); refine blk_far ?_ NB277_276.out _; (with_reducible repeat (first | refine blk_drewN ?_ _ | refine blk_drew ?_ | refine blk_alloc ?_ _)); refine blk_put (cs := #[.int .i64 5, .int .i64 (wrap64 (1 + (Go.bits .and .i64 a1 1))), .int .i64 (Go.bits .and .i64 (a1 / 2) 1), .int .i64 (Go.bits .and .i64 (a1 / 4) 1), .bool false]) ?_ 4 _ rfl; (with_reducible repeat (first | refine blk_drewN ?_ _ | refine blk_drew ?_ | refine blk_alloc ?_ _)); refine blk_put (cs := #[.int .i64 5, .int .i64 (wrap64 (1 + (Go.bits .and .i64 a1 1))), .int .i64 (Go.bits .and .i64 (a1 / 2) 1), .int .i64 0, .bool false]) ?_ 3 _ rfl; (with_reducible repeat (first | refine blk_drewN ?_ _ | refine blk_drew ?_ | refine blk_alloc ?_ _)); refine blk_put (cs := #[.int .i64 5, .int .i64 (wrap64 (1 + (Go.bits .and .i64 a1 1))), .int .i64 0, .int .i64 0, .bool false]) ?_ 2 _ rfl; (with_reducible repeat (first | refine blk_drewN ?_ _ | refine blk_drew ?_ | refine blk_alloc ?_ _)); refine blk_put (cs := #[.int .i64 5, .int .i64 0, .int .i64 0, .int .i64 0, .bool false]) ?_ 1 _ rfl; (with_reducible repeat (first | refine blk_drewN ?_ _ | refine blk_drew ?_ | refine blk_alloc ?_ _)); refine blk_put (cs := #[.int .i64 0, .int .i64 0, .int .i64 0, .int .i64 0, .bool false]) ?_ 0 _ rfl; (with_reducible repeat (first | refine blk_drewN ?_ _ | refine blk_drew ?_ | refine blk_alloc ?_ _)); exact BK277.out⟩, ⟨by repeat (first | (with_reducible first | exact HB.out | apply below_alloc | apply pw_below_drewN | apply below_drew1 | refine below_set ?_ GE276.out | refine below_set ?_ GE277.out) | exact HB.out)⟩⟩
      · rw [if_neg c12] at H
        have c12b0 : ((Go.bits .and .i64 (a0 / 8) 1) == 1) = false := beq_eq_false_iff_ne.mpr c12
        have c12b1 : ((Go.bits .and .i64 (a0 / 8) 1) != 1) = true := bne_iff_ne.mpr c12
        (first | rw [c12b0] | (simp only [i64_w, i32_w]; rw [c12b0]) | skip)
        have H' := Aside0.mk H
        clear H
        go_wp2
        go_meet
        case rel => exact ⟨_, (Go.bits .and .i64 (a0 / 4) 1), (false), H', ⟨by first | omega | exact Nat.le_refl _⟩, ⟨by (with_reducible repeat (first | refine blk_drewN ?_ _ | refine blk_drew ?_ | refine blk_alloc ?_ _)); refine blk_far ?_ NB276_277.out _; (with_reducible repeat (first | refine blk_drewN ?_ _ | refine blk_drew ?_ | refine blk_alloc ?_ _)); refine blk_far ?_ NB276_277.out _; (with_reducible repeat (first | refine blk_drewN ?_ _ | refine blk_drew ?_ | refine blk_alloc ?_ _)); refine blk_far ?_ NB276_277.out _; (with_reducible repeat (first | refine blk_drewN ?_ _ | refine blk_drew ?_ | refine blk_alloc ?_ _)); refine blk_far ?_ NB276_277.out _; (with_reducible repeat (first | refine blk_drewN ?_ _ | refine blk_drew ?_ | refine blk_alloc ?_ _)); refine blk_far ?_ NB276_277.out _; (with_reducible repeat (first | refine blk_drewN ?_ _ | refine blk_drew ?_ | refine blk_alloc ?_ _)); exact BK276.out⟩, ⟨by (with_reducible repeat (first | refine blk_drewN ?_ _ | refine blk_drew ?_ | refine blk_alloc ?_ _)); refine blk_put (cs := #[.int .i64 5, .int .i64 (wrap64 (1 + (Go.bits .and .i64 a1 1))), .int .i64 (Go.bits .and .i64 (a1 / 2) 1), .int .i64 (Go.bits .and .i64 (a1 / 4) 1), .bool false]) ?_ 4 _ rfl; (with_reducible repeat (first | refine blk_drewN ?_ _ | refine blk_drew ?_ | refine blk_alloc ?_ _)); refine blk_put (cs := #[.int .i64 5, .int .i64 (wrap64 (1 + (Go.bits .and .i64 a1 1))), .int .i64 (Go.bits .and .i64 (a1 / 2) 1), .int .i64 0, .bool false]) ?_ 3 _ rfl; (with_reducible repeat (first | refine blk_drewN ?_ _ | refine blk_drew ?_ | refine blk_alloc ?_ _)); refine blk_put (cs := #[.int .i64 5, .int .i64 (wrap64 (1 + (Go.bits .and .i64 a1 1))), .int .i64 0, .int .i64 0, .bool false]) ?_ 2 _ rfl; (with_reducible repeat (first | refine blk_drewN ?_ _ | refine blk_drew ?_ | refine blk_alloc ?_ _)); refine blk_put (cs := #[.int .i64 5, .int .i64 0, .int .i64 0, .int .i64 0, .bool false]) ?_ 1 _ rfl; (with_reducible repeat (first | refine blk_drewN ?_ _ | refine blk_drew ?_ | refine blk_alloc ?_ _)); refine blk_put (cs := #[.int .i64 0, .int .i64 0, .int .i64 0, .int .i64 0, .bool false]) ?_ 0 _ rfl; (with_reducible repeat (first | refine blk_drewN ?_ _ | refine blk_drew ?_ | refine blk_alloc ?_ _)); exact BK277.out⟩, ⟨by repeat (first | (with_reducible first | exact HB.out | apply below_alloc | apply pw_below_drewN | apply below_drew1 | refine below_set ?_ GE276.out | refine below_set ?_ GE277.out) | exact HB.out)⟩⟩
    case rest =>
      clear HC5
      try clear c1
      try clear p2
      try clear c4
      try clear c6
      try clear p6
      try clear c10
      try clear c12
      try clear c12b0
      try clear c12b1
      try clear c13
      try clear hcz11_0
      try clear hcz11_1
      try clear hcz11_2
      try clear hcz11_3
      try clear hcz11_4
      try clear hcz14_0
      try clear hcz14_1
      try clear hcz14_2
      try clear hcz14_3
      try clear hcz14_4
      try clear hcz8_0
      try clear hcz8_1
      try clear hcz8_2
      try clear hcz8_3
      try clear hcz8_4
      try clear hfz11_0
      try clear hfz11_1
      try clear hfz11_2
      try clear hfz11_3
      try clear hfz11_4
      try clear hfz14_0
      try clear hfz14_1
      try clear hfz14_2
      try clear hfz14_3
      try clear hfz14_4
      try clear hfz8_0
      try clear hfz8_1
      try clear hfz8_2
      try clear hfz8_3
      try clear hfz8_4
      obtain ⟨kq, x277003_4, x277004_4, HA, HJ4, BK276, BK277, HB⟩ := hcut
      cases kq with
      | zero => exact absurd HA.out (by simp [gimmallaw4_ItemTable.j0])
      | succ kj4 =>
        have H := HA.out
        clear HA
        simp only [gimmallaw4_ItemTable.j0] at H
        have HC15 := Aside0.mk H
        clear H
        go_upto_if 44 with (fail)
        go_cut [] (fun wc => ∃ (kq : Nat) (x278003_14 : Int) (x278004_14 : Bool), Aside0 (gimmallaw4_ItemTable.j1 kq 5 (wrap64 (1 + (Go.bits .and .i64 a0 1))) (Go.bits .and .i64 (a0 / 2) 1) x277003_4 x277004_4 5 (wrap64 (1 + (Go.bits .and .i64 a1 1))) (Go.bits .and .i64 (a1 / 2) 1) x278003_14 x278004_14 = some true) ∧ Aside0 (kq ≤ kj4) ∧ Aside0 (wc.heap[gb276]? = some (.cells #[.int .i64 5, .int .i64 (wrap64 (1 + (Go.bits .and .i64 a0 1))), .int .i64 (Go.bits .and .i64 (a0 / 2) 1), .int .i64 x277003_4, .bool x277004_4] 25 (0, 0))) ∧ Aside0 (wc.heap[gb277]? = some (.cells #[.int .i64 5, .int .i64 (wrap64 (1 + (Go.bits .and .i64 a1 1))), .int .i64 (Go.bits .and .i64 (a1 / 2) 1), .int .i64 x278003_14, .bool x278004_14] 25 (0, 0))) ∧ Aside0 (Below w.heap.size w wc))
        case first =>
          have H := HC15.out
          clear HC15
          by_cases c16 : (Go.bits .and .i64 (a1 / 8) 1) = 1
          · rw [if_pos c16] at H
            have c16b0 : ((Go.bits .and .i64 (a1 / 8) 1) == 1) = true := beq_iff_eq.mpr c16
            have c16b1 : ((Go.bits .and .i64 (a1 / 8) 1) != 1) = false := bne_eq_false_iff_eq.mpr c16
            clear c16
            (first | rw [c16b0] | (simp only [i64_w, i32_w]; rw [c16b0]) | skip)
            have H' := Aside0.mk H
            clear H
            have hnb17 := NB277_276.out
            have hnc17 := NB276_277.out
            have hcz18_0 : wc.cell? ⟨gb277, 0, none⟩ = some (.int .i64 5) := (blk_cell BK277.out 0).trans rfl
            have hcz18_1 : wc.cell? ⟨gb277, 1, none⟩ = some (.int .i64 (wrap64 (1 + (Go.bits .and .i64 a1 1)))) := (blk_cell BK277.out 1).trans rfl
            have hcz18_2 : wc.cell? ⟨gb277, 2, none⟩ = some (.int .i64 (Go.bits .and .i64 (a1 / 2) 1)) := (blk_cell BK277.out 2).trans rfl
            have hcz18_3 : wc.cell? ⟨gb277, 3, none⟩ = some (.int .i64 (Go.bits .and .i64 (a1 / 4) 1)) := (blk_cell BK277.out 3).trans rfl
            have hcz18_4 : wc.cell? ⟨gb277, 4, none⟩ = some (.bool false) := (blk_cell BK277.out 4).trans rfl
            have hfz18_0 := blk_frozen BK277.out 0
            have hfz18_1 := blk_frozen BK277.out 1
            have hfz18_2 := blk_frozen BK277.out 2
            have hfz18_3 := blk_frozen BK277.out 3
            have hfz18_4 := blk_frozen BK277.out 4
            go_wp2
            go_meet
            case rel => exact ⟨_, (0), (true), H', ⟨by have := HJ4.out; first | omega | exact Nat.le_refl _⟩, ⟨by (with_reducible repeat (first | refine blk_drewN ?_ _ | refine blk_drew ?_ | refine blk_alloc ?_ _)); refine blk_far ?_ NB276_277.out _; (with_reducible repeat (first | refine blk_drewN ?_ _ | refine blk_drew ?_ | refine blk_alloc ?_ _)); refine blk_far ?_ NB276_277.out _; (with_reducible repeat (first | refine blk_drewN ?_ _ | refine blk_drew ?_ | refine blk_alloc ?_ _)); exact BK276.out⟩, ⟨by (with_reducible repeat (first | refine blk_drewN ?_ _ | refine blk_drew ?_ | refine blk_alloc ?_ _)); refine blk_put (cs := #[.int .i64 5, .int .i64 (wrap64 (1 + (Go.bits .and .i64 a1 1))), .int .i64 (Go.bits .and .i64 (a1 / 2) 1), .int .i64 (Go.bits .and .i64 (a1 / 4) 1), .bool true]) ?_ 3 _ rfl; (with_reducible repeat (first | refine blk_drewN ?_ _ | refine blk_drew ?_ | refine blk_alloc ?_ _)); refine blk_put (cs := #[.int .i64 5, .int .i64 (wrap64 (1 + (Go.bits .and .i64 a1 1))), .int .i64 (Go.bits .and .i64 (a1 / 2) 1), .int .i64 (Go.bits .and .i64 (a1 / 4) 1), .bool false]) ?_ 4 _ rfl; (with_reducible repeat (first | refine blk_drewN ?_ _ | refine blk_drew ?_ | refine blk_alloc ?_ _)); exact BK277.out⟩, ⟨by repeat (first | (with_reducible first | exact HB.out | apply below_alloc | apply pw_below_drewN | apply below_drew1 | refine below_set ?_ GE276.out | refine below_set ?_ GE277.out) | exact HB.out)⟩⟩
          · rw [if_neg c16] at H
            have c16b0 : ((Go.bits .and .i64 (a1 / 8) 1) == 1) = false := beq_eq_false_iff_ne.mpr c16
            have c16b1 : ((Go.bits .and .i64 (a1 / 8) 1) != 1) = true := bne_iff_ne.mpr c16
            (first | rw [c16b0] | (simp only [i64_w, i32_w]; rw [c16b0]) | skip)
            have H' := Aside0.mk H
            clear H
            go_wp2
            go_meet
            case rel => exact ⟨_, ((Go.bits .and .i64 (a1 / 4) 1)), (false), H', ⟨by have := HJ4.out; first | omega | exact Nat.le_refl _⟩, ⟨by (with_reducible repeat (first | refine blk_drewN ?_ _ | refine blk_drew ?_ | refine blk_alloc ?_ _)); exact BK276.out⟩, ⟨by (with_reducible repeat (first | refine blk_drewN ?_ _ | refine blk_drew ?_ | refine blk_alloc ?_ _)); exact BK277.out⟩, ⟨by repeat (first | (with_reducible first | exact HB.out | apply below_alloc | apply pw_below_drewN | apply below_drew1 | refine below_set ?_ GE276.out | refine below_set ?_ GE277.out) | exact HB.out)⟩⟩
        case rest =>
          clear HC15
          try clear c1
          try clear p2
          try clear c4
          try clear c6
          try clear p6
          try clear c10
          try clear c12
          try clear c12b0
          try clear c12b1
          try clear c13
          try clear c16
          try clear c16b0
          try clear c16b1
          try clear c17
          try clear c18
          try clear hcz11_0
          try clear hcz11_1
          try clear hcz11_2
          try clear hcz11_3
          try clear hcz11_4
          try clear hcz14_0
          try clear hcz14_1
          try clear hcz14_2
          try clear hcz14_3
          try clear hcz14_4
          try clear hcz18_0
          try clear hcz18_1
          try clear hcz18_2
          try clear hcz18_3
          try clear hcz18_4
          try clear hcz8_0
          try clear hcz8_1
          try clear hcz8_2
          try clear hcz8_3
          try clear hcz8_4
          try clear hfz11_0
          try clear hfz11_1
          try clear hfz11_2
          try clear hfz11_3
          try clear hfz11_4
          try clear hfz14_0
          try clear hfz14_1
          try clear hfz14_2
          try clear hfz14_3
          try clear hfz14_4
          try clear hfz18_0
          try clear hfz18_1
          try clear hfz18_2
          try clear hfz18_3
          try clear hfz18_4
          try clear hfz8_0
          try clear hfz8_1
          try clear hfz8_2
          try clear hfz8_3
          try clear hfz8_4
          try clear p2
          try clear p6
          obtain ⟨kq, x278003_14, x278004_14, HA, HJ14, BK276, BK277, HB⟩ := hcut
          cases kq with
          | zero => exact absurd HA.out (by simp [gimmallaw4_ItemTable.j1])
          | succ kj14 =>
            have H := HA.out
            clear HA
            simp only [gimmallaw4_ItemTable.j1] at H
            have HC19 := Aside0.mk H
            clear H
            have hnb20 := NB276_277.out
            have hnc20 := NB277_276.out
            have hcz21_0 : wc.cell? ⟨gb276, 0, none⟩ = some (.int .i64 5) := (blk_cell BK276.out 0).trans rfl
            have hcz21_1 : wc.cell? ⟨gb276, 1, none⟩ = some (.int .i64 (wrap64 (1 + (Go.bits .and .i64 a0 1)))) := (blk_cell BK276.out 1).trans rfl
            have hcz21_2 : wc.cell? ⟨gb276, 2, none⟩ = some (.int .i64 (Go.bits .and .i64 (a0 / 2) 1)) := (blk_cell BK276.out 2).trans rfl
            have hcz21_3 : wc.cell? ⟨gb276, 3, none⟩ = some (.int .i64 x277003_4) := (blk_cell BK276.out 3).trans rfl
            have hcz21_4 : wc.cell? ⟨gb276, 4, none⟩ = some (.bool x277004_4) := (blk_cell BK276.out 4).trans rfl
            have hfz21_0 := blk_frozen BK276.out 0
            have hfz21_1 := blk_frozen BK276.out 1
            have hfz21_2 := blk_frozen BK276.out 2
            have hfz21_3 := blk_frozen BK276.out 3
            have hfz21_4 := blk_frozen BK276.out 4
            have hcz22_0 : wc.cell? ⟨gb277, 0, none⟩ = some (.int .i64 5) := (blk_cell BK277.out 0).trans rfl
            have hcz22_1 : wc.cell? ⟨gb277, 1, none⟩ = some (.int .i64 (wrap64 (1 + (Go.bits .and .i64 a1 1)))) := (blk_cell BK277.out 1).trans rfl
            have hcz22_2 : wc.cell? ⟨gb277, 2, none⟩ = some (.int .i64 (Go.bits .and .i64 (a1 / 2) 1)) := (blk_cell BK277.out 2).trans rfl
            have hcz22_3 : wc.cell? ⟨gb277, 3, none⟩ = some (.int .i64 x278003_14) := (blk_cell BK277.out 3).trans rfl
            have hcz22_4 : wc.cell? ⟨gb277, 4, none⟩ = some (.bool x278004_14) := (blk_cell BK277.out 4).trans rfl
            have hfz22_0 := blk_frozen BK277.out 0
            have hfz22_1 := blk_frozen BK277.out 1
            have hfz22_2 := blk_frozen BK277.out 2
            have hfz22_3 := blk_frozen BK277.out 3
            have hfz22_4 := blk_frozen BK277.out 4
            go_upto_if 72 with (fail)
            go_cut [7] (fun v7 wc => ∃ (kq : Nat) (x7_18 : Int), v7 = .int .i64 x7_18 ∧ Aside0 (gimmallaw4_ItemTable.j2 kq x7_18 (wrap64 ((wrap64 ((wrap64 (100 * (wrap64 (1 + (Go.bits .and .i64 a1 1))))) + (wrap64 (10 * (Go.bits .and .i64 (a1 / 2) 1))))) + x278003_14)) 5 (wrap64 (1 + (Go.bits .and .i64 a0 1))) (Go.bits .and .i64 (a0 / 2) 1) x277003_4 x277004_4 5 (wrap64 (1 + (Go.bits .and .i64 a1 1))) (Go.bits .and .i64 (a1 / 2) 1) x278003_14 x278004_14 = some true) ∧ Aside0 (kq ≤ kj14) ∧ Aside0 (wc.heap[gb276]? = some (.cells #[.int .i64 5, .int .i64 (wrap64 (1 + (Go.bits .and .i64 a0 1))), .int .i64 (Go.bits .and .i64 (a0 / 2) 1), .int .i64 x277003_4, .bool x277004_4] 25 (0, 0))) ∧ Aside0 (wc.heap[gb277]? = some (.cells #[.int .i64 5, .int .i64 (wrap64 (1 + (Go.bits .and .i64 a1 1))), .int .i64 (Go.bits .and .i64 (a1 / 2) 1), .int .i64 x278003_14, .bool x278004_14] 25 (0, 0))) ∧ Aside0 (Below w.heap.size w wc))
            case first =>
              have H := HC19.out
              clear HC19
              by_cases c23 : x277004_4 = true
              · subst c23
                have H1 : (gimmallaw4_ItemTable.j2 kj14 (wrap64 ((wrap64 ((wrap64 ((wrap64 (100 * (wrap64 (1 + (Go.bits .and .i64 a0 1))))) + (wrap64 (10 * (Go.bits .and .i64 (a0 / 2) 1))))) + x277003_4)) + 5)) (wrap64 ((wrap64 ((wrap64 (100 * (wrap64 (1 + (Go.bits .and .i64 a1 1))))) + (wrap64 (10 * (Go.bits .and .i64 (a1 / 2) 1))))) + x278003_14)) 5 (wrap64 (1 + (Go.bits .and .i64 a0 1))) (Go.bits .and .i64 (a0 / 2) 1) x277003_4 true 5 (wrap64 (1 + (Go.bits .and .i64 a1 1))) (Go.bits .and .i64 (a1 / 2) 1) x278003_14 x278004_14) = some true := by rw [if_pos rfl] at H; exact H
                clear H
                have H := H1
                clear H1
                have H' := Aside0.mk H
                clear H
                go_wp2
                go_meet
                case rel => exact ⟨_, (wrap64 ((wrap64 ((wrap64 ((wrap64 (100 * (wrap64 (1 + (Go.bits .and .i64 a0 1))))) + (wrap64 (10 * (Go.bits .and .i64 (a0 / 2) 1))))) + x277003_4)) + 5)), (by first | rfl | (simp; done) | (simp [*]; done)), H', ⟨by have := HJ4.out; have := HJ14.out; first | omega | exact Nat.le_refl _⟩, ⟨by (with_reducible repeat (first | refine blk_drewN ?_ _ | refine blk_drew ?_ | refine blk_alloc ?_ _)); exact BK276.out⟩, ⟨by (with_reducible repeat (first | refine blk_drewN ?_ _ | refine blk_drew ?_ | refine blk_alloc ?_ _)); exact BK277.out⟩, ⟨by repeat (first | (with_reducible first | exact HB.out | apply below_alloc | apply pw_below_drewN | apply below_drew1 | refine below_set ?_ GE276.out | refine below_set ?_ GE277.out) | exact HB.out)⟩⟩
              · replace c23 := Bool.eq_false_iff.mpr c23
                subst c23
                have H1 : (gimmallaw4_ItemTable.j2 kj14 (wrap64 ((wrap64 ((wrap64 (100 * (wrap64 (1 + (Go.bits .and .i64 a0 1))))) + (wrap64 (10 * (Go.bits .and .i64 (a0 / 2) 1))))) + x277003_4)) (wrap64 ((wrap64 ((wrap64 (100 * (wrap64 (1 + (Go.bits .and .i64 a1 1))))) + (wrap64 (10 * (Go.bits .and .i64 (a1 / 2) 1))))) + x278003_14)) 5 (wrap64 (1 + (Go.bits .and .i64 a0 1))) (Go.bits .and .i64 (a0 / 2) 1) x277003_4 false 5 (wrap64 (1 + (Go.bits .and .i64 a1 1))) (Go.bits .and .i64 (a1 / 2) 1) x278003_14 x278004_14) = some true := by rw [if_neg (show ¬ (false = true) by decide)] at H; exact H
                clear H
                have H := H1
                clear H1
                have H' := Aside0.mk H
                clear H
                go_wp2
                go_meet
                case rel => exact ⟨_, (wrap64 ((wrap64 ((wrap64 (100 * (wrap64 (1 + (Go.bits .and .i64 a0 1))))) + (wrap64 (10 * (Go.bits .and .i64 (a0 / 2) 1))))) + x277003_4)), (by first | rfl | (simp; done) | (simp [*]; done)), H', ⟨by have := HJ4.out; have := HJ14.out; first | omega | exact Nat.le_refl _⟩, ⟨by (with_reducible repeat (first | refine blk_drewN ?_ _ | refine blk_drew ?_ | refine blk_alloc ?_ _)); exact BK276.out⟩, ⟨by (with_reducible repeat (first | refine blk_drewN ?_ _ | refine blk_drew ?_ | refine blk_alloc ?_ _)); exact BK277.out⟩, ⟨by repeat (first | (with_reducible first | exact HB.out | apply below_alloc | apply pw_below_drewN | apply below_drew1 | refine below_set ?_ GE276.out | refine below_set ?_ GE277.out) | exact HB.out)⟩⟩
            case rest =>
              clear HC19
              try clear c1
              try clear c2
              try clear p2
              try clear c4
              try clear c6
              try clear p6
              try clear c10
              try clear c12
              try clear c12b0
              try clear c12b1
              try clear c13
              try clear c16
              try clear c16b0
              try clear c16b1
              try clear c17
              try clear c18
              try clear c20
              try clear c23
              try clear hcz11_0
              try clear hcz11_1
              try clear hcz11_2
              try clear hcz11_3
              try clear hcz11_4
              try clear hcz14_0
              try clear hcz14_1
              try clear hcz14_2
              try clear hcz14_3
              try clear hcz14_4
              try clear hcz18_0
              try clear hcz18_1
              try clear hcz18_2
              try clear hcz18_3
              try clear hcz18_4
              try clear hcz21_0
              try clear hcz21_1
              try clear hcz21_2
              try clear hcz21_3
              try clear hcz21_4
              try clear hcz22_0
              try clear hcz22_1
              try clear hcz22_2
              try clear hcz22_3
              try clear hcz22_4
              try clear hcz8_0
              try clear hcz8_1
              try clear hcz8_2
              try clear hcz8_3
              try clear hcz8_4
              try clear hfz11_0
              try clear hfz11_1
              try clear hfz11_2
              try clear hfz11_3
              try clear hfz11_4
              try clear hfz14_0
              try clear hfz14_1
              try clear hfz14_2
              try clear hfz14_3
              try clear hfz14_4
              try clear hfz18_0
              try clear hfz18_1
              try clear hfz18_2
              try clear hfz18_3
              try clear hfz18_4
              try clear hfz21_0
              try clear hfz21_1
              try clear hfz21_2
              try clear hfz21_3
              try clear hfz21_4
              try clear hfz22_0
              try clear hfz22_1
              try clear hfz22_2
              try clear hfz22_3
              try clear hfz22_4
              try clear hfz8_0
              try clear hfz8_1
              try clear hfz8_2
              try clear hfz8_3
              try clear hfz8_4
              try clear p2
              try clear p6
              obtain ⟨kq, x7_18, rfl, HA, HJ18, BK276, BK277, HB⟩ := hcut
              cases kq with
              | zero => exact absurd HA.out (by simp [gimmallaw4_ItemTable.j2])
              | succ kj18 =>
                have H := HA.out
                clear HA
                simp only [gimmallaw4_ItemTable.j2] at H
                by_cases c24 : x278004_14 = true
                · subst c24
                  have H1 : ((item_Best.f kj18 5 (wrap64 (1 + (Go.bits .and .i64 a0 1))) (Go.bits .and .i64 (a0 / 2) 1) x277003_4 x277004_4 5 (wrap64 (1 + (Go.bits .and .i64 a1 1))) (Go.bits .and .i64 (a1 / 2) 1) x278003_14 true).bind fun bt278 => ((gimmallaw0_Num.f bt278.2.2.2.2.2).bind fun t285 => (if t285 = 0 then (if x7_18 ≥ (wrap64 ((wrap64 ((wrap64 ((wrap64 (100 * (wrap64 (1 + (Go.bits .and .i64 a1 1))))) + (wrap64 (10 * (Go.bits .and .i64 (a1 / 2) 1))))) + x278003_14)) + 5)) then (if (bt278.1 == 5 && ((bt278.2.1 == (wrap64 (1 + (Go.bits .and .i64 a0 1))) && (bt278.2.2.1 == (Go.bits .and .i64 (a0 / 2) 1))) && (bt278.2.2.2.1 == x277003_4 && (bt278.2.2.2.2.1 == x277004_4)))) = true then (some true) else (if (wrap64 ((wrap64 ((wrap64 ((wrap64 (100 * (wrap64 (1 + (Go.bits .and .i64 a1 1))))) + (wrap64 (10 * (Go.bits .and .i64 (a1 / 2) 1))))) + x278003_14)) + 5)) ≥ x7_18 then (some (bt278.1 == 5 && ((bt278.2.1 == (wrap64 (1 + (Go.bits .and .i64 a1 1))) && (bt278.2.2.1 == (Go.bits .and .i64 (a1 / 2) 1))) && (bt278.2.2.2.1 == x278003_14 && (bt278.2.2.2.2.1 == true))))) else (some false))) else (if (wrap64 ((wrap64 ((wrap64 ((wrap64 (100 * (wrap64 (1 + (Go.bits .and .i64 a1 1))))) + (wrap64 (10 * (Go.bits .and .i64 (a1 / 2) 1))))) + x278003_14)) + 5)) ≥ x7_18 then (some (bt278.1 == 5 && ((bt278.2.1 == (wrap64 (1 + (Go.bits .and .i64 a1 1))) && (bt278.2.2.1 == (Go.bits .and .i64 (a1 / 2) 1))) && (bt278.2.2.2.1 == x278003_14 && (bt278.2.2.2.2.1 == true))))) else (some false))) else (some false)))) = some true := by rw [if_pos rfl] at H; exact H
                  clear H
                  have H := H1
                  clear H1
                  replace H := Option.bind_eq_some_iff.mp H
                  obtain ⟨⟨t278, t279, t280, t281, t282, t283⟩, A250, H⟩ := H
                  replace H : ((gimmallaw0_Num.f t283).bind fun t285 => (if t285 = 0 then (if x7_18 ≥ (wrap64 ((wrap64 ((wrap64 ((wrap64 (100 * (wrap64 (1 + (Go.bits .and .i64 a1 1))))) + (wrap64 (10 * (Go.bits .and .i64 (a1 / 2) 1))))) + x278003_14)) + 5)) then (if (t278 == 5 && ((t279 == (wrap64 (1 + (Go.bits .and .i64 a0 1))) && (t280 == (Go.bits .and .i64 (a0 / 2) 1))) && (t281 == x277003_4 && (t282 == x277004_4)))) = true then (some true) else (if (wrap64 ((wrap64 ((wrap64 ((wrap64 (100 * (wrap64 (1 + (Go.bits .and .i64 a1 1))))) + (wrap64 (10 * (Go.bits .and .i64 (a1 / 2) 1))))) + x278003_14)) + 5)) ≥ x7_18 then (some (t278 == 5 && ((t279 == (wrap64 (1 + (Go.bits .and .i64 a1 1))) && (t280 == (Go.bits .and .i64 (a1 / 2) 1))) && (t281 == x278003_14 && (t282 == true))))) else (some false))) else (if (wrap64 ((wrap64 ((wrap64 ((wrap64 (100 * (wrap64 (1 + (Go.bits .and .i64 a1 1))))) + (wrap64 (10 * (Go.bits .and .i64 (a1 / 2) 1))))) + x278003_14)) + 5)) ≥ x7_18 then (some (t278 == 5 && ((t279 == (wrap64 (1 + (Go.bits .and .i64 a1 1))) && (t280 == (Go.bits .and .i64 (a1 / 2) 1))) && (t281 == x278003_14 && (t282 == true))))) else (some false))) else (some false))) = some true := H
                  have A25 := Aside0.mk A250
                  clear A250
                  replace H := Option.bind_eq_some_iff.mp H
                  obtain ⟨t285, A260, H⟩ := H
                  replace H : (if t285 = 0 then (if x7_18 ≥ (wrap64 ((wrap64 ((wrap64 ((wrap64 (100 * (wrap64 (1 + (Go.bits .and .i64 a1 1))))) + (wrap64 (10 * (Go.bits .and .i64 (a1 / 2) 1))))) + x278003_14)) + 5)) then (if (t278 == 5 && ((t279 == (wrap64 (1 + (Go.bits .and .i64 a0 1))) && (t280 == (Go.bits .and .i64 (a0 / 2) 1))) && (t281 == x277003_4 && (t282 == x277004_4)))) = true then (some true) else (if (wrap64 ((wrap64 ((wrap64 ((wrap64 (100 * (wrap64 (1 + (Go.bits .and .i64 a1 1))))) + (wrap64 (10 * (Go.bits .and .i64 (a1 / 2) 1))))) + x278003_14)) + 5)) ≥ x7_18 then (some (t278 == 5 && ((t279 == (wrap64 (1 + (Go.bits .and .i64 a1 1))) && (t280 == (Go.bits .and .i64 (a1 / 2) 1))) && (t281 == x278003_14 && (t282 == true))))) else (some false))) else (if (wrap64 ((wrap64 ((wrap64 ((wrap64 (100 * (wrap64 (1 + (Go.bits .and .i64 a1 1))))) + (wrap64 (10 * (Go.bits .and .i64 (a1 / 2) 1))))) + x278003_14)) + 5)) ≥ x7_18 then (some (t278 == 5 && ((t279 == (wrap64 (1 + (Go.bits .and .i64 a1 1))) && (t280 == (Go.bits .and .i64 (a1 / 2) 1))) && (t281 == x278003_14 && (t282 == true))))) else (some false))) else (some false)) = some true := H
                  have A26 := Aside0.mk A260
                  clear A260
                  by_cases c27 : t285 = 0
                  · rw [if_pos c27] at H
                    have c27b0 : (t285 == 0) = true := beq_iff_eq.mpr c27
                    have c27b1 : (t285 != 0) = false := bne_eq_false_iff_eq.mpr c27
                    clear c27
                    by_cases c28 : x7_18 ≥ (wrap64 ((wrap64 ((wrap64 ((wrap64 (100 * (wrap64 (1 + (Go.bits .and .i64 a1 1))))) + (wrap64 (10 * (Go.bits .and .i64 (a1 / 2) 1))))) + x278003_14)) + 5))
                    · rw [if_pos c28] at H
                      have c28b0 : decide ((wrap64 ((wrap64 ((wrap64 ((wrap64 (100 * (wrap64 (1 + (Go.bits .and .i64 a1 1))))) + (wrap64 (10 * (Go.bits .and .i64 (a1 / 2) 1))))) + x278003_14)) + 5)) ≤ x7_18) = true := decide_eq_true c28
                      clear c28
                      by_cases c29 : (t278 == 5 && ((t279 == (wrap64 (1 + (Go.bits .and .i64 a0 1))) && (t280 == (Go.bits .and .i64 (a0 / 2) 1))) && (t281 == x277003_4 && (t282 == x277004_4)))) = true
                      · rw [if_pos c29] at H
                        have c29b0 : (t278 == 5 && ((t279 == (wrap64 (1 + (Go.bits .and .i64 a0 1))) && (t280 == (Go.bits .and .i64 (a0 / 2) 1))) && (t281 == x277003_4 && (t282 == x277004_4)))) = true := c29
                        (try (have c29b1 : decide (t278 = 5 && ((t279 == (wrap64 (1 + (Go.bits .and .i64 a0 1))) && (t280 == (Go.bits .and .i64 (a0 / 2) 1))) && (t281 == x277003_4 && (t282 == x277004_4)))) = true := by simpa using c29))
                        (try (have c29b2 : (t278 == 5 && ((t279 == (wrap64 (1 + (Go.bits .and .i64 a0 1))) && (t280 == (Go.bits .and .i64 (a0 / 2) 1))) && (t281 == x277003_4 && (t282 == x277004_4)))) = true := by simpa using c29))
                        clear c29
                        have HR := Aside0.mk (Option.some.inj H)
                        clear H
                        have hnb30 := NB277_276.out
                        have hnc30 := NB276_277.out
                        have hcz31_0 : wc.cell? ⟨gb277, 0, none⟩ = some (.int .i64 5) := (blk_cell BK277.out 0).trans rfl
                        have hcz31_1 : wc.cell? ⟨gb277, 1, none⟩ = some (.int .i64 (wrap64 (1 + (Go.bits .and .i64 a1 1)))) := (blk_cell BK277.out 1).trans rfl
                        have hcz31_2 : wc.cell? ⟨gb277, 2, none⟩ = some (.int .i64 (Go.bits .and .i64 (a1 / 2) 1)) := (blk_cell BK277.out 2).trans rfl
                        have hcz31_3 : wc.cell? ⟨gb277, 3, none⟩ = some (.int .i64 x278003_14) := (blk_cell BK277.out 3).trans rfl
                        have hcz31_4 : wc.cell? ⟨gb277, 4, none⟩ = some (.bool true) := (blk_cell BK277.out 4).trans rfl
                        have hfz31_0 := blk_frozen BK277.out 0
                        have hfz31_1 := blk_frozen BK277.out 1
                        have hfz31_2 := blk_frozen BK277.out 2
                        have hfz31_3 := blk_frozen BK277.out 3
                        have hfz31_4 := blk_frozen BK277.out 4
                        have hcz32_0 : wc.cell? ⟨gb276, 0, none⟩ = some (.int .i64 5) := (blk_cell BK276.out 0).trans rfl
                        have hcz32_1 : wc.cell? ⟨gb276, 1, none⟩ = some (.int .i64 (wrap64 (1 + (Go.bits .and .i64 a0 1)))) := (blk_cell BK276.out 1).trans rfl
                        have hcz32_2 : wc.cell? ⟨gb276, 2, none⟩ = some (.int .i64 (Go.bits .and .i64 (a0 / 2) 1)) := (blk_cell BK276.out 2).trans rfl
                        have hcz32_3 : wc.cell? ⟨gb276, 3, none⟩ = some (.int .i64 x277003_4) := (blk_cell BK276.out 3).trans rfl
                        have hcz32_4 : wc.cell? ⟨gb276, 4, none⟩ = some (.bool x277004_4) := (blk_cell BK276.out 4).trans rfl
                        have hfz32_0 := blk_frozen BK276.out 0
                        have hfz32_1 := blk_frozen BK276.out 1
                        have hfz32_2 := blk_frozen BK276.out 2
                        have hfz32_3 := blk_frozen BK276.out 3
                        have hfz32_4 := blk_frozen BK276.out 4
                        go_wp2_with (first | ((with_reducible refine gate_callee (f := 13) rfl ?_); refine goesL_ (some 82) rfl rfl Try.func13 (by kernel_rfl) rfl #[.agg #[.int .i64 5, .int .i64 (wrap64 (1 + (Go.bits .and .i64 a0 1))), .int .i64 (Go.bits .and .i64 (a0 / 2) 1), .int .i64 x277003_4, .bool x277004_4], .agg #[.int .i64 5, .int .i64 (wrap64 (1 + (Go.bits .and .i64 a1 1))), .int .i64 (Go.bits .and .i64 (a1 / 2) 1), .int .i64 x278003_14, .bool true]] rfl (by (try simp only [List.map_toArray, List.map_cons, List.map_nil]); first | done | rfl | (simp only [List.length_drop, List.length_take]; rfl)) ?_; (with_reducible refine (item_Best.calls kj18 5 (wrap64 (1 + (Go.bits .and .i64 a0 1))) (Go.bits .and .i64 (a0 / 2) 1) x277003_4 x277004_4 5 (wrap64 (1 + (Go.bits .and .i64 a1 1))) (Go.bits .and .i64 (a1 / 2) 1) x278003_14 true t278 t279 t280 t281 t282 t283 _ A25.out).mono ?_); rintro e w33 ⟨rfl, hb⟩; refine ⟨_, rfl, ?_⟩; have n0_ := Aside0.mk (blk_below (g := gb276) (o := .cells #[.int .i64 5, .int .i64 (wrap64 (1 + (Go.bits .and .i64 a0 1))), .int .i64 (Go.bits .and .i64 (a0 / 2) 1), .int .i64 x277003_4, .bool x277004_4] 25 (0, 0)) (by (with_reducible repeat (first | refine blk_drewN ?_ _ | refine blk_drew ?_ | refine blk_alloc ?_ _)); exact BK276.out) hb); have n1_ := Aside0.mk (blk_below (g := gb277) (o := .cells #[.int .i64 5, .int .i64 (wrap64 (1 + (Go.bits .and .i64 a1 1))), .int .i64 (Go.bits .and .i64 (a1 / 2) 1), .int .i64 x278003_14, .bool true] 25 (0, 0)) (by (with_reducible repeat (first | refine blk_drewN ?_ _ | refine blk_drew ?_ | refine blk_alloc ?_ _)); exact BK277.out) hb); have n2_ := Aside0.mk (below_step (by repeat (first | (with_reducible first | exact HB.out | apply below_alloc | apply pw_below_drewN | apply below_drew1 | refine below_set ?_ GE276.out | refine below_set ?_ GE277.out) | exact HB.out)) hb); clear BK276; clear BK277; clear HB; have BK276 := n0_; have BK277 := n1_; have HB := n2_; clear n0_ n1_ n2_; (try clear hb); (try clear hb2); (try clear hk); (try clear hi)) | ((with_reducible refine gate_dst (N := 9) rfl ?_); refine box_event ?hg (N := 9) ?hd (cs := #[.int .i64 0, .int .i64 0, .int .i64 0, .int .i64 0, .bool false]) (t := 25) ?hr ?_; (case hd => rfl); (case hg => rfl); (case hr => first | (go_simp; done) | (go_simp; rfl)); intro gb284 hg w34 hbox hb; have n0_ := Aside0.mk (blk_below (g := gb276) (o := .cells #[.int .i64 5, .int .i64 (wrap64 (1 + (Go.bits .and .i64 a0 1))), .int .i64 (Go.bits .and .i64 (a0 / 2) 1), .int .i64 x277003_4, .bool x277004_4] 25 (0, 0)) (by (with_reducible repeat (first | refine blk_drewN ?_ _ | refine blk_drew ?_ | refine blk_alloc ?_ _)); exact BK276.out) hb); have n1_ := Aside0.mk (blk_below (g := gb277) (o := .cells #[.int .i64 5, .int .i64 (wrap64 (1 + (Go.bits .and .i64 a1 1))), .int .i64 (Go.bits .and .i64 (a1 / 2) 1), .int .i64 x278003_14, .bool true] 25 (0, 0)) (by (with_reducible repeat (first | refine blk_drewN ?_ _ | refine blk_drew ?_ | refine blk_alloc ?_ _)); exact BK277.out) hb); have n2_ := Aside0.mk (below_step (by repeat (first | (with_reducible first | exact HB.out | apply below_alloc | apply pw_below_drewN | apply below_drew1 | refine below_set ?_ GE276.out | refine below_set ?_ GE277.out) | exact HB.out)) hb); have n3_ := Aside0.mk (hbox); have n4_ := Aside0.mk ((by rw [hg]; exact (below_size (by repeat (first | (with_reducible first | exact HB.out | apply below_alloc | apply pw_below_drewN | apply below_drew1 | refine below_set ?_ GE276.out | refine below_set ?_ GE277.out) | exact HB.out))) : w.heap.size ≤ gb284)); have n5_ := Aside0.mk ((by rw [hg]; exact (below_size (by repeat (first | (with_reducible first | exact HB.out | apply below_alloc | apply pw_below_drewN | apply below_drew1 | refine below_set ?_ GE276.out | refine below_set ?_ GE277.out) | exact HB.out))) : w.heap.size ≤ gb284)); have n6_ := Aside0.mk ((by rw [hg]; exact Nat.ne_of_lt (blk_lt (g := gb276) (o := .cells #[.int .i64 5, .int .i64 (wrap64 (1 + (Go.bits .and .i64 a0 1))), .int .i64 (Go.bits .and .i64 (a0 / 2) 1), .int .i64 x277003_4, .bool x277004_4] 25 (0, 0)) (by (with_reducible repeat (first | refine blk_drewN ?_ _ | refine blk_drew ?_ | refine blk_alloc ?_ _)); exact BK276.out)) : gb276 ≠ gb284)); have n7_ := Aside0.mk ((by rw [hg]; exact Nat.ne_of_gt (blk_lt (g := gb276) (o := .cells #[.int .i64 5, .int .i64 (wrap64 (1 + (Go.bits .and .i64 a0 1))), .int .i64 (Go.bits .and .i64 (a0 / 2) 1), .int .i64 x277003_4, .bool x277004_4] 25 (0, 0)) (by (with_reducible repeat (first | refine blk_drewN ?_ _ | refine blk_drew ?_ | refine blk_alloc ?_ _)); exact BK276.out)) : gb284 ≠ gb276)); have n8_ := Aside0.mk ((by rw [hg]; exact Nat.ne_of_lt (blk_lt (g := gb277) (o := .cells #[.int .i64 5, .int .i64 (wrap64 (1 + (Go.bits .and .i64 a1 1))), .int .i64 (Go.bits .and .i64 (a1 / 2) 1), .int .i64 x278003_14, .bool true] 25 (0, 0)) (by (with_reducible repeat (first | refine blk_drewN ?_ _ | refine blk_drew ?_ | refine blk_alloc ?_ _)); exact BK277.out)) : gb277 ≠ gb284)); have n9_ := Aside0.mk ((by rw [hg]; exact Nat.ne_of_gt (blk_lt (g := gb277) (o := .cells #[.int .i64 5, .int .i64 (wrap64 (1 + (Go.bits .and .i64 a1 1))), .int .i64 (Go.bits .and .i64 (a1 / 2) 1), .int .i64 x278003_14, .bool true] 25 (0, 0)) (by (with_reducible repeat (first | refine blk_drewN ?_ _ | refine blk_drew ?_ | refine blk_alloc ?_ _)); exact BK277.out)) : gb284 ≠ gb277)); clear BK276; clear BK277; clear HB; have BK276 := n0_; have BK277 := n1_; have HB := n2_; have BK284 := n3_; have GW284 := n4_; have GE284 := n5_; have NB276_284 := n6_; have NB284_276 := n7_; have NB277_284 := n8_; have NB284_277 := n9_; clear n0_ n1_ n2_ n3_ n4_ n5_ n6_ n7_ n8_ n9_; clear hb hbox hg; have hnb35 := NB284_276.out; have hnc35 := NB276_284.out; have hnb36 := NB284_277.out; have hnc36 := NB277_284.out; have hcz37_0 : w34.cell? ⟨gb284, 0, none⟩ = some (.int .i64 0) := (blk_cell BK284.out 0).trans rfl; have hcz37_1 : w34.cell? ⟨gb284, 1, none⟩ = some (.int .i64 0) := (blk_cell BK284.out 1).trans rfl; have hcz37_2 : w34.cell? ⟨gb284, 2, none⟩ = some (.int .i64 0) := (blk_cell BK284.out 2).trans rfl; have hcz37_3 : w34.cell? ⟨gb284, 3, none⟩ = some (.int .i64 0) := (blk_cell BK284.out 3).trans rfl; have hcz37_4 : w34.cell? ⟨gb284, 4, none⟩ = some (.bool false) := (blk_cell BK284.out 4).trans rfl; have hfz37_0 := blk_frozen BK284.out 0; have hfz37_1 := blk_frozen BK284.out 1; have hfz37_2 := blk_frozen BK284.out 2; have hfz37_3 := blk_frozen BK284.out 3; have hfz37_4 := blk_frozen BK284.out 4) | ((with_reducible refine gate_callee (f := 15) rfl ?_); refine goesL_ (some 86) rfl rfl Try.func15 (by kernel_rfl) rfl #[.int .i64 t283] rfl (by (try simp only [List.map_toArray, List.map_cons, List.map_nil]); first | done | rfl | (simp only [List.length_drop, List.length_take]; rfl)) ?_; (with_reducible refine (gimmallaw0_Num.calls t283 t285 _ A26.out).mono ?_); rintro e w' ⟨rfl, ⟨nd, rfl⟩⟩; refine ⟨_, rfl, ?_⟩; have hcz38_0 : w34.cell? ⟨gb276, 0, none⟩ = some (.int .i64 5) := (blk_cell BK276.out 0).trans rfl; have hcz38_1 : w34.cell? ⟨gb276, 1, none⟩ = some (.int .i64 (wrap64 (1 + (Go.bits .and .i64 a0 1)))) := (blk_cell BK276.out 1).trans rfl; have hcz38_2 : w34.cell? ⟨gb276, 2, none⟩ = some (.int .i64 (Go.bits .and .i64 (a0 / 2) 1)) := (blk_cell BK276.out 2).trans rfl; have hcz38_3 : w34.cell? ⟨gb276, 3, none⟩ = some (.int .i64 x277003_4) := (blk_cell BK276.out 3).trans rfl; have hcz38_4 : w34.cell? ⟨gb276, 4, none⟩ = some (.bool x277004_4) := (blk_cell BK276.out 4).trans rfl; have hfz38_0 := blk_frozen BK276.out 0; have hfz38_1 := blk_frozen BK276.out 1; have hfz38_2 := blk_frozen BK276.out 2; have hfz38_3 := blk_frozen BK276.out 3; have hfz38_4 := blk_frozen BK276.out 4))
                        go_ret
                        exact ⟨by first | exact (congrArg (fun b => Ending.returned (Value.bool b)) HR.out) | (have HRS := HR.out; simp at HRS; simp [HRS]; done) | rfl | (simp [errW_none, errW_some] <;> rfl) | (simp [*, errW_none, errW_some] <;> rfl), by repeat (first | (with_reducible first | exact HB.out | apply below_alloc | apply pw_below_drewN | apply below_drew1 | refine below_set ?_ GE276.out | refine below_set ?_ GE277.out | refine below_set ?_ GE284.out) | exact HB.out)⟩
                      · rw [if_neg c29] at H
                        have c29b0 : (t278 == 5 && ((t279 == (wrap64 (1 + (Go.bits .and .i64 a0 1))) && (t280 == (Go.bits .and .i64 (a0 / 2) 1))) && (t281 == x277003_4 && (t282 == x277004_4)))) = false := by simpa using c29
                        (try (have c29b1 : decide (t278 = 5 && ((t279 == (wrap64 (1 + (Go.bits .and .i64 a0 1))) && (t280 == (Go.bits .and .i64 (a0 / 2) 1))) && (t281 == x277003_4 && (t282 == x277004_4)))) = false := by simpa using c29))
                        (try (have c29b2 : (t278 == 5 && ((t279 == (wrap64 (1 + (Go.bits .and .i64 a0 1))) && (t280 == (Go.bits .and .i64 (a0 / 2) 1))) && (t281 == x277003_4 && (t282 == x277004_4)))) = false := by simpa using c29))
                        (try (have c29b3 : ¬ (t278 = 5 && ((t279 == (wrap64 (1 + (Go.bits .and .i64 a0 1))) && (t280 == (Go.bits .and .i64 (a0 / 2) 1))) && (t281 == x277003_4 && (t282 == x277004_4)))) := by simpa using c29))
                        clear c29
                        by_cases c39 : (wrap64 ((wrap64 ((wrap64 ((wrap64 (100 * (wrap64 (1 + (Go.bits .and .i64 a1 1))))) + (wrap64 (10 * (Go.bits .and .i64 (a1 / 2) 1))))) + x278003_14)) + 5)) ≥ x7_18
                        · rw [if_pos c39] at H
                          have c39b0 : decide (x7_18 ≤ (wrap64 ((wrap64 ((wrap64 ((wrap64 (100 * (wrap64 (1 + (Go.bits .and .i64 a1 1))))) + (wrap64 (10 * (Go.bits .and .i64 (a1 / 2) 1))))) + x278003_14)) + 5))) = true := decide_eq_true c39
                          clear c39
                          have HR := Aside0.mk (Option.some.inj H)
                          clear H
                          have hnb40 := NB277_276.out
                          have hnc40 := NB276_277.out
                          have hcz41_0 : wc.cell? ⟨gb277, 0, none⟩ = some (.int .i64 5) := (blk_cell BK277.out 0).trans rfl
                          have hcz41_1 : wc.cell? ⟨gb277, 1, none⟩ = some (.int .i64 (wrap64 (1 + (Go.bits .and .i64 a1 1)))) := (blk_cell BK277.out 1).trans rfl
                          have hcz41_2 : wc.cell? ⟨gb277, 2, none⟩ = some (.int .i64 (Go.bits .and .i64 (a1 / 2) 1)) := (blk_cell BK277.out 2).trans rfl
                          have hcz41_3 : wc.cell? ⟨gb277, 3, none⟩ = some (.int .i64 x278003_14) := (blk_cell BK277.out 3).trans rfl
                          have hcz41_4 : wc.cell? ⟨gb277, 4, none⟩ = some (.bool true) := (blk_cell BK277.out 4).trans rfl
                          have hfz41_0 := blk_frozen BK277.out 0
                          have hfz41_1 := blk_frozen BK277.out 1
                          have hfz41_2 := blk_frozen BK277.out 2
                          have hfz41_3 := blk_frozen BK277.out 3
                          have hfz41_4 := blk_frozen BK277.out 4
                          have hcz42_0 : wc.cell? ⟨gb276, 0, none⟩ = some (.int .i64 5) := (blk_cell BK276.out 0).trans rfl
                          have hcz42_1 : wc.cell? ⟨gb276, 1, none⟩ = some (.int .i64 (wrap64 (1 + (Go.bits .and .i64 a0 1)))) := (blk_cell BK276.out 1).trans rfl
                          have hcz42_2 : wc.cell? ⟨gb276, 2, none⟩ = some (.int .i64 (Go.bits .and .i64 (a0 / 2) 1)) := (blk_cell BK276.out 2).trans rfl
                          have hcz42_3 : wc.cell? ⟨gb276, 3, none⟩ = some (.int .i64 x277003_4) := (blk_cell BK276.out 3).trans rfl
                          have hcz42_4 : wc.cell? ⟨gb276, 4, none⟩ = some (.bool x277004_4) := (blk_cell BK276.out 4).trans rfl
                          have hfz42_0 := blk_frozen BK276.out 0
                          have hfz42_1 := blk_frozen BK276.out 1
                          have hfz42_2 := blk_frozen BK276.out 2
                          have hfz42_3 := blk_frozen BK276.out 3
                          have hfz42_4 := blk_frozen BK276.out 4
                          go_wp2_with (first | ((with_reducible refine gate_callee (f := 13) rfl ?_); refine goesL_ (some 82) rfl rfl Try.func13 (by kernel_rfl) rfl #[.agg #[.int .i64 5, .int .i64 (wrap64 (1 + (Go.bits .and .i64 a0 1))), .int .i64 (Go.bits .and .i64 (a0 / 2) 1), .int .i64 x277003_4, .bool x277004_4], .agg #[.int .i64 5, .int .i64 (wrap64 (1 + (Go.bits .and .i64 a1 1))), .int .i64 (Go.bits .and .i64 (a1 / 2) 1), .int .i64 x278003_14, .bool true]] rfl (by (try simp only [List.map_toArray, List.map_cons, List.map_nil]); first | done | rfl | (simp only [List.length_drop, List.length_take]; rfl)) ?_; (with_reducible refine (item_Best.calls kj18 5 (wrap64 (1 + (Go.bits .and .i64 a0 1))) (Go.bits .and .i64 (a0 / 2) 1) x277003_4 x277004_4 5 (wrap64 (1 + (Go.bits .and .i64 a1 1))) (Go.bits .and .i64 (a1 / 2) 1) x278003_14 true t278 t279 t280 t281 t282 t283 _ A25.out).mono ?_); rintro e w43 ⟨rfl, hb⟩; refine ⟨_, rfl, ?_⟩; have n0_ := Aside0.mk (blk_below (g := gb276) (o := .cells #[.int .i64 5, .int .i64 (wrap64 (1 + (Go.bits .and .i64 a0 1))), .int .i64 (Go.bits .and .i64 (a0 / 2) 1), .int .i64 x277003_4, .bool x277004_4] 25 (0, 0)) (by (with_reducible repeat (first | refine blk_drewN ?_ _ | refine blk_drew ?_ | refine blk_alloc ?_ _)); exact BK276.out) hb); have n1_ := Aside0.mk (blk_below (g := gb277) (o := .cells #[.int .i64 5, .int .i64 (wrap64 (1 + (Go.bits .and .i64 a1 1))), .int .i64 (Go.bits .and .i64 (a1 / 2) 1), .int .i64 x278003_14, .bool true] 25 (0, 0)) (by (with_reducible repeat (first | refine blk_drewN ?_ _ | refine blk_drew ?_ | refine blk_alloc ?_ _)); exact BK277.out) hb); have n2_ := Aside0.mk (below_step (by repeat (first | (with_reducible first | exact HB.out | apply below_alloc | apply pw_below_drewN | apply below_drew1 | refine below_set ?_ GE276.out | refine below_set ?_ GE277.out) | exact HB.out)) hb); clear BK276; clear BK277; clear HB; have BK276 := n0_; have BK277 := n1_; have HB := n2_; clear n0_ n1_ n2_; (try clear hb); (try clear hb2); (try clear hk); (try clear hi)) | ((with_reducible refine gate_dst (N := 9) rfl ?_); refine box_event ?hg (N := 9) ?hd (cs := #[.int .i64 0, .int .i64 0, .int .i64 0, .int .i64 0, .bool false]) (t := 25) ?hr ?_; (case hd => rfl); (case hg => rfl); (case hr => first | (go_simp; done) | (go_simp; rfl)); intro gb284 hg w44 hbox hb; have n0_ := Aside0.mk (blk_below (g := gb276) (o := .cells #[.int .i64 5, .int .i64 (wrap64 (1 + (Go.bits .and .i64 a0 1))), .int .i64 (Go.bits .and .i64 (a0 / 2) 1), .int .i64 x277003_4, .bool x277004_4] 25 (0, 0)) (by (with_reducible repeat (first | refine blk_drewN ?_ _ | refine blk_drew ?_ | refine blk_alloc ?_ _)); exact BK276.out) hb); have n1_ := Aside0.mk (blk_below (g := gb277) (o := .cells #[.int .i64 5, .int .i64 (wrap64 (1 + (Go.bits .and .i64 a1 1))), .int .i64 (Go.bits .and .i64 (a1 / 2) 1), .int .i64 x278003_14, .bool true] 25 (0, 0)) (by (with_reducible repeat (first | refine blk_drewN ?_ _ | refine blk_drew ?_ | refine blk_alloc ?_ _)); exact BK277.out) hb); have n2_ := Aside0.mk (below_step (by repeat (first | (with_reducible first | exact HB.out | apply below_alloc | apply pw_below_drewN | apply below_drew1 | refine below_set ?_ GE276.out | refine below_set ?_ GE277.out) | exact HB.out)) hb); have n3_ := Aside0.mk (hbox); have n4_ := Aside0.mk ((by rw [hg]; exact (below_size (by repeat (first | (with_reducible first | exact HB.out | apply below_alloc | apply pw_below_drewN | apply below_drew1 | refine below_set ?_ GE276.out | refine below_set ?_ GE277.out) | exact HB.out))) : w.heap.size ≤ gb284)); have n5_ := Aside0.mk ((by rw [hg]; exact (below_size (by repeat (first | (with_reducible first | exact HB.out | apply below_alloc | apply pw_below_drewN | apply below_drew1 | refine below_set ?_ GE276.out | refine below_set ?_ GE277.out) | exact HB.out))) : w.heap.size ≤ gb284)); have n6_ := Aside0.mk ((by rw [hg]; exact Nat.ne_of_lt (blk_lt (g := gb276) (o := .cells #[.int .i64 5, .int .i64 (wrap64 (1 + (Go.bits .and .i64 a0 1))), .int .i64 (Go.bits .and .i64 (a0 / 2) 1), .int .i64 x277003_4, .bool x277004_4] 25 (0, 0)) (by (with_reducible repeat (first | refine blk_drewN ?_ _ | refine blk_drew ?_ | refine blk_alloc ?_ _)); exact BK276.out)) : gb276 ≠ gb284)); have n7_ := Aside0.mk ((by rw [hg]; exact Nat.ne_of_gt (blk_lt (g := gb276) (o := .cells #[.int .i64 5, .int .i64 (wrap64 (1 + (Go.bits .and .i64 a0 1))), .int .i64 (Go.bits .and .i64 (a0 / 2) 1), .int .i64 x277003_4, .bool x277004_4] 25 (0, 0)) (by (with_reducible repeat (first | refine blk_drewN ?_ _ | refine blk_drew ?_ | refine blk_alloc ?_ _)); exact BK276.out)) : gb284 ≠ gb276)); have n8_ := Aside0.mk ((by rw [hg]; exact Nat.ne_of_lt (blk_lt (g := gb277) (o := .cells #[.int .i64 5, .int .i64 (wrap64 (1 + (Go.bits .and .i64 a1 1))), .int .i64 (Go.bits .and .i64 (a1 / 2) 1), .int .i64 x278003_14, .bool true] 25 (0, 0)) (by (with_reducible repeat (first | refine blk_drewN ?_ _ | refine blk_drew ?_ | refine blk_alloc ?_ _)); exact BK277.out)) : gb277 ≠ gb284)); have n9_ := Aside0.mk ((by rw [hg]; exact Nat.ne_of_gt (blk_lt (g := gb277) (o := .cells #[.int .i64 5, .int .i64 (wrap64 (1 + (Go.bits .and .i64 a1 1))), .int .i64 (Go.bits .and .i64 (a1 / 2) 1), .int .i64 x278003_14, .bool true] 25 (0, 0)) (by (with_reducible repeat (first | refine blk_drewN ?_ _ | refine blk_drew ?_ | refine blk_alloc ?_ _)); exact BK277.out)) : gb284 ≠ gb277)); clear BK276; clear BK277; clear HB; have BK276 := n0_; have BK277 := n1_; have HB := n2_; have BK284 := n3_; have GW284 := n4_; have GE284 := n5_; have NB276_284 := n6_; have NB284_276 := n7_; have NB277_284 := n8_; have NB284_277 := n9_; clear n0_ n1_ n2_ n3_ n4_ n5_ n6_ n7_ n8_ n9_; clear hb hbox hg; have hnb45 := NB284_276.out; have hnc45 := NB276_284.out; have hnb46 := NB284_277.out; have hnc46 := NB277_284.out; have hcz47_0 : w44.cell? ⟨gb284, 0, none⟩ = some (.int .i64 0) := (blk_cell BK284.out 0).trans rfl; have hcz47_1 : w44.cell? ⟨gb284, 1, none⟩ = some (.int .i64 0) := (blk_cell BK284.out 1).trans rfl; have hcz47_2 : w44.cell? ⟨gb284, 2, none⟩ = some (.int .i64 0) := (blk_cell BK284.out 2).trans rfl; have hcz47_3 : w44.cell? ⟨gb284, 3, none⟩ = some (.int .i64 0) := (blk_cell BK284.out 3).trans rfl; have hcz47_4 : w44.cell? ⟨gb284, 4, none⟩ = some (.bool false) := (blk_cell BK284.out 4).trans rfl; have hfz47_0 := blk_frozen BK284.out 0; have hfz47_1 := blk_frozen BK284.out 1; have hfz47_2 := blk_frozen BK284.out 2; have hfz47_3 := blk_frozen BK284.out 3; have hfz47_4 := blk_frozen BK284.out 4) | ((with_reducible refine gate_callee (f := 15) rfl ?_); refine goesL_ (some 86) rfl rfl Try.func15 (by kernel_rfl) rfl #[.int .i64 t283] rfl (by (try simp only [List.map_toArray, List.map_cons, List.map_nil]); first | done | rfl | (simp only [List.length_drop, List.length_take]; rfl)) ?_; (with_reducible refine (gimmallaw0_Num.calls t283 t285 _ A26.out).mono ?_); rintro e w' ⟨rfl, ⟨nd, rfl⟩⟩; refine ⟨_, rfl, ?_⟩; have hcz48_0 : w44.cell? ⟨gb276, 0, none⟩ = some (.int .i64 5) := (blk_cell BK276.out 0).trans rfl; have hcz48_1 : w44.cell? ⟨gb276, 1, none⟩ = some (.int .i64 (wrap64 (1 + (Go.bits .and .i64 a0 1)))) := (blk_cell BK276.out 1).trans rfl; have hcz48_2 : w44.cell? ⟨gb276, 2, none⟩ = some (.int .i64 (Go.bits .and .i64 (a0 / 2) 1)) := (blk_cell BK276.out 2).trans rfl; have hcz48_3 : w44.cell? ⟨gb276, 3, none⟩ = some (.int .i64 x277003_4) := (blk_cell BK276.out 3).trans rfl; have hcz48_4 : w44.cell? ⟨gb276, 4, none⟩ = some (.bool x277004_4) := (blk_cell BK276.out 4).trans rfl; have hfz48_0 := blk_frozen BK276.out 0; have hfz48_1 := blk_frozen BK276.out 1; have hfz48_2 := blk_frozen BK276.out 2; have hfz48_3 := blk_frozen BK276.out 3; have hfz48_4 := blk_frozen BK276.out 4; have hcz49_0 : w44.cell? ⟨gb277, 0, none⟩ = some (.int .i64 5) := (blk_cell BK277.out 0).trans rfl; have hcz49_1 : w44.cell? ⟨gb277, 1, none⟩ = some (.int .i64 (wrap64 (1 + (Go.bits .and .i64 a1 1)))) := (blk_cell BK277.out 1).trans rfl; have hcz49_2 : w44.cell? ⟨gb277, 2, none⟩ = some (.int .i64 (Go.bits .and .i64 (a1 / 2) 1)) := (blk_cell BK277.out 2).trans rfl; have hcz49_3 : w44.cell? ⟨gb277, 3, none⟩ = some (.int .i64 x278003_14) := (blk_cell BK277.out 3).trans rfl; have hcz49_4 : w44.cell? ⟨gb277, 4, none⟩ = some (.bool true) := (blk_cell BK277.out 4).trans rfl; have hfz49_0 := blk_frozen BK277.out 0; have hfz49_1 := blk_frozen BK277.out 1; have hfz49_2 := blk_frozen BK277.out 2; have hfz49_3 := blk_frozen BK277.out 3; have hfz49_4 := blk_frozen BK277.out 4))
                          go_ret
                          exact ⟨by first | exact (congrArg (fun b => Ending.returned (Value.bool b)) HR.out) | (have HRS := HR.out; simp at HRS; simp [HRS]; done) | rfl | (simp [errW_none, errW_some] <;> rfl) | (simp [*, errW_none, errW_some] <;> rfl), by repeat (first | (with_reducible first | exact HB.out | apply below_alloc | apply pw_below_drewN | apply below_drew1 | refine below_set ?_ GE276.out | refine below_set ?_ GE277.out | refine below_set ?_ GE284.out) | exact HB.out)⟩
                        · rw [if_neg c39] at H
                          exact absurd (Option.some.inj H) (by decide)
                    · rw [if_neg c28] at H
                      have c28b0 : decide ((wrap64 ((wrap64 ((wrap64 ((wrap64 (100 * (wrap64 (1 + (Go.bits .and .i64 a1 1))))) + (wrap64 (10 * (Go.bits .and .i64 (a1 / 2) 1))))) + x278003_14)) + 5)) ≤ x7_18) = false := decide_eq_false c28
                      clear c28
                      by_cases c59 : (wrap64 ((wrap64 ((wrap64 ((wrap64 (100 * (wrap64 (1 + (Go.bits .and .i64 a1 1))))) + (wrap64 (10 * (Go.bits .and .i64 (a1 / 2) 1))))) + x278003_14)) + 5)) ≥ x7_18
                      · rw [if_pos c59] at H
                        have c59b0 : decide (x7_18 ≤ (wrap64 ((wrap64 ((wrap64 ((wrap64 (100 * (wrap64 (1 + (Go.bits .and .i64 a1 1))))) + (wrap64 (10 * (Go.bits .and .i64 (a1 / 2) 1))))) + x278003_14)) + 5))) = true := decide_eq_true c59
                        clear c59
                        have HR := Aside0.mk (Option.some.inj H)
                        clear H
                        have hnb60 := NB277_276.out
                        have hnc60 := NB276_277.out
                        have hcz61_0 : wc.cell? ⟨gb277, 0, none⟩ = some (.int .i64 5) := (blk_cell BK277.out 0).trans rfl
                        have hcz61_1 : wc.cell? ⟨gb277, 1, none⟩ = some (.int .i64 (wrap64 (1 + (Go.bits .and .i64 a1 1)))) := (blk_cell BK277.out 1).trans rfl
                        have hcz61_2 : wc.cell? ⟨gb277, 2, none⟩ = some (.int .i64 (Go.bits .and .i64 (a1 / 2) 1)) := (blk_cell BK277.out 2).trans rfl
                        have hcz61_3 : wc.cell? ⟨gb277, 3, none⟩ = some (.int .i64 x278003_14) := (blk_cell BK277.out 3).trans rfl
                        have hcz61_4 : wc.cell? ⟨gb277, 4, none⟩ = some (.bool true) := (blk_cell BK277.out 4).trans rfl
                        have hfz61_0 := blk_frozen BK277.out 0
                        have hfz61_1 := blk_frozen BK277.out 1
                        have hfz61_2 := blk_frozen BK277.out 2
                        have hfz61_3 := blk_frozen BK277.out 3
                        have hfz61_4 := blk_frozen BK277.out 4
                        have hcz62_0 : wc.cell? ⟨gb276, 0, none⟩ = some (.int .i64 5) := (blk_cell BK276.out 0).trans rfl
                        have hcz62_1 : wc.cell? ⟨gb276, 1, none⟩ = some (.int .i64 (wrap64 (1 + (Go.bits .and .i64 a0 1)))) := (blk_cell BK276.out 1).trans rfl
                        have hcz62_2 : wc.cell? ⟨gb276, 2, none⟩ = some (.int .i64 (Go.bits .and .i64 (a0 / 2) 1)) := (blk_cell BK276.out 2).trans rfl
                        have hcz62_3 : wc.cell? ⟨gb276, 3, none⟩ = some (.int .i64 x277003_4) := (blk_cell BK276.out 3).trans rfl
                        have hcz62_4 : wc.cell? ⟨gb276, 4, none⟩ = some (.bool x277004_4) := (blk_cell BK276.out 4).trans rfl
                        have hfz62_0 := blk_frozen BK276.out 0
                        have hfz62_1 := blk_frozen BK276.out 1
                        have hfz62_2 := blk_frozen BK276.out 2
                        have hfz62_3 := blk_frozen BK276.out 3
                        have hfz62_4 := blk_frozen BK276.out 4
                        go_wp2_with (first | ((with_reducible refine gate_callee (f := 13) rfl ?_); refine goesL_ (some 82) rfl rfl Try.func13 (by kernel_rfl) rfl #[.agg #[.int .i64 5, .int .i64 (wrap64 (1 + (Go.bits .and .i64 a0 1))), .int .i64 (Go.bits .and .i64 (a0 / 2) 1), .int .i64 x277003_4, .bool x277004_4], .agg #[.int .i64 5, .int .i64 (wrap64 (1 + (Go.bits .and .i64 a1 1))), .int .i64 (Go.bits .and .i64 (a1 / 2) 1), .int .i64 x278003_14, .bool true]] rfl (by (try simp only [List.map_toArray, List.map_cons, List.map_nil]); first | done | rfl | (simp only [List.length_drop, List.length_take]; rfl)) ?_; (with_reducible refine (item_Best.calls kj18 5 (wrap64 (1 + (Go.bits .and .i64 a0 1))) (Go.bits .and .i64 (a0 / 2) 1) x277003_4 x277004_4 5 (wrap64 (1 + (Go.bits .and .i64 a1 1))) (Go.bits .and .i64 (a1 / 2) 1) x278003_14 true t278 t279 t280 t281 t282 t283 _ A25.out).mono ?_); rintro e w63 ⟨rfl, hb⟩; refine ⟨_, rfl, ?_⟩; have n0_ := Aside0.mk (blk_below (g := gb276) (o := .cells #[.int .i64 5, .int .i64 (wrap64 (1 + (Go.bits .and .i64 a0 1))), .int .i64 (Go.bits .and .i64 (a0 / 2) 1), .int .i64 x277003_4, .bool x277004_4] 25 (0, 0)) (by (with_reducible repeat (first | refine blk_drewN ?_ _ | refine blk_drew ?_ | refine blk_alloc ?_ _)); exact BK276.out) hb); have n1_ := Aside0.mk (blk_below (g := gb277) (o := .cells #[.int .i64 5, .int .i64 (wrap64 (1 + (Go.bits .and .i64 a1 1))), .int .i64 (Go.bits .and .i64 (a1 / 2) 1), .int .i64 x278003_14, .bool true] 25 (0, 0)) (by (with_reducible repeat (first | refine blk_drewN ?_ _ | refine blk_drew ?_ | refine blk_alloc ?_ _)); exact BK277.out) hb); have n2_ := Aside0.mk (below_step (by repeat (first | (with_reducible first | exact HB.out | apply below_alloc | apply pw_below_drewN | apply below_drew1 | refine below_set ?_ GE276.out | refine below_set ?_ GE277.out) | exact HB.out)) hb); clear BK276; clear BK277; clear HB; have BK276 := n0_; have BK277 := n1_; have HB := n2_; clear n0_ n1_ n2_; (try clear hb); (try clear hb2); (try clear hk); (try clear hi)) | ((with_reducible refine gate_dst (N := 9) rfl ?_); refine box_event ?hg (N := 9) ?hd (cs := #[.int .i64 0, .int .i64 0, .int .i64 0, .int .i64 0, .bool false]) (t := 25) ?hr ?_; (case hd => rfl); (case hg => rfl); (case hr => first | (go_simp; done) | (go_simp; rfl)); intro gb284 hg w64 hbox hb; have n0_ := Aside0.mk (blk_below (g := gb276) (o := .cells #[.int .i64 5, .int .i64 (wrap64 (1 + (Go.bits .and .i64 a0 1))), .int .i64 (Go.bits .and .i64 (a0 / 2) 1), .int .i64 x277003_4, .bool x277004_4] 25 (0, 0)) (by (with_reducible repeat (first | refine blk_drewN ?_ _ | refine blk_drew ?_ | refine blk_alloc ?_ _)); exact BK276.out) hb); have n1_ := Aside0.mk (blk_below (g := gb277) (o := .cells #[.int .i64 5, .int .i64 (wrap64 (1 + (Go.bits .and .i64 a1 1))), .int .i64 (Go.bits .and .i64 (a1 / 2) 1), .int .i64 x278003_14, .bool true] 25 (0, 0)) (by (with_reducible repeat (first | refine blk_drewN ?_ _ | refine blk_drew ?_ | refine blk_alloc ?_ _)); exact BK277.out) hb); have n2_ := Aside0.mk (below_step (by repeat (first | (with_reducible first | exact HB.out | apply below_alloc | apply pw_below_drewN | apply below_drew1 | refine below_set ?_ GE276.out | refine below_set ?_ GE277.out) | exact HB.out)) hb); have n3_ := Aside0.mk (hbox); have n4_ := Aside0.mk ((by rw [hg]; exact (below_size (by repeat (first | (with_reducible first | exact HB.out | apply below_alloc | apply pw_below_drewN | apply below_drew1 | refine below_set ?_ GE276.out | refine below_set ?_ GE277.out) | exact HB.out))) : w.heap.size ≤ gb284)); have n5_ := Aside0.mk ((by rw [hg]; exact (below_size (by repeat (first | (with_reducible first | exact HB.out | apply below_alloc | apply pw_below_drewN | apply below_drew1 | refine below_set ?_ GE276.out | refine below_set ?_ GE277.out) | exact HB.out))) : w.heap.size ≤ gb284)); have n6_ := Aside0.mk ((by rw [hg]; exact Nat.ne_of_lt (blk_lt (g := gb276) (o := .cells #[.int .i64 5, .int .i64 (wrap64 (1 + (Go.bits .and .i64 a0 1))), .int .i64 (Go.bits .and .i64 (a0 / 2) 1), .int .i64 x277003_4, .bool x277004_4] 25 (0, 0)) (by (with_reducible repeat (first | refine blk_drewN ?_ _ | refine blk_drew ?_ | refine blk_alloc ?_ _)); exact BK276.out)) : gb276 ≠ gb284)); have n7_ := Aside0.mk ((by rw [hg]; exact Nat.ne_of_gt (blk_lt (g := gb276) (o := .cells #[.int .i64 5, .int .i64 (wrap64 (1 + (Go.bits .and .i64 a0 1))), .int .i64 (Go.bits .and .i64 (a0 / 2) 1), .int .i64 x277003_4, .bool x277004_4] 25 (0, 0)) (by (with_reducible repeat (first | refine blk_drewN ?_ _ | refine blk_drew ?_ | refine blk_alloc ?_ _)); exact BK276.out)) : gb284 ≠ gb276)); have n8_ := Aside0.mk ((by rw [hg]; exact Nat.ne_of_lt (blk_lt (g := gb277) (o := .cells #[.int .i64 5, .int .i64 (wrap64 (1 + (Go.bits .and .i64 a1 1))), .int .i64 (Go.bits .and .i64 (a1 / 2) 1), .int .i64 x278003_14, .bool true] 25 (0, 0)) (by (with_reducible repeat (first | refine blk_drewN ?_ _ | refine blk_drew ?_ | refine blk_alloc ?_ _)); exact BK277.out)) : gb277 ≠ gb284)); have n9_ := Aside0.mk ((by rw [hg]; exact Nat.ne_of_gt (blk_lt (g := gb277) (o := .cells #[.int .i64 5, .int .i64 (wrap64 (1 + (Go.bits .and .i64 a1 1))), .int .i64 (Go.bits .and .i64 (a1 / 2) 1), .int .i64 x278003_14, .bool true] 25 (0, 0)) (by (with_reducible repeat (first | refine blk_drewN ?_ _ | refine blk_drew ?_ | refine blk_alloc ?_ _)); exact BK277.out)) : gb284 ≠ gb277)); clear BK276; clear BK277; clear HB; have BK276 := n0_; have BK277 := n1_; have HB := n2_; have BK284 := n3_; have GW284 := n4_; have GE284 := n5_; have NB276_284 := n6_; have NB284_276 := n7_; have NB277_284 := n8_; have NB284_277 := n9_; clear n0_ n1_ n2_ n3_ n4_ n5_ n6_ n7_ n8_ n9_; clear hb hbox hg; have hnb65 := NB284_276.out; have hnc65 := NB276_284.out; have hnb66 := NB284_277.out; have hnc66 := NB277_284.out; have hcz67_0 : w64.cell? ⟨gb284, 0, none⟩ = some (.int .i64 0) := (blk_cell BK284.out 0).trans rfl; have hcz67_1 : w64.cell? ⟨gb284, 1, none⟩ = some (.int .i64 0) := (blk_cell BK284.out 1).trans rfl; have hcz67_2 : w64.cell? ⟨gb284, 2, none⟩ = some (.int .i64 0) := (blk_cell BK284.out 2).trans rfl; have hcz67_3 : w64.cell? ⟨gb284, 3, none⟩ = some (.int .i64 0) := (blk_cell BK284.out 3).trans rfl; have hcz67_4 : w64.cell? ⟨gb284, 4, none⟩ = some (.bool false) := (blk_cell BK284.out 4).trans rfl; have hfz67_0 := blk_frozen BK284.out 0; have hfz67_1 := blk_frozen BK284.out 1; have hfz67_2 := blk_frozen BK284.out 2; have hfz67_3 := blk_frozen BK284.out 3; have hfz67_4 := blk_frozen BK284.out 4) | ((with_reducible refine gate_callee (f := 15) rfl ?_); refine goesL_ (some 86) rfl rfl Try.func15 (by kernel_rfl) rfl #[.int .i64 t283] rfl (by (try simp only [List.map_toArray, List.map_cons, List.map_nil]); first | done | rfl | (simp only [List.length_drop, List.length_take]; rfl)) ?_; (with_reducible refine (gimmallaw0_Num.calls t283 t285 _ A26.out).mono ?_); rintro e w' ⟨rfl, ⟨nd, rfl⟩⟩; refine ⟨_, rfl, ?_⟩; have hcz68_0 : w64.cell? ⟨gb277, 0, none⟩ = some (.int .i64 5) := (blk_cell BK277.out 0).trans rfl; have hcz68_1 : w64.cell? ⟨gb277, 1, none⟩ = some (.int .i64 (wrap64 (1 + (Go.bits .and .i64 a1 1)))) := (blk_cell BK277.out 1).trans rfl; have hcz68_2 : w64.cell? ⟨gb277, 2, none⟩ = some (.int .i64 (Go.bits .and .i64 (a1 / 2) 1)) := (blk_cell BK277.out 2).trans rfl; have hcz68_3 : w64.cell? ⟨gb277, 3, none⟩ = some (.int .i64 x278003_14) := (blk_cell BK277.out 3).trans rfl; have hcz68_4 : w64.cell? ⟨gb277, 4, none⟩ = some (.bool true) := (blk_cell BK277.out 4).trans rfl; have hfz68_0 := blk_frozen BK277.out 0; have hfz68_1 := blk_frozen BK277.out 1; have hfz68_2 := blk_frozen BK277.out 2; have hfz68_3 := blk_frozen BK277.out 3; have hfz68_4 := blk_frozen BK277.out 4))
                        go_ret
                        exact ⟨by first | exact (congrArg (fun b => Ending.returned (Value.bool b)) HR.out) | (have HRS := HR.out; simp at HRS; simp [HRS]; done) | rfl | (simp [errW_none, errW_some] <;> rfl) | (simp [*, errW_none, errW_some] <;> rfl), by repeat (first | (with_reducible first | exact HB.out | apply below_alloc | apply pw_below_drewN | apply below_drew1 | refine below_set ?_ GE276.out | refine below_set ?_ GE277.out | refine below_set ?_ GE284.out) | exact HB.out)⟩
                      · rw [if_neg c59] at H
                        exact absurd (Option.some.inj H) (by decide)
                  · rw [if_neg c27] at H
                    exact absurd (Option.some.inj H) (by decide)
                · replace c24 := Bool.eq_false_iff.mpr c24
                  subst c24
                  have H1 : ((item_Best.f kj18 5 (wrap64 (1 + (Go.bits .and .i64 a0 1))) (Go.bits .and .i64 (a0 / 2) 1) x277003_4 x277004_4 5 (wrap64 (1 + (Go.bits .and .i64 a1 1))) (Go.bits .and .i64 (a1 / 2) 1) x278003_14 false).bind fun bt286 => ((gimmallaw0_Num.f bt286.2.2.2.2.2).bind fun t293 => (if t293 = 0 then (if x7_18 ≥ (wrap64 ((wrap64 ((wrap64 (100 * (wrap64 (1 + (Go.bits .and .i64 a1 1))))) + (wrap64 (10 * (Go.bits .and .i64 (a1 / 2) 1))))) + x278003_14)) then (if (bt286.1 == 5 && ((bt286.2.1 == (wrap64 (1 + (Go.bits .and .i64 a0 1))) && (bt286.2.2.1 == (Go.bits .and .i64 (a0 / 2) 1))) && (bt286.2.2.2.1 == x277003_4 && (bt286.2.2.2.2.1 == x277004_4)))) = true then (some true) else (if (wrap64 ((wrap64 ((wrap64 (100 * (wrap64 (1 + (Go.bits .and .i64 a1 1))))) + (wrap64 (10 * (Go.bits .and .i64 (a1 / 2) 1))))) + x278003_14)) ≥ x7_18 then (some (bt286.1 == 5 && ((bt286.2.1 == (wrap64 (1 + (Go.bits .and .i64 a1 1))) && (bt286.2.2.1 == (Go.bits .and .i64 (a1 / 2) 1))) && (bt286.2.2.2.1 == x278003_14 && (bt286.2.2.2.2.1 == false))))) else (some false))) else (if (wrap64 ((wrap64 ((wrap64 (100 * (wrap64 (1 + (Go.bits .and .i64 a1 1))))) + (wrap64 (10 * (Go.bits .and .i64 (a1 / 2) 1))))) + x278003_14)) ≥ x7_18 then (some (bt286.1 == 5 && ((bt286.2.1 == (wrap64 (1 + (Go.bits .and .i64 a1 1))) && (bt286.2.2.1 == (Go.bits .and .i64 (a1 / 2) 1))) && (bt286.2.2.2.1 == x278003_14 && (bt286.2.2.2.2.1 == false))))) else (some false))) else (some false)))) = some true := by rw [if_neg (show ¬ (false = true) by decide)] at H; exact H
                  clear H
                  have H := H1
                  clear H1
                  replace H := Option.bind_eq_some_iff.mp H
                  obtain ⟨⟨t286, t287, t288, t289, t290, t291⟩, A850, H⟩ := H
                  replace H : ((gimmallaw0_Num.f t291).bind fun t293 => (if t293 = 0 then (if x7_18 ≥ (wrap64 ((wrap64 ((wrap64 (100 * (wrap64 (1 + (Go.bits .and .i64 a1 1))))) + (wrap64 (10 * (Go.bits .and .i64 (a1 / 2) 1))))) + x278003_14)) then (if (t286 == 5 && ((t287 == (wrap64 (1 + (Go.bits .and .i64 a0 1))) && (t288 == (Go.bits .and .i64 (a0 / 2) 1))) && (t289 == x277003_4 && (t290 == x277004_4)))) = true then (some true) else (if (wrap64 ((wrap64 ((wrap64 (100 * (wrap64 (1 + (Go.bits .and .i64 a1 1))))) + (wrap64 (10 * (Go.bits .and .i64 (a1 / 2) 1))))) + x278003_14)) ≥ x7_18 then (some (t286 == 5 && ((t287 == (wrap64 (1 + (Go.bits .and .i64 a1 1))) && (t288 == (Go.bits .and .i64 (a1 / 2) 1))) && (t289 == x278003_14 && (t290 == false))))) else (some false))) else (if (wrap64 ((wrap64 ((wrap64 (100 * (wrap64 (1 + (Go.bits .and .i64 a1 1))))) + (wrap64 (10 * (Go.bits .and .i64 (a1 / 2) 1))))) + x278003_14)) ≥ x7_18 then (some (t286 == 5 && ((t287 == (wrap64 (1 + (Go.bits .and .i64 a1 1))) && (t288 == (Go.bits .and .i64 (a1 / 2) 1))) && (t289 == x278003_14 && (t290 == false))))) else (some false))) else (some false))) = some true := H
                  have A85 := Aside0.mk A850
                  clear A850
                  replace H := Option.bind_eq_some_iff.mp H
                  obtain ⟨t293, A860, H⟩ := H
                  replace H : (if t293 = 0 then (if x7_18 ≥ (wrap64 ((wrap64 ((wrap64 (100 * (wrap64 (1 + (Go.bits .and .i64 a1 1))))) + (wrap64 (10 * (Go.bits .and .i64 (a1 / 2) 1))))) + x278003_14)) then (if (t286 == 5 && ((t287 == (wrap64 (1 + (Go.bits .and .i64 a0 1))) && (t288 == (Go.bits .and .i64 (a0 / 2) 1))) && (t289 == x277003_4 && (t290 == x277004_4)))) = true then (some true) else (if (wrap64 ((wrap64 ((wrap64 (100 * (wrap64 (1 + (Go.bits .and .i64 a1 1))))) + (wrap64 (10 * (Go.bits .and .i64 (a1 / 2) 1))))) + x278003_14)) ≥ x7_18 then (some (t286 == 5 && ((t287 == (wrap64 (1 + (Go.bits .and .i64 a1 1))) && (t288 == (Go.bits .and .i64 (a1 / 2) 1))) && (t289 == x278003_14 && (t290 == false))))) else (some false))) else (if (wrap64 ((wrap64 ((wrap64 (100 * (wrap64 (1 + (Go.bits .and .i64 a1 1))))) + (wrap64 (10 * (Go.bits .and .i64 (a1 / 2) 1))))) + x278003_14)) ≥ x7_18 then (some (t286 == 5 && ((t287 == (wrap64 (1 + (Go.bits .and .i64 a1 1))) && (t288 == (Go.bits .and .i64 (a1 / 2) 1))) && (t289 == x278003_14 && (t290 == false))))) else (some false))) else (some false)) = some true := H
                  have A86 := Aside0.mk A860
                  clear A860
                  by_cases c87 : t293 = 0
                  · rw [if_pos c87] at H
                    have c87b0 : (t293 == 0) = true := beq_iff_eq.mpr c87
                    have c87b1 : (t293 != 0) = false := bne_eq_false_iff_eq.mpr c87
                    clear c87
                    by_cases c88 : x7_18 ≥ (wrap64 ((wrap64 ((wrap64 (100 * (wrap64 (1 + (Go.bits .and .i64 a1 1))))) + (wrap64 (10 * (Go.bits .and .i64 (a1 / 2) 1))))) + x278003_14))
                    · rw [if_pos c88] at H
                      have c88b0 : decide ((wrap64 ((wrap64 ((wrap64 (100 * (wrap64 (1 + (Go.bits .and .i64 a1 1))))) + (wrap64 (10 * (Go.bits .and .i64 (a1 / 2) 1))))) + x278003_14)) ≤ x7_18) = true := decide_eq_true c88
                      clear c88
                      by_cases c89 : (t286 == 5 && ((t287 == (wrap64 (1 + (Go.bits .and .i64 a0 1))) && (t288 == (Go.bits .and .i64 (a0 / 2) 1))) && (t289 == x277003_4 && (t290 == x277004_4)))) = true
                      · rw [if_pos c89] at H
                        have c89b0 : (t286 == 5 && ((t287 == (wrap64 (1 + (Go.bits .and .i64 a0 1))) && (t288 == (Go.bits .and .i64 (a0 / 2) 1))) && (t289 == x277003_4 && (t290 == x277004_4)))) = true := c89
                        (try (have c89b1 : decide (t286 = 5 && ((t287 == (wrap64 (1 + (Go.bits .and .i64 a0 1))) && (t288 == (Go.bits .and .i64 (a0 / 2) 1))) && (t289 == x277003_4 && (t290 == x277004_4)))) = true := by simpa using c89))
                        (try (have c89b2 : (t286 == 5 && ((t287 == (wrap64 (1 + (Go.bits .and .i64 a0 1))) && (t288 == (Go.bits .and .i64 (a0 / 2) 1))) && (t289 == x277003_4 && (t290 == x277004_4)))) = true := by simpa using c89))
                        clear c89
                        have HR := Aside0.mk (Option.some.inj H)
                        clear H
                        have hnb90 := NB277_276.out
                        have hnc90 := NB276_277.out
                        have hcz91_0 : wc.cell? ⟨gb277, 0, none⟩ = some (.int .i64 5) := (blk_cell BK277.out 0).trans rfl
                        have hcz91_1 : wc.cell? ⟨gb277, 1, none⟩ = some (.int .i64 (wrap64 (1 + (Go.bits .and .i64 a1 1)))) := (blk_cell BK277.out 1).trans rfl
                        have hcz91_2 : wc.cell? ⟨gb277, 2, none⟩ = some (.int .i64 (Go.bits .and .i64 (a1 / 2) 1)) := (blk_cell BK277.out 2).trans rfl
                        have hcz91_3 : wc.cell? ⟨gb277, 3, none⟩ = some (.int .i64 x278003_14) := (blk_cell BK277.out 3).trans rfl
                        have hcz91_4 : wc.cell? ⟨gb277, 4, none⟩ = some (.bool false) := (blk_cell BK277.out 4).trans rfl
                        have hfz91_0 := blk_frozen BK277.out 0
                        have hfz91_1 := blk_frozen BK277.out 1
                        have hfz91_2 := blk_frozen BK277.out 2
                        have hfz91_3 := blk_frozen BK277.out 3
                        have hfz91_4 := blk_frozen BK277.out 4
                        have hcz92_0 : wc.cell? ⟨gb276, 0, none⟩ = some (.int .i64 5) := (blk_cell BK276.out 0).trans rfl
                        have hcz92_1 : wc.cell? ⟨gb276, 1, none⟩ = some (.int .i64 (wrap64 (1 + (Go.bits .and .i64 a0 1)))) := (blk_cell BK276.out 1).trans rfl
                        have hcz92_2 : wc.cell? ⟨gb276, 2, none⟩ = some (.int .i64 (Go.bits .and .i64 (a0 / 2) 1)) := (blk_cell BK276.out 2).trans rfl
                        have hcz92_3 : wc.cell? ⟨gb276, 3, none⟩ = some (.int .i64 x277003_4) := (blk_cell BK276.out 3).trans rfl
                        have hcz92_4 : wc.cell? ⟨gb276, 4, none⟩ = some (.bool x277004_4) := (blk_cell BK276.out 4).trans rfl
                        have hfz92_0 := blk_frozen BK276.out 0
                        have hfz92_1 := blk_frozen BK276.out 1
                        have hfz92_2 := blk_frozen BK276.out 2
                        have hfz92_3 := blk_frozen BK276.out 3
                        have hfz92_4 := blk_frozen BK276.out 4
                        go_wp2_with (first | ((with_reducible refine gate_callee (f := 13) rfl ?_); refine goesL_ (some 82) rfl rfl Try.func13 (by kernel_rfl) rfl #[.agg #[.int .i64 5, .int .i64 (wrap64 (1 + (Go.bits .and .i64 a0 1))), .int .i64 (Go.bits .and .i64 (a0 / 2) 1), .int .i64 x277003_4, .bool x277004_4], .agg #[.int .i64 5, .int .i64 (wrap64 (1 + (Go.bits .and .i64 a1 1))), .int .i64 (Go.bits .and .i64 (a1 / 2) 1), .int .i64 x278003_14, .bool false]] rfl (by (try simp only [List.map_toArray, List.map_cons, List.map_nil]); first | done | rfl | (simp only [List.length_drop, List.length_take]; rfl)) ?_; (with_reducible refine (item_Best.calls kj18 5 (wrap64 (1 + (Go.bits .and .i64 a0 1))) (Go.bits .and .i64 (a0 / 2) 1) x277003_4 x277004_4 5 (wrap64 (1 + (Go.bits .and .i64 a1 1))) (Go.bits .and .i64 (a1 / 2) 1) x278003_14 false t286 t287 t288 t289 t290 t291 _ A85.out).mono ?_); rintro e w93 ⟨rfl, hb⟩; refine ⟨_, rfl, ?_⟩; have n0_ := Aside0.mk (blk_below (g := gb276) (o := .cells #[.int .i64 5, .int .i64 (wrap64 (1 + (Go.bits .and .i64 a0 1))), .int .i64 (Go.bits .and .i64 (a0 / 2) 1), .int .i64 x277003_4, .bool x277004_4] 25 (0, 0)) (by (with_reducible repeat (first | refine blk_drewN ?_ _ | refine blk_drew ?_ | refine blk_alloc ?_ _)); exact BK276.out) hb); have n1_ := Aside0.mk (blk_below (g := gb277) (o := .cells #[.int .i64 5, .int .i64 (wrap64 (1 + (Go.bits .and .i64 a1 1))), .int .i64 (Go.bits .and .i64 (a1 / 2) 1), .int .i64 x278003_14, .bool false] 25 (0, 0)) (by (with_reducible repeat (first | refine blk_drewN ?_ _ | refine blk_drew ?_ | refine blk_alloc ?_ _)); exact BK277.out) hb); have n2_ := Aside0.mk (below_step (by repeat (first | (with_reducible first | exact HB.out | apply below_alloc | apply pw_below_drewN | apply below_drew1 | refine below_set ?_ GE276.out | refine below_set ?_ GE277.out) | exact HB.out)) hb); clear BK276; clear BK277; clear HB; have BK276 := n0_; have BK277 := n1_; have HB := n2_; clear n0_ n1_ n2_; (try clear hb); (try clear hb2); (try clear hk); (try clear hi)) | ((with_reducible refine gate_dst (N := 9) rfl ?_); refine box_event ?hg (N := 9) ?hd (cs := #[.int .i64 0, .int .i64 0, .int .i64 0, .int .i64 0, .bool false]) (t := 25) ?hr ?_; (case hd => rfl); (case hg => rfl); (case hr => first | (go_simp; done) | (go_simp; rfl)); intro gb292 hg w94 hbox hb; have n0_ := Aside0.mk (blk_below (g := gb276) (o := .cells #[.int .i64 5, .int .i64 (wrap64 (1 + (Go.bits .and .i64 a0 1))), .int .i64 (Go.bits .and .i64 (a0 / 2) 1), .int .i64 x277003_4, .bool x277004_4] 25 (0, 0)) (by (with_reducible repeat (first | refine blk_drewN ?_ _ | refine blk_drew ?_ | refine blk_alloc ?_ _)); exact BK276.out) hb); have n1_ := Aside0.mk (blk_below (g := gb277) (o := .cells #[.int .i64 5, .int .i64 (wrap64 (1 + (Go.bits .and .i64 a1 1))), .int .i64 (Go.bits .and .i64 (a1 / 2) 1), .int .i64 x278003_14, .bool false] 25 (0, 0)) (by (with_reducible repeat (first | refine blk_drewN ?_ _ | refine blk_drew ?_ | refine blk_alloc ?_ _)); exact BK277.out) hb); have n2_ := Aside0.mk (below_step (by repeat (first | (with_reducible first | exact HB.out | apply below_alloc | apply pw_below_drewN | apply below_drew1 | refine below_set ?_ GE276.out | refine below_set ?_ GE277.out) | exact HB.out)) hb); have n3_ := Aside0.mk (hbox); have n4_ := Aside0.mk ((by rw [hg]; exact (below_size (by repeat (first | (with_reducible first | exact HB.out | apply below_alloc | apply pw_below_drewN | apply below_drew1 | refine below_set ?_ GE276.out | refine below_set ?_ GE277.out) | exact HB.out))) : w.heap.size ≤ gb292)); have n5_ := Aside0.mk ((by rw [hg]; exact (below_size (by repeat (first | (with_reducible first | exact HB.out | apply below_alloc | apply pw_below_drewN | apply below_drew1 | refine below_set ?_ GE276.out | refine below_set ?_ GE277.out) | exact HB.out))) : w.heap.size ≤ gb292)); have n6_ := Aside0.mk ((by rw [hg]; exact Nat.ne_of_lt (blk_lt (g := gb276) (o := .cells #[.int .i64 5, .int .i64 (wrap64 (1 + (Go.bits .and .i64 a0 1))), .int .i64 (Go.bits .and .i64 (a0 / 2) 1), .int .i64 x277003_4, .bool x277004_4] 25 (0, 0)) (by (with_reducible repeat (first | refine blk_drewN ?_ _ | refine blk_drew ?_ | refine blk_alloc ?_ _)); exact BK276.out)) : gb276 ≠ gb292)); have n7_ := Aside0.mk ((by rw [hg]; exact Nat.ne_of_gt (blk_lt (g := gb276) (o := .cells #[.int .i64 5, .int .i64 (wrap64 (1 + (Go.bits .and .i64 a0 1))), .int .i64 (Go.bits .and .i64 (a0 / 2) 1), .int .i64 x277003_4, .bool x277004_4] 25 (0, 0)) (by (with_reducible repeat (first | refine blk_drewN ?_ _ | refine blk_drew ?_ | refine blk_alloc ?_ _)); exact BK276.out)) : gb292 ≠ gb276)); have n8_ := Aside0.mk ((by rw [hg]; exact Nat.ne_of_lt (blk_lt (g := gb277) (o := .cells #[.int .i64 5, .int .i64 (wrap64 (1 + (Go.bits .and .i64 a1 1))), .int .i64 (Go.bits .and .i64 (a1 / 2) 1), .int .i64 x278003_14, .bool false] 25 (0, 0)) (by (with_reducible repeat (first | refine blk_drewN ?_ _ | refine blk_drew ?_ | refine blk_alloc ?_ _)); exact BK277.out)) : gb277 ≠ gb292)); have n9_ := Aside0.mk ((by rw [hg]; exact Nat.ne_of_gt (blk_lt (g := gb277) (o := .cells #[.int .i64 5, .int .i64 (wrap64 (1 + (Go.bits .and .i64 a1 1))), .int .i64 (Go.bits .and .i64 (a1 / 2) 1), .int .i64 x278003_14, .bool false] 25 (0, 0)) (by (with_reducible repeat (first | refine blk_drewN ?_ _ | refine blk_drew ?_ | refine blk_alloc ?_ _)); exact BK277.out)) : gb292 ≠ gb277)); clear BK276; clear BK277; clear HB; have BK276 := n0_; have BK277 := n1_; have HB := n2_; have BK292 := n3_; have GW292 := n4_; have GE292 := n5_; have NB276_292 := n6_; have NB292_276 := n7_; have NB277_292 := n8_; have NB292_277 := n9_; clear n0_ n1_ n2_ n3_ n4_ n5_ n6_ n7_ n8_ n9_; clear hb hbox hg; have hnb95 := NB292_276.out; have hnc95 := NB276_292.out; have hnb96 := NB292_277.out; have hnc96 := NB277_292.out; have hcz97_0 : w94.cell? ⟨gb292, 0, none⟩ = some (.int .i64 0) := (blk_cell BK292.out 0).trans rfl; have hcz97_1 : w94.cell? ⟨gb292, 1, none⟩ = some (.int .i64 0) := (blk_cell BK292.out 1).trans rfl; have hcz97_2 : w94.cell? ⟨gb292, 2, none⟩ = some (.int .i64 0) := (blk_cell BK292.out 2).trans rfl; have hcz97_3 : w94.cell? ⟨gb292, 3, none⟩ = some (.int .i64 0) := (blk_cell BK292.out 3).trans rfl; have hcz97_4 : w94.cell? ⟨gb292, 4, none⟩ = some (.bool false) := (blk_cell BK292.out 4).trans rfl; have hfz97_0 := blk_frozen BK292.out 0; have hfz97_1 := blk_frozen BK292.out 1; have hfz97_2 := blk_frozen BK292.out 2; have hfz97_3 := blk_frozen BK292.out 3; have hfz97_4 := blk_frozen BK292.out 4) | ((with_reducible refine gate_callee (f := 15) rfl ?_); refine goesL_ (some 86) rfl rfl Try.func15 (by kernel_rfl) rfl #[.int .i64 t291] rfl (by (try simp only [List.map_toArray, List.map_cons, List.map_nil]); first | done | rfl | (simp only [List.length_drop, List.length_take]; rfl)) ?_; (with_reducible refine (gimmallaw0_Num.calls t291 t293 _ A86.out).mono ?_); rintro e w' ⟨rfl, ⟨nd, rfl⟩⟩; refine ⟨_, rfl, ?_⟩; have hcz98_0 : w94.cell? ⟨gb276, 0, none⟩ = some (.int .i64 5) := (blk_cell BK276.out 0).trans rfl; have hcz98_1 : w94.cell? ⟨gb276, 1, none⟩ = some (.int .i64 (wrap64 (1 + (Go.bits .and .i64 a0 1)))) := (blk_cell BK276.out 1).trans rfl; have hcz98_2 : w94.cell? ⟨gb276, 2, none⟩ = some (.int .i64 (Go.bits .and .i64 (a0 / 2) 1)) := (blk_cell BK276.out 2).trans rfl; have hcz98_3 : w94.cell? ⟨gb276, 3, none⟩ = some (.int .i64 x277003_4) := (blk_cell BK276.out 3).trans rfl; have hcz98_4 : w94.cell? ⟨gb276, 4, none⟩ = some (.bool x277004_4) := (blk_cell BK276.out 4).trans rfl; have hfz98_0 := blk_frozen BK276.out 0; have hfz98_1 := blk_frozen BK276.out 1; have hfz98_2 := blk_frozen BK276.out 2; have hfz98_3 := blk_frozen BK276.out 3; have hfz98_4 := blk_frozen BK276.out 4))
                        go_ret
                        exact ⟨by first | exact (congrArg (fun b => Ending.returned (Value.bool b)) HR.out) | (have HRS := HR.out; simp at HRS; simp [HRS]; done) | rfl | (simp [errW_none, errW_some] <;> rfl) | (simp [*, errW_none, errW_some] <;> rfl), by repeat (first | (with_reducible first | exact HB.out | apply below_alloc | apply pw_below_drewN | apply below_drew1 | refine below_set ?_ GE276.out | refine below_set ?_ GE277.out | refine below_set ?_ GE292.out) | exact HB.out)⟩
                      · rw [if_neg c89] at H
                        have c89b0 : (t286 == 5 && ((t287 == (wrap64 (1 + (Go.bits .and .i64 a0 1))) && (t288 == (Go.bits .and .i64 (a0 / 2) 1))) && (t289 == x277003_4 && (t290 == x277004_4)))) = false := by simpa using c89
                        (try (have c89b1 : decide (t286 = 5 && ((t287 == (wrap64 (1 + (Go.bits .and .i64 a0 1))) && (t288 == (Go.bits .and .i64 (a0 / 2) 1))) && (t289 == x277003_4 && (t290 == x277004_4)))) = false := by simpa using c89))
                        (try (have c89b2 : (t286 == 5 && ((t287 == (wrap64 (1 + (Go.bits .and .i64 a0 1))) && (t288 == (Go.bits .and .i64 (a0 / 2) 1))) && (t289 == x277003_4 && (t290 == x277004_4)))) = false := by simpa using c89))
                        (try (have c89b3 : ¬ (t286 = 5 && ((t287 == (wrap64 (1 + (Go.bits .and .i64 a0 1))) && (t288 == (Go.bits .and .i64 (a0 / 2) 1))) && (t289 == x277003_4 && (t290 == x277004_4)))) := by simpa using c89))
                        clear c89
                        by_cases c99 : (wrap64 ((wrap64 ((wrap64 (100 * (wrap64 (1 + (Go.bits .and .i64 a1 1))))) + (wrap64 (10 * (Go.bits .and .i64 (a1 / 2) 1))))) + x278003_14)) ≥ x7_18
                        · rw [if_pos c99] at H
                          have c99b0 : decide (x7_18 ≤ (wrap64 ((wrap64 ((wrap64 (100 * (wrap64 (1 + (Go.bits .and .i64 a1 1))))) + (wrap64 (10 * (Go.bits .and .i64 (a1 / 2) 1))))) + x278003_14))) = true := decide_eq_true c99
                          clear c99
                          have HR := Aside0.mk (Option.some.inj H)
                          clear H
                          have hnb100 := NB277_276.out
                          have hnc100 := NB276_277.out
                          have hcz101_0 : wc.cell? ⟨gb277, 0, none⟩ = some (.int .i64 5) := (blk_cell BK277.out 0).trans rfl
                          have hcz101_1 : wc.cell? ⟨gb277, 1, none⟩ = some (.int .i64 (wrap64 (1 + (Go.bits .and .i64 a1 1)))) := (blk_cell BK277.out 1).trans rfl
                          have hcz101_2 : wc.cell? ⟨gb277, 2, none⟩ = some (.int .i64 (Go.bits .and .i64 (a1 / 2) 1)) := (blk_cell BK277.out 2).trans rfl
                          have hcz101_3 : wc.cell? ⟨gb277, 3, none⟩ = some (.int .i64 x278003_14) := (blk_cell BK277.out 3).trans rfl
                          have hcz101_4 : wc.cell? ⟨gb277, 4, none⟩ = some (.bool false) := (blk_cell BK277.out 4).trans rfl
                          have hfz101_0 := blk_frozen BK277.out 0
                          have hfz101_1 := blk_frozen BK277.out 1
                          have hfz101_2 := blk_frozen BK277.out 2
                          have hfz101_3 := blk_frozen BK277.out 3
                          have hfz101_4 := blk_frozen BK277.out 4
                          have hcz102_0 : wc.cell? ⟨gb276, 0, none⟩ = some (.int .i64 5) := (blk_cell BK276.out 0).trans rfl
                          have hcz102_1 : wc.cell? ⟨gb276, 1, none⟩ = some (.int .i64 (wrap64 (1 + (Go.bits .and .i64 a0 1)))) := (blk_cell BK276.out 1).trans rfl
                          have hcz102_2 : wc.cell? ⟨gb276, 2, none⟩ = some (.int .i64 (Go.bits .and .i64 (a0 / 2) 1)) := (blk_cell BK276.out 2).trans rfl
                          have hcz102_3 : wc.cell? ⟨gb276, 3, none⟩ = some (.int .i64 x277003_4) := (blk_cell BK276.out 3).trans rfl
                          have hcz102_4 : wc.cell? ⟨gb276, 4, none⟩ = some (.bool x277004_4) := (blk_cell BK276.out 4).trans rfl
                          have hfz102_0 := blk_frozen BK276.out 0
                          have hfz102_1 := blk_frozen BK276.out 1
                          have hfz102_2 := blk_frozen BK276.out 2
                          have hfz102_3 := blk_frozen BK276.out 3
                          have hfz102_4 := blk_frozen BK276.out 4
                          go_wp2_with (first | ((with_reducible refine gate_callee (f := 13) rfl ?_); refine goesL_ (some 82) rfl rfl Try.func13 (by kernel_rfl) rfl #[.agg #[.int .i64 5, .int .i64 (wrap64 (1 + (Go.bits .and .i64 a0 1))), .int .i64 (Go.bits .and .i64 (a0 / 2) 1), .int .i64 x277003_4, .bool x277004_4], .agg #[.int .i64 5, .int .i64 (wrap64 (1 + (Go.bits .and .i64 a1 1))), .int .i64 (Go.bits .and .i64 (a1 / 2) 1), .int .i64 x278003_14, .bool false]] rfl (by (try simp only [List.map_toArray, List.map_cons, List.map_nil]); first | done | rfl | (simp only [List.length_drop, List.length_take]; rfl)) ?_; (with_reducible refine (item_Best.calls kj18 5 (wrap64 (1 + (Go.bits .and .i64 a0 1))) (Go.bits .and .i64 (a0 / 2) 1) x277003_4 x277004_4 5 (wrap64 (1 + (Go.bits .and .i64 a1 1))) (Go.bits .and .i64 (a1 / 2) 1) x278003_14 false t286 t287 t288 t289 t290 t291 _ A85.out).mono ?_); rintro e w103 ⟨rfl, hb⟩; refine ⟨_, rfl, ?_⟩; have n0_ := Aside0.mk (blk_below (g := gb276) (o := .cells #[.int .i64 5, .int .i64 (wrap64 (1 + (Go.bits .and .i64 a0 1))), .int .i64 (Go.bits .and .i64 (a0 / 2) 1), .int .i64 x277003_4, .bool x277004_4] 25 (0, 0)) (by (with_reducible repeat (first | refine blk_drewN ?_ _ | refine blk_drew ?_ | refine blk_alloc ?_ _)); exact BK276.out) hb); have n1_ := Aside0.mk (blk_below (g := gb277) (o := .cells #[.int .i64 5, .int .i64 (wrap64 (1 + (Go.bits .and .i64 a1 1))), .int .i64 (Go.bits .and .i64 (a1 / 2) 1), .int .i64 x278003_14, .bool false] 25 (0, 0)) (by (with_reducible repeat (first | refine blk_drewN ?_ _ | refine blk_drew ?_ | refine blk_alloc ?_ _)); exact BK277.out) hb); have n2_ := Aside0.mk (below_step (by repeat (first | (with_reducible first | exact HB.out | apply below_alloc | apply pw_below_drewN | apply below_drew1 | refine below_set ?_ GE276.out | refine below_set ?_ GE277.out) | exact HB.out)) hb); clear BK276; clear BK277; clear HB; have BK276 := n0_; have BK277 := n1_; have HB := n2_; clear n0_ n1_ n2_; (try clear hb); (try clear hb2); (try clear hk); (try clear hi)) | ((with_reducible refine gate_dst (N := 9) rfl ?_); refine box_event ?hg (N := 9) ?hd (cs := #[.int .i64 0, .int .i64 0, .int .i64 0, .int .i64 0, .bool false]) (t := 25) ?hr ?_; (case hd => rfl); (case hg => rfl); (case hr => first | (go_simp; done) | (go_simp; rfl)); intro gb292 hg w104 hbox hb; have n0_ := Aside0.mk (blk_below (g := gb276) (o := .cells #[.int .i64 5, .int .i64 (wrap64 (1 + (Go.bits .and .i64 a0 1))), .int .i64 (Go.bits .and .i64 (a0 / 2) 1), .int .i64 x277003_4, .bool x277004_4] 25 (0, 0)) (by (with_reducible repeat (first | refine blk_drewN ?_ _ | refine blk_drew ?_ | refine blk_alloc ?_ _)); exact BK276.out) hb); have n1_ := Aside0.mk (blk_below (g := gb277) (o := .cells #[.int .i64 5, .int .i64 (wrap64 (1 + (Go.bits .and .i64 a1 1))), .int .i64 (Go.bits .and .i64 (a1 / 2) 1), .int .i64 x278003_14, .bool false] 25 (0, 0)) (by (with_reducible repeat (first | refine blk_drewN ?_ _ | refine blk_drew ?_ | refine blk_alloc ?_ _)); exact BK277.out) hb); have n2_ := Aside0.mk (below_step (by repeat (first | (with_reducible first | exact HB.out | apply below_alloc | apply pw_below_drewN | apply below_drew1 | refine below_set ?_ GE276.out | refine below_set ?_ GE277.out) | exact HB.out)) hb); have n3_ := Aside0.mk (hbox); have n4_ := Aside0.mk ((by rw [hg]; exact (below_size (by repeat (first | (with_reducible first | exact HB.out | apply below_alloc | apply pw_below_drewN | apply below_drew1 | refine below_set ?_ GE276.out | refine below_set ?_ GE277.out) | exact HB.out))) : w.heap.size ≤ gb292)); have n5_ := Aside0.mk ((by rw [hg]; exact (below_size (by repeat (first | (with_reducible first | exact HB.out | apply below_alloc | apply pw_below_drewN | apply below_drew1 | refine below_set ?_ GE276.out | refine below_set ?_ GE277.out) | exact HB.out))) : w.heap.size ≤ gb292)); have n6_ := Aside0.mk ((by rw [hg]; exact Nat.ne_of_lt (blk_lt (g := gb276) (o := .cells #[.int .i64 5, .int .i64 (wrap64 (1 + (Go.bits .and .i64 a0 1))), .int .i64 (Go.bits .and .i64 (a0 / 2) 1), .int .i64 x277003_4, .bool x277004_4] 25 (0, 0)) (by (with_reducible repeat (first | refine blk_drewN ?_ _ | refine blk_drew ?_ | refine blk_alloc ?_ _)); exact BK276.out)) : gb276 ≠ gb292)); have n7_ := Aside0.mk ((by rw [hg]; exact Nat.ne_of_gt (blk_lt (g := gb276) (o := .cells #[.int .i64 5, .int .i64 (wrap64 (1 + (Go.bits .and .i64 a0 1))), .int .i64 (Go.bits .and .i64 (a0 / 2) 1), .int .i64 x277003_4, .bool x277004_4] 25 (0, 0)) (by (with_reducible repeat (first | refine blk_drewN ?_ _ | refine blk_drew ?_ | refine blk_alloc ?_ _)); exact BK276.out)) : gb292 ≠ gb276)); have n8_ := Aside0.mk ((by rw [hg]; exact Nat.ne_of_lt (blk_lt (g := gb277) (o := .cells #[.int .i64 5, .int .i64 (wrap64 (1 + (Go.bits .and .i64 a1 1))), .int .i64 (Go.bits .and .i64 (a1 / 2) 1), .int .i64 x278003_14, .bool false] 25 (0, 0)) (by (with_reducible repeat (first | refine blk_drewN ?_ _ | refine blk_drew ?_ | refine blk_alloc ?_ _)); exact BK277.out)) : gb277 ≠ gb292)); have n9_ := Aside0.mk ((by rw [hg]; exact Nat.ne_of_gt (blk_lt (g := gb277) (o := .cells #[.int .i64 5, .int .i64 (wrap64 (1 + (Go.bits .and .i64 a1 1))), .int .i64 (Go.bits .and .i64 (a1 / 2) 1), .int .i64 x278003_14, .bool false] 25 (0, 0)) (by (with_reducible repeat (first | refine blk_drewN ?_ _ | refine blk_drew ?_ | refine blk_alloc ?_ _)); exact BK277.out)) : gb292 ≠ gb277)); clear BK276; clear BK277; clear HB; have BK276 := n0_; have BK277 := n1_; have HB := n2_; have BK292 := n3_; have GW292 := n4_; have GE292 := n5_; have NB276_292 := n6_; have NB292_276 := n7_; have NB277_292 := n8_; have NB292_277 := n9_; clear n0_ n1_ n2_ n3_ n4_ n5_ n6_ n7_ n8_ n9_; clear hb hbox hg; have hnb105 := NB292_276.out; have hnc105 := NB276_292.out; have hnb106 := NB292_277.out; have hnc106 := NB277_292.out; have hcz107_0 : w104.cell? ⟨gb292, 0, none⟩ = some (.int .i64 0) := (blk_cell BK292.out 0).trans rfl; have hcz107_1 : w104.cell? ⟨gb292, 1, none⟩ = some (.int .i64 0) := (blk_cell BK292.out 1).trans rfl; have hcz107_2 : w104.cell? ⟨gb292, 2, none⟩ = some (.int .i64 0) := (blk_cell BK292.out 2).trans rfl; have hcz107_3 : w104.cell? ⟨gb292, 3, none⟩ = some (.int .i64 0) := (blk_cell BK292.out 3).trans rfl; have hcz107_4 : w104.cell? ⟨gb292, 4, none⟩ = some (.bool false) := (blk_cell BK292.out 4).trans rfl; have hfz107_0 := blk_frozen BK292.out 0; have hfz107_1 := blk_frozen BK292.out 1; have hfz107_2 := blk_frozen BK292.out 2; have hfz107_3 := blk_frozen BK292.out 3; have hfz107_4 := blk_frozen BK292.out 4) | ((with_reducible refine gate_callee (f := 15) rfl ?_); refine goesL_ (some 86) rfl rfl Try.func15 (by kernel_rfl) rfl #[.int .i64 t291] rfl (by (try simp only [List.map_toArray, List.map_cons, List.map_nil]); first | done | rfl | (simp only [List.length_drop, List.length_take]; rfl)) ?_; (with_reducible refine (gimmallaw0_Num.calls t291 t293 _ A86.out).mono ?_); rintro e w' ⟨rfl, ⟨nd, rfl⟩⟩; refine ⟨_, rfl, ?_⟩; have hcz108_0 : w104.cell? ⟨gb276, 0, none⟩ = some (.int .i64 5) := (blk_cell BK276.out 0).trans rfl; have hcz108_1 : w104.cell? ⟨gb276, 1, none⟩ = some (.int .i64 (wrap64 (1 + (Go.bits .and .i64 a0 1)))) := (blk_cell BK276.out 1).trans rfl; have hcz108_2 : w104.cell? ⟨gb276, 2, none⟩ = some (.int .i64 (Go.bits .and .i64 (a0 / 2) 1)) := (blk_cell BK276.out 2).trans rfl; have hcz108_3 : w104.cell? ⟨gb276, 3, none⟩ = some (.int .i64 x277003_4) := (blk_cell BK276.out 3).trans rfl; have hcz108_4 : w104.cell? ⟨gb276, 4, none⟩ = some (.bool x277004_4) := (blk_cell BK276.out 4).trans rfl; have hfz108_0 := blk_frozen BK276.out 0; have hfz108_1 := blk_frozen BK276.out 1; have hfz108_2 := blk_frozen BK276.out 2; have hfz108_3 := blk_frozen BK276.out 3; have hfz108_4 := blk_frozen BK276.out 4; have hcz109_0 : w104.cell? ⟨gb277, 0, none⟩ = some (.int .i64 5) := (blk_cell BK277.out 0).trans rfl; have hcz109_1 : w104.cell? ⟨gb277, 1, none⟩ = some (.int .i64 (wrap64 (1 + (Go.bits .and .i64 a1 1)))) := (blk_cell BK277.out 1).trans rfl; have hcz109_2 : w104.cell? ⟨gb277, 2, none⟩ = some (.int .i64 (Go.bits .and .i64 (a1 / 2) 1)) := (blk_cell BK277.out 2).trans rfl; have hcz109_3 : w104.cell? ⟨gb277, 3, none⟩ = some (.int .i64 x278003_14) := (blk_cell BK277.out 3).trans rfl; have hcz109_4 : w104.cell? ⟨gb277, 4, none⟩ = some (.bool false) := (blk_cell BK277.out 4).trans rfl; have hfz109_0 := blk_frozen BK277.out 0; have hfz109_1 := blk_frozen BK277.out 1; have hfz109_2 := blk_frozen BK277.out 2; have hfz109_3 := blk_frozen BK277.out 3; have hfz109_4 := blk_frozen BK277.out 4))
                          go_ret
                          exact ⟨by first | exact (congrArg (fun b => Ending.returned (Value.bool b)) HR.out) | (have HRS := HR.out; simp at HRS; simp [HRS]; done) | rfl | (simp [errW_none, errW_some] <;> rfl) | (simp [*, errW_none, errW_some] <;> rfl), by repeat (first | (with_reducible first | exact HB.out | apply below_alloc | apply pw_below_drewN | apply below_drew1 | refine below_set ?_ GE276.out | refine below_set ?_ GE277.out | refine below_set ?_ GE292.out) | exact HB.out)⟩
                        · rw [if_neg c99] at H
                          exact absurd (Option.some.inj H) (by decide)
                    · rw [if_neg c88] at H
                      have c88b0 : decide ((wrap64 ((wrap64 ((wrap64 (100 * (wrap64 (1 + (Go.bits .and .i64 a1 1))))) + (wrap64 (10 * (Go.bits .and .i64 (a1 / 2) 1))))) + x278003_14)) ≤ x7_18) = false := decide_eq_false c88
                      clear c88
                      by_cases c119 : (wrap64 ((wrap64 ((wrap64 (100 * (wrap64 (1 + (Go.bits .and .i64 a1 1))))) + (wrap64 (10 * (Go.bits .and .i64 (a1 / 2) 1))))) + x278003_14)) ≥ x7_18
                      · rw [if_pos c119] at H
                        have c119b0 : decide (x7_18 ≤ (wrap64 ((wrap64 ((wrap64 (100 * (wrap64 (1 + (Go.bits .and .i64 a1 1))))) + (wrap64 (10 * (Go.bits .and .i64 (a1 / 2) 1))))) + x278003_14))) = true := decide_eq_true c119
                        clear c119
                        have HR := Aside0.mk (Option.some.inj H)
                        clear H
                        have hnb120 := NB277_276.out
                        have hnc120 := NB276_277.out
                        have hcz121_0 : wc.cell? ⟨gb277, 0, none⟩ = some (.int .i64 5) := (blk_cell BK277.out 0).trans rfl
                        have hcz121_1 : wc.cell? ⟨gb277, 1, none⟩ = some (.int .i64 (wrap64 (1 + (Go.bits .and .i64 a1 1)))) := (blk_cell BK277.out 1).trans rfl
                        have hcz121_2 : wc.cell? ⟨gb277, 2, none⟩ = some (.int .i64 (Go.bits .and .i64 (a1 / 2) 1)) := (blk_cell BK277.out 2).trans rfl
                        have hcz121_3 : wc.cell? ⟨gb277, 3, none⟩ = some (.int .i64 x278003_14) := (blk_cell BK277.out 3).trans rfl
                        have hcz121_4 : wc.cell? ⟨gb277, 4, none⟩ = some (.bool false) := (blk_cell BK277.out 4).trans rfl
                        have hfz121_0 := blk_frozen BK277.out 0
                        have hfz121_1 := blk_frozen BK277.out 1
                        have hfz121_2 := blk_frozen BK277.out 2
                        have hfz121_3 := blk_frozen BK277.out 3
                        have hfz121_4 := blk_frozen BK277.out 4
                        have hcz122_0 : wc.cell? ⟨gb276, 0, none⟩ = some (.int .i64 5) := (blk_cell BK276.out 0).trans rfl
                        have hcz122_1 : wc.cell? ⟨gb276, 1, none⟩ = some (.int .i64 (wrap64 (1 + (Go.bits .and .i64 a0 1)))) := (blk_cell BK276.out 1).trans rfl
                        have hcz122_2 : wc.cell? ⟨gb276, 2, none⟩ = some (.int .i64 (Go.bits .and .i64 (a0 / 2) 1)) := (blk_cell BK276.out 2).trans rfl
                        have hcz122_3 : wc.cell? ⟨gb276, 3, none⟩ = some (.int .i64 x277003_4) := (blk_cell BK276.out 3).trans rfl
                        have hcz122_4 : wc.cell? ⟨gb276, 4, none⟩ = some (.bool x277004_4) := (blk_cell BK276.out 4).trans rfl
                        have hfz122_0 := blk_frozen BK276.out 0
                        have hfz122_1 := blk_frozen BK276.out 1
                        have hfz122_2 := blk_frozen BK276.out 2
                        have hfz122_3 := blk_frozen BK276.out 3
                        have hfz122_4 := blk_frozen BK276.out 4
                        go_wp2_with (first | ((with_reducible refine gate_callee (f := 13) rfl ?_); refine goesL_ (some 82) rfl rfl Try.func13 (by kernel_rfl) rfl #[.agg #[.int .i64 5, .int .i64 (wrap64 (1 + (Go.bits .and .i64 a0 1))), .int .i64 (Go.bits .and .i64 (a0 / 2) 1), .int .i64 x277003_4, .bool x277004_4], .agg #[.int .i64 5, .int .i64 (wrap64 (1 + (Go.bits .and .i64 a1 1))), .int .i64 (Go.bits .and .i64 (a1 / 2) 1), .int .i64 x278003_14, .bool false]] rfl (by (try simp only [List.map_toArray, List.map_cons, List.map_nil]); first | done | rfl | (simp only [List.length_drop, List.length_take]; rfl)) ?_; (with_reducible refine (item_Best.calls kj18 5 (wrap64 (1 + (Go.bits .and .i64 a0 1))) (Go.bits .and .i64 (a0 / 2) 1) x277003_4 x277004_4 5 (wrap64 (1 + (Go.bits .and .i64 a1 1))) (Go.bits .and .i64 (a1 / 2) 1) x278003_14 false t286 t287 t288 t289 t290 t291 _ A85.out).mono ?_); rintro e w123 ⟨rfl, hb⟩; refine ⟨_, rfl, ?_⟩; have n0_ := Aside0.mk (blk_below (g := gb276) (o := .cells #[.int .i64 5, .int .i64 (wrap64 (1 + (Go.bits .and .i64 a0 1))), .int .i64 (Go.bits .and .i64 (a0 / 2) 1), .int .i64 x277003_4, .bool x277004_4] 25 (0, 0)) (by (with_reducible repeat (first | refine blk_drewN ?_ _ | refine blk_drew ?_ | refine blk_alloc ?_ _)); exact BK276.out) hb); have n1_ := Aside0.mk (blk_below (g := gb277) (o := .cells #[.int .i64 5, .int .i64 (wrap64 (1 + (Go.bits .and .i64 a1 1))), .int .i64 (Go.bits .and .i64 (a1 / 2) 1), .int .i64 x278003_14, .bool false] 25 (0, 0)) (by (with_reducible repeat (first | refine blk_drewN ?_ _ | refine blk_drew ?_ | refine blk_alloc ?_ _)); exact BK277.out) hb); have n2_ := Aside0.mk (below_step (by repeat (first | (with_reducible first | exact HB.out | apply below_alloc | apply pw_below_drewN | apply below_drew1 | refine below_set ?_ GE276.out | refine below_set ?_ GE277.out) | exact HB.out)) hb); clear BK276; clear BK277; clear HB; have BK276 := n0_; have BK277 := n1_; have HB := n2_; clear n0_ n1_ n2_; (try clear hb); (try clear hb2); (try clear hk); (try clear hi)) | ((with_reducible refine gate_dst (N := 9) rfl ?_); refine box_event ?hg (N := 9) ?hd (cs := #[.int .i64 0, .int .i64 0, .int .i64 0, .int .i64 0, .bool false]) (t := 25) ?hr ?_; (case hd => rfl); (case hg => rfl); (case hr => first | (go_simp; done) | (go_simp; rfl)); intro gb292 hg w124 hbox hb; have n0_ := Aside0.mk (blk_below (g := gb276) (o := .cells #[.int .i64 5, .int .i64 (wrap64 (1 + (Go.bits .and .i64 a0 1))), .int .i64 (Go.bits .and .i64 (a0 / 2) 1), .int .i64 x277003_4, .bool x277004_4] 25 (0, 0)) (by (with_reducible repeat (first | refine blk_drewN ?_ _ | refine blk_drew ?_ | refine blk_alloc ?_ _)); exact BK276.out) hb); have n1_ := Aside0.mk (blk_below (g := gb277) (o := .cells #[.int .i64 5, .int .i64 (wrap64 (1 + (Go.bits .and .i64 a1 1))), .int .i64 (Go.bits .and .i64 (a1 / 2) 1), .int .i64 x278003_14, .bool false] 25 (0, 0)) (by (with_reducible repeat (first | refine blk_drewN ?_ _ | refine blk_drew ?_ | refine blk_alloc ?_ _)); exact BK277.out) hb); have n2_ := Aside0.mk (below_step (by repeat (first | (with_reducible first | exact HB.out | apply below_alloc | apply pw_below_drewN | apply below_drew1 | refine below_set ?_ GE276.out | refine below_set ?_ GE277.out) | exact HB.out)) hb); have n3_ := Aside0.mk (hbox); have n4_ := Aside0.mk ((by rw [hg]; exact (below_size (by repeat (first | (with_reducible first | exact HB.out | apply below_alloc | apply pw_below_drewN | apply below_drew1 | refine below_set ?_ GE276.out | refine below_set ?_ GE277.out) | exact HB.out))) : w.heap.size ≤ gb292)); have n5_ := Aside0.mk ((by rw [hg]; exact (below_size (by repeat (first | (with_reducible first | exact HB.out | apply below_alloc | apply pw_below_drewN | apply below_drew1 | refine below_set ?_ GE276.out | refine below_set ?_ GE277.out) | exact HB.out))) : w.heap.size ≤ gb292)); have n6_ := Aside0.mk ((by rw [hg]; exact Nat.ne_of_lt (blk_lt (g := gb276) (o := .cells #[.int .i64 5, .int .i64 (wrap64 (1 + (Go.bits .and .i64 a0 1))), .int .i64 (Go.bits .and .i64 (a0 / 2) 1), .int .i64 x277003_4, .bool x277004_4] 25 (0, 0)) (by (with_reducible repeat (first | refine blk_drewN ?_ _ | refine blk_drew ?_ | refine blk_alloc ?_ _)); exact BK276.out)) : gb276 ≠ gb292)); have n7_ := Aside0.mk ((by rw [hg]; exact Nat.ne_of_gt (blk_lt (g := gb276) (o := .cells #[.int .i64 5, .int .i64 (wrap64 (1 + (Go.bits .and .i64 a0 1))), .int .i64 (Go.bits .and .i64 (a0 / 2) 1), .int .i64 x277003_4, .bool x277004_4] 25 (0, 0)) (by (with_reducible repeat (first | refine blk_drewN ?_ _ | refine blk_drew ?_ | refine blk_alloc ?_ _)); exact BK276.out)) : gb292 ≠ gb276)); have n8_ := Aside0.mk ((by rw [hg]; exact Nat.ne_of_lt (blk_lt (g := gb277) (o := .cells #[.int .i64 5, .int .i64 (wrap64 (1 + (Go.bits .and .i64 a1 1))), .int .i64 (Go.bits .and .i64 (a1 / 2) 1), .int .i64 x278003_14, .bool false] 25 (0, 0)) (by (with_reducible repeat (first | refine blk_drewN ?_ _ | refine blk_drew ?_ | refine blk_alloc ?_ _)); exact BK277.out)) : gb277 ≠ gb292)); have n9_ := Aside0.mk ((by rw [hg]; exact Nat.ne_of_gt (blk_lt (g := gb277) (o := .cells #[.int .i64 5, .int .i64 (wrap64 (1 + (Go.bits .and .i64 a1 1))), .int .i64 (Go.bits .and .i64 (a1 / 2) 1), .int .i64 x278003_14, .bool false] 25 (0, 0)) (by (with_reducible repeat (first | refine blk_drewN ?_ _ | refine blk_drew ?_ | refine blk_alloc ?_ _)); exact BK277.out)) : gb292 ≠ gb277)); clear BK276; clear BK277; clear HB; have BK276 := n0_; have BK277 := n1_; have HB := n2_; have BK292 := n3_; have GW292 := n4_; have GE292 := n5_; have NB276_292 := n6_; have NB292_276 := n7_; have NB277_292 := n8_; have NB292_277 := n9_; clear n0_ n1_ n2_ n3_ n4_ n5_ n6_ n7_ n8_ n9_; clear hb hbox hg; have hnb125 := NB292_276.out; have hnc125 := NB276_292.out; have hnb126 := NB292_277.out; have hnc126 := NB277_292.out; have hcz127_0 : w124.cell? ⟨gb292, 0, none⟩ = some (.int .i64 0) := (blk_cell BK292.out 0).trans rfl; have hcz127_1 : w124.cell? ⟨gb292, 1, none⟩ = some (.int .i64 0) := (blk_cell BK292.out 1).trans rfl; have hcz127_2 : w124.cell? ⟨gb292, 2, none⟩ = some (.int .i64 0) := (blk_cell BK292.out 2).trans rfl; have hcz127_3 : w124.cell? ⟨gb292, 3, none⟩ = some (.int .i64 0) := (blk_cell BK292.out 3).trans rfl; have hcz127_4 : w124.cell? ⟨gb292, 4, none⟩ = some (.bool false) := (blk_cell BK292.out 4).trans rfl; have hfz127_0 := blk_frozen BK292.out 0; have hfz127_1 := blk_frozen BK292.out 1; have hfz127_2 := blk_frozen BK292.out 2; have hfz127_3 := blk_frozen BK292.out 3; have hfz127_4 := blk_frozen BK292.out 4) | ((with_reducible refine gate_callee (f := 15) rfl ?_); refine goesL_ (some 86) rfl rfl Try.func15 (by kernel_rfl) rfl #[.int .i64 t291] rfl (by (try simp only [List.map_toArray, List.map_cons, List.map_nil]); first | done | rfl | (simp only [List.length_drop, List.length_take]; rfl)) ?_; (with_reducible refine (gimmallaw0_Num.calls t291 t293 _ A86.out).mono ?_); rintro e w' ⟨rfl, ⟨nd, rfl⟩⟩; refine ⟨_, rfl, ?_⟩; have hcz128_0 : w124.cell? ⟨gb277, 0, none⟩ = some (.int .i64 5) := (blk_cell BK277.out 0).trans rfl; have hcz128_1 : w124.cell? ⟨gb277, 1, none⟩ = some (.int .i64 (wrap64 (1 + (Go.bits .and .i64 a1 1)))) := (blk_cell BK277.out 1).trans rfl; have hcz128_2 : w124.cell? ⟨gb277, 2, none⟩ = some (.int .i64 (Go.bits .and .i64 (a1 / 2) 1)) := (blk_cell BK277.out 2).trans rfl; have hcz128_3 : w124.cell? ⟨gb277, 3, none⟩ = some (.int .i64 x278003_14) := (blk_cell BK277.out 3).trans rfl; have hcz128_4 : w124.cell? ⟨gb277, 4, none⟩ = some (.bool false) := (blk_cell BK277.out 4).trans rfl; have hfz128_0 := blk_frozen BK277.out 0; have hfz128_1 := blk_frozen BK277.out 1; have hfz128_2 := blk_frozen BK277.out 2; have hfz128_3 := blk_frozen BK277.out 3; have hfz128_4 := blk_frozen BK277.out 4))
                        go_ret
                        exact ⟨by first | exact (congrArg (fun b => Ending.returned (Value.bool b)) HR.out) | (have HRS := HR.out; simp at HRS; simp [HRS]; done) | rfl | (simp [errW_none, errW_some] <;> rfl) | (simp [*, errW_none, errW_some] <;> rfl), by repeat (first | (with_reducible first | exact HB.out | apply below_alloc | apply pw_below_drewN | apply below_drew1 | refine below_set ?_ GE276.out | refine below_set ?_ GE277.out | refine below_set ?_ GE292.out) | exact HB.out)⟩
                      · rw [if_neg c119] at H
                        exact absurd (Option.some.inj H) (by decide)
                  · rw [if_neg c87] at H
                    exact absurd (Option.some.inj H) (by decide)
  · replace c4 := Bool.eq_false_iff.mpr c4
    subst c4
    have H1 : (some false) = some true := by rw [if_neg (show ¬ (false = true) by decide)] at H; exact H
    exact absurd (Option.some.inj H1) (by decide)

/-- THE ONE PURE STATEMENT of gimmallaw4_ItemTable: yours. -/
def gimmallaw4_ItemTable.Pure : Prop := ∀ (a0 : Int) (a1 : Int), (Lit.int .i64 a0).wf = true → (Lit.int .i64 a1).wf = true → ∃ k, gimmallaw4_ItemTable.f k a0 a1 = some true
theorem gimmallaw4_ItemTable.walk (P : gimmallaw4_ItemTable.Pure) (a0 : Int) (a1 : Int) (w : World) (w0 : (Lit.int .i64 a0).wf = true) (w1 : (Lit.int .i64 a1).wf = true) :
    Calls Try.prog 6 #[.int .i64 a0, .int .i64 a1] w fun e w' => e = .returned (.bool true) ∧ Below w.heap.size w w' := by
  obtain ⟨k, h⟩ := P a0 a1 w0 w1
  refine (gimmallaw4_ItemTable.calls k a0 a1 w h).mono ?_
  rintro e w' ⟨rfl, hd⟩
  exact ⟨rfl, hd⟩


end Go.Proofs.Ytklaiaididkiiaa.MI
