/- The walk of the law SpanParts, by program (the printer's lines, the ways to false closed). -/
import Derived.Test.YtklaiaididkiiaaMSx0
import Derived.Test.YtklaiaididkiiaaMSx1
import Derived.Test.YtklaiaididkiiaaMSx2
import Derived.Test.YtklaiaididkiiaaMSx4
import Derived.Test.YtklaiaididkiiaaMSx6
import Derived.Test.YtklaiaididkiiaaMSw
namespace Go.Proofs.Ytklaiaididkiiaa.MS
open Go.RowKit Go.Proofs.YtklaiaididkiiaaW.PrintWords Go.Proofs.YtklaiaididkiiaaW.PrintLast Go.Proofs.YtklaiaididkiiaaW.PrintMore
attribute [local go_sem] max2_int min2_int max_two min_two max_three min_three max_four min_four   -- for this text's walks alone
set_option linter.unusedVariables false
set_option linter.unusedSimpArgs false

attribute [local go_sem high] eqA25
/-! ### gimmallaw6_SpanParts: function 10 -/
mutual
def gimmallaw6_SpanParts.j0 : Nat → List (S25) → Int → Int → List (S25) → List (S25) → Bool → Option (Bool)
  | 0, _, _, _, _, _, _ => none
  | k + 1, x0, x7, x8, x9, x11, x43 => if x43 = true then (some ((wrap64 ((x9.length : Int) + (x11.length : Int))) == 0)) else (if x7 = x8 then ((gimmallaw0_SameItems.f k x9 x0).bind fun t258 => (if t258 = true then ((gimmallaw0_SameItems.f k x11 x0).bind fun t259 => (some t259)) else (some false))) else (gimmallaw6_SpanParts.l0 k x0 x9 x11 0 0 0))
def gimmallaw6_SpanParts.l0 : Nat → List (S25) → List (S25) → List (S25) → Int → Int → Int → Option (Bool)
  | 0, _, _, _, _, _, _ => none
  | k + 1, x0, x9, x11, x13, x14, x15 => if x15 < (x0.length : Int) then (if x13 < (x9.length : Int) then (if 0 ≤ x13 then (if 0 ≤ x15 then (gimmallaw6_SpanParts.j2 k x0 x9 x11 x13 x14 x15 (((rd_T25 x9 x13).f0) == ((rd_T25 x0 x15).f0) && ((((rd_T25 x9 x13).f1.f0) == ((rd_T25 x0 x15).f1.f0) && (((rd_T25 x9 x13).f1.f1) == ((rd_T25 x0 x15).f1.f1))) && (((rd_T25 x9 x13).f2) == ((rd_T25 x0 x15).f2) && (((rd_T25 x9 x13).f3) == ((rd_T25 x0 x15).f3)))))) else (none)) else (none)) else (gimmallaw6_SpanParts.j2 k x0 x9 x11 x13 x14 x15 false)) else (if x13 = (x9.length : Int) then (some (x14 == (x11.length : Int))) else (some false))
def gimmallaw6_SpanParts.j2 : Nat → List (S25) → List (S25) → List (S25) → Int → Int → Int → Bool → Option (Bool)
  | 0, _, _, _, _, _, _, _ => none
  | k + 1, x0, x9, x11, x13, x14, x15, x67 => if x67 = true then (gimmallaw6_SpanParts.l0 k x0 x9 x11 (wrap64 (x13 + 1)) x14 (wrap64 (x15 + 1))) else (if x14 < (x11.length : Int) then (if 0 ≤ x14 then (if 0 ≤ x15 then (if x15 < (x0.length : Int) then (if (((rd_T25 x11 x14).f0) == ((rd_T25 x0 x15).f0) && ((((rd_T25 x11 x14).f1.f0) == ((rd_T25 x0 x15).f1.f0) && (((rd_T25 x11 x14).f1.f1) == ((rd_T25 x0 x15).f1.f1))) && (((rd_T25 x11 x14).f2) == ((rd_T25 x0 x15).f2) && (((rd_T25 x11 x14).f3) == ((rd_T25 x0 x15).f3))))) = true then (gimmallaw6_SpanParts.l0 k x0 x9 x11 x13 (wrap64 (x14 + 1)) (wrap64 (x15 + 1))) else (some false)) else (none)) else (none)) else (none)) else (some false))
end
def gimmallaw6_SpanParts.f (k : Nat) (l0 : List (S25)) (a1 : Int) (a2 : Int) : Option (Bool) := (gimmallaw6_awake.f k).bind fun t247 => (if t247 = true then ((span_Of.f k l0 (Go.bits .and .i64 a1 255) (Go.bits .and .i64 a2 255)).bind fun bt248 => ((span_Of.f k l0 (Go.bits .and .i64 a2 255) (Go.bits .and .i64 a1 255)).bind fun bt252 => ((gimmallaw0_Num.f bt248.2).bind fun t256 => (if t256 = 0 then ((gimmallaw0_Num.f bt252.2).bind fun t257 => (gimmallaw6_SpanParts.j0 k l0 (Go.bits .and .i64 a1 255) (Go.bits .and .i64 a2 255) bt248.1 bt252.1 (t257 != 0))) else (gimmallaw6_SpanParts.j0 k l0 (Go.bits .and .i64 a1 255) (Go.bits .and .i64 a2 255) bt248.1 bt252.1 true))))) else (some false))
theorem gimmallaw6_SpanParts.mono_l : ∀ k, (∀ y0 y1 y2 y3 y4 y5, LeO (gimmallaw6_SpanParts.j0 k y0 y1 y2 y3 y4 y5) (gimmallaw6_SpanParts.j0 (k + 1) y0 y1 y2 y3 y4 y5)) ∧ (∀ y0 y1 y2 y3 y4 y5, LeO (gimmallaw6_SpanParts.l0 k y0 y1 y2 y3 y4 y5) (gimmallaw6_SpanParts.l0 (k + 1) y0 y1 y2 y3 y4 y5)) ∧ (∀ y0 y1 y2 y3 y4 y5 y6, LeO (gimmallaw6_SpanParts.j2 k y0 y1 y2 y3 y4 y5 y6) (gimmallaw6_SpanParts.j2 (k + 1) y0 y1 y2 y3 y4 y5 y6))
  | 0 => ⟨fun _ _ _ _ _ _ r h => by simp [gimmallaw6_SpanParts.j0] at h, fun _ _ _ _ _ _ r h => by simp [gimmallaw6_SpanParts.l0] at h, fun _ _ _ _ _ _ _ r h => by simp [gimmallaw6_SpanParts.j2] at h⟩
  | k + 1 => by
    obtain ⟨ih0, ih1, ih2⟩ := gimmallaw6_SpanParts.mono_l k
    refine ⟨?_, ?_, ?_⟩
    · intro y0 y1 y2 y3 y4 y5
      unfold gimmallaw6_SpanParts.j0
      repeat' first
      | (with_reducible exact ih0 _ _ _ _ _ _)
      | (with_reducible exact ih1 _ _ _ _ _ _)
      | (with_reducible exact ih2 _ _ _ _ _ _ _)
      | (with_reducible exact gimmallaw0_SameItems.mono _ _ _)
      | (with_reducible exact gimmallaw6_awake.mono _)
      | (with_reducible exact span_Of.mono _ _ _ _)
      | (with_reducible exact LeO.refl _)
      | (with_reducible exact LeO.none _)
      | (with_reducible refine LeO.ite ?_ ?_)
      | (with_reducible refine LeO.bind ?_ (fun _ => ?_))
      | exact ih0 _ _ _ _ _ _
      | exact ih1 _ _ _ _ _ _
      | exact ih2 _ _ _ _ _ _ _
      | exact gimmallaw0_SameItems.mono _ _ _
      | exact gimmallaw6_awake.mono _
      | exact span_Of.mono _ _ _ _
      | exact LeO.none _
      | refine LeO.ite ?_ ?_
      | refine LeO.bind ?_ (fun _ => ?_)
    · intro y0 y1 y2 y3 y4 y5
      unfold gimmallaw6_SpanParts.l0
      repeat' first
      | (with_reducible exact ih0 _ _ _ _ _ _)
      | (with_reducible exact ih1 _ _ _ _ _ _)
      | (with_reducible exact ih2 _ _ _ _ _ _ _)
      | (with_reducible exact gimmallaw0_SameItems.mono _ _ _)
      | (with_reducible exact gimmallaw6_awake.mono _)
      | (with_reducible exact span_Of.mono _ _ _ _)
      | (with_reducible exact LeO.refl _)
      | (with_reducible exact LeO.none _)
      | (with_reducible refine LeO.ite ?_ ?_)
      | (with_reducible refine LeO.bind ?_ (fun _ => ?_))
      | exact ih0 _ _ _ _ _ _
      | exact ih1 _ _ _ _ _ _
      | exact ih2 _ _ _ _ _ _ _
      | exact gimmallaw0_SameItems.mono _ _ _
      | exact gimmallaw6_awake.mono _
      | exact span_Of.mono _ _ _ _
      | exact LeO.none _
      | refine LeO.ite ?_ ?_
      | refine LeO.bind ?_ (fun _ => ?_)
    · intro y0 y1 y2 y3 y4 y5 y6
      unfold gimmallaw6_SpanParts.j2
      repeat' first
      | (with_reducible exact ih0 _ _ _ _ _ _)
      | (with_reducible exact ih1 _ _ _ _ _ _)
      | (with_reducible exact ih2 _ _ _ _ _ _ _)
      | (with_reducible exact gimmallaw0_SameItems.mono _ _ _)
      | (with_reducible exact gimmallaw6_awake.mono _)
      | (with_reducible exact span_Of.mono _ _ _ _)
      | (with_reducible exact LeO.refl _)
      | (with_reducible exact LeO.none _)
      | (with_reducible refine LeO.ite ?_ ?_)
      | (with_reducible refine LeO.bind ?_ (fun _ => ?_))
      | exact ih0 _ _ _ _ _ _
      | exact ih1 _ _ _ _ _ _
      | exact ih2 _ _ _ _ _ _ _
      | exact gimmallaw0_SameItems.mono _ _ _
      | exact gimmallaw6_awake.mono _
      | exact span_Of.mono _ _ _ _
      | exact LeO.none _
      | refine LeO.ite ?_ ?_
      | refine LeO.bind ?_ (fun _ => ?_)
theorem gimmallaw6_SpanParts.mono : ∀ a0 a1 a2 k, LeO (gimmallaw6_SpanParts.f k a0 a1 a2) (gimmallaw6_SpanParts.f (k + 1) a0 a1 a2) := by
  intro a0 a1 a2 k
  obtain ⟨ih0, ih1, ih2⟩ := gimmallaw6_SpanParts.mono_l k
  unfold gimmallaw6_SpanParts.f
  repeat' first
      | (with_reducible exact ih0 _ _ _ _ _ _)
      | (with_reducible exact ih1 _ _ _ _ _ _)
      | (with_reducible exact ih2 _ _ _ _ _ _ _)
      | (with_reducible exact gimmallaw0_SameItems.mono _ _ _)
      | (with_reducible exact gimmallaw6_awake.mono _)
      | (with_reducible exact span_Of.mono _ _ _ _)
      | (with_reducible exact LeO.refl _)
      | (with_reducible exact LeO.none _)
      | (with_reducible refine LeO.ite ?_ ?_)
      | (with_reducible refine LeO.bind ?_ (fun _ => ?_))
      | exact ih0 _ _ _ _ _ _
      | exact ih1 _ _ _ _ _ _
      | exact ih2 _ _ _ _ _ _ _
      | exact gimmallaw0_SameItems.mono _ _ _
      | exact gimmallaw6_awake.mono _
      | exact span_Of.mono _ _ _ _
      | exact LeO.none _
      | refine LeO.ite ?_ ?_
      | refine LeO.bind ?_ (fun _ => ?_)
set_option maxHeartbeats 8000000 in
set_option maxRecDepth 100000 in
theorem gimmallaw6_SpanParts.calls (k : Nat) (A0 : Option Addr) (c0 : Nat) (l0 : List (S25)) (a1 : Int) (a2 : Int) (w : World) (hr0 : Kd.C k25 w A0 l0.length l0) (hc0 : l0.length ≤ c0) (h : gimmallaw6_SpanParts.f k l0 a1 a2 = some true) :
    Calls Try.prog 10 #[.slice A0 l0.length c0, .int .i64 a1, .int .i64 a2] w fun e w' => e = .returned (.bool true) ∧ Below w.heap.size w w' := by
  have hu25 := Try.underlying25
  have HR0 := Aside0.mk hr0
  have HC0 := Aside0.mk hc0
  clear hr0 hc0
  have HB := Aside0.mk (Below.refl w.heap.size w)
  have H : ((gimmallaw6_awake.f k).bind fun t247 => (if t247 = true then ((span_Of.f k l0 (Go.bits .and .i64 a1 255) (Go.bits .and .i64 a2 255)).bind fun bt248 => ((span_Of.f k l0 (Go.bits .and .i64 a2 255) (Go.bits .and .i64 a1 255)).bind fun bt252 => ((gimmallaw0_Num.f bt248.2).bind fun t256 => (if t256 = 0 then ((gimmallaw0_Num.f bt252.2).bind fun t257 => (gimmallaw6_SpanParts.j0 k l0 (Go.bits .and .i64 a1 255) (Go.bits .and .i64 a2 255) bt248.1 bt252.1 (t257 != 0))) else (gimmallaw6_SpanParts.j0 k l0 (Go.bits .and .i64 a1 255) (Go.bits .and .i64 a2 255) bt248.1 bt252.1 true))))) else (some false))) = some true := h
  clear h
  replace H := Option.bind_eq_some_iff.mp H
  obtain ⟨t247, A40, H⟩ := H
  replace H : (if t247 = true then ((span_Of.f k l0 (Go.bits .and .i64 a1 255) (Go.bits .and .i64 a2 255)).bind fun bt248 => ((span_Of.f k l0 (Go.bits .and .i64 a2 255) (Go.bits .and .i64 a1 255)).bind fun bt252 => ((gimmallaw0_Num.f bt248.2).bind fun t256 => (if t256 = 0 then ((gimmallaw0_Num.f bt252.2).bind fun t257 => (gimmallaw6_SpanParts.j0 k l0 (Go.bits .and .i64 a1 255) (Go.bits .and .i64 a2 255) bt248.1 bt252.1 (t257 != 0))) else (gimmallaw6_SpanParts.j0 k l0 (Go.bits .and .i64 a1 255) (Go.bits .and .i64 a2 255) bt248.1 bt252.1 true))))) else (some false)) = some true := H
  have A4 := Aside0.mk A40
  clear A40
  by_cases c5 : t247 = true
  · subst c5
    have H1 : ((span_Of.f k l0 (Go.bits .and .i64 a1 255) (Go.bits .and .i64 a2 255)).bind fun bt248 => ((span_Of.f k l0 (Go.bits .and .i64 a2 255) (Go.bits .and .i64 a1 255)).bind fun bt252 => ((gimmallaw0_Num.f bt248.2).bind fun t256 => (if t256 = 0 then ((gimmallaw0_Num.f bt252.2).bind fun t257 => (gimmallaw6_SpanParts.j0 k l0 (Go.bits .and .i64 a1 255) (Go.bits .and .i64 a2 255) bt248.1 bt252.1 (t257 != 0))) else (gimmallaw6_SpanParts.j0 k l0 (Go.bits .and .i64 a1 255) (Go.bits .and .i64 a2 255) bt248.1 bt252.1 true))))) = some true := by rw [if_pos rfl] at H; exact H
    clear H
    have H := H1
    clear H1
    replace H := Option.bind_eq_some_iff.mp H
    obtain ⟨⟨t248, t249⟩, A60, H⟩ := H
    replace H : ((span_Of.f k l0 (Go.bits .and .i64 a2 255) (Go.bits .and .i64 a1 255)).bind fun bt252 => ((gimmallaw0_Num.f t249).bind fun t256 => (if t256 = 0 then ((gimmallaw0_Num.f bt252.2).bind fun t257 => (gimmallaw6_SpanParts.j0 k l0 (Go.bits .and .i64 a1 255) (Go.bits .and .i64 a2 255) t248 bt252.1 (t257 != 0))) else (gimmallaw6_SpanParts.j0 k l0 (Go.bits .and .i64 a1 255) (Go.bits .and .i64 a2 255) t248 bt252.1 true)))) = some true := H
    have A6 := Aside0.mk A60
    clear A60
    replace H := Option.bind_eq_some_iff.mp H
    obtain ⟨⟨t252, t253⟩, A70, H⟩ := H
    replace H : ((gimmallaw0_Num.f t249).bind fun t256 => (if t256 = 0 then ((gimmallaw0_Num.f t253).bind fun t257 => (gimmallaw6_SpanParts.j0 k l0 (Go.bits .and .i64 a1 255) (Go.bits .and .i64 a2 255) t248 t252 (t257 != 0))) else (gimmallaw6_SpanParts.j0 k l0 (Go.bits .and .i64 a1 255) (Go.bits .and .i64 a2 255) t248 t252 true))) = some true := H
    have A7 := Aside0.mk A70
    clear A70
    have HC8 := Aside0.mk H
    clear H
    go_enter Try.func10, Try.ntmps10
    go_upto_region 6 with (first | (go_at_call 26; (with_reducible refine (gimmallaw6_awake.calls k  true _ A4.out).mono ?_); rintro e w9 ⟨rfl, hb⟩; have n0_ := Aside0.mk (below_step (by repeat (first | (with_reducible first | exact HB.out | apply below_alloc | apply pw_below_drewN | apply below_drew1) | exact HB.out)) hb); clear HB; have HB := n0_; clear n0_; (try clear hb); (try clear hb2); (try clear hk); (try clear hi)) | (go_at_call 21; (with_reducible refine (span_Of.calls k _ _ l0 (Go.bits .and .i64 a1 255) (Go.bits .and .i64 a2 255) t248 t249 _ ?side1 ?side2 A6.out).mono ?_); (case side1 => repeat (first | exact (Kd.C_below HR0.out HB.out) | (with_reducible refine Kd.C_alloc ?_ _) | (with_reducible refine Kd.C_drewN ?_ _) | (with_reducible refine Kd.C_drew ?_))); (case side2 => exact HC0.out); rintro e w10 ⟨v250, rfl, ho0, hb⟩; have n0_ := Aside0.mk (Kd.R_lower ho0 (below_size (by repeat (first | (with_reducible first | exact HB.out | apply below_alloc | apply pw_below_drewN | apply below_drew1) | exact HB.out)))); have n1_ := Aside0.mk (below_step (by repeat (first | (with_reducible first | exact HB.out | apply below_alloc | apply pw_below_drewN | apply below_drew1) | exact HB.out)) hb); clear HB; have HO251 := n0_; have HB := n1_; clear n0_ n1_; (try clear hb); (try clear hb2); (try clear hk); (try clear hi); (try clear ho0)) | (go_at_call 21; (with_reducible refine (span_Of.calls k _ _ l0 (Go.bits .and .i64 a2 255) (Go.bits .and .i64 a1 255) t252 t253 _ ?side1 ?side2 A7.out).mono ?_); (case side1 => repeat (first | exact (Kd.C_below HR0.out HB.out) | (with_reducible refine Kd.C_alloc ?_ _) | (with_reducible refine Kd.C_drewN ?_ _) | (with_reducible refine Kd.C_drew ?_))); (case side2 => exact HC0.out); rintro e w11 ⟨v254, rfl, ho0, hb⟩; have n0_ := Aside0.mk (Kd.R_elder' (by (with_reducible repeat (first | apply Kd.R_alloc | apply Kd.R_drewN | apply Kd.R_drew)); exact HO251.out) (Kd.R_base ho0) hb); have n1_ := Aside0.mk (Kd.R_lower (Kd.R_new' ho0 (Kd.R_lt (by (with_reducible repeat (first | apply Kd.R_alloc | apply Kd.R_drewN | apply Kd.R_drew)); exact HO251.out))) (below_size (by repeat (first | (with_reducible first | exact HB.out | apply below_alloc | apply pw_below_drewN | apply below_drew1) | exact HB.out)))); have n2_ := Aside0.mk (below_step (by repeat (first | (with_reducible first | exact HB.out | apply below_alloc | apply pw_below_drewN | apply below_drew1) | exact HB.out)) hb); clear HO251; clear HB; have HO251 := n0_; have HO255 := n1_; have HB := n2_; clear n0_ n1_ n2_; (try clear hb); (try clear hb2); (try clear hk); (try clear hi); (try clear ho0)))
    repeat (go_quiet (first | (go_at_call 26; (with_reducible refine (gimmallaw6_awake.calls k  true _ A4.out).mono ?_); rintro e w9 ⟨rfl, hb⟩; have n0_ := Aside0.mk (below_step (by repeat (first | (with_reducible first | exact HB.out | apply below_alloc | apply pw_below_drewN | apply below_drew1) | exact HB.out)) hb); clear HB; have HB := n0_; clear n0_; (try clear hb); (try clear hb2); (try clear hk); (try clear hi)) | (go_at_call 21; (with_reducible refine (span_Of.calls k _ _ l0 (Go.bits .and .i64 a1 255) (Go.bits .and .i64 a2 255) t248 t249 _ ?side1 ?side2 A6.out).mono ?_); (case side1 => repeat (first | exact (Kd.C_below HR0.out HB.out) | (with_reducible refine Kd.C_alloc ?_ _) | (with_reducible refine Kd.C_drewN ?_ _) | (with_reducible refine Kd.C_drew ?_))); (case side2 => exact HC0.out); rintro e w10 ⟨v250, rfl, ho0, hb⟩; have n0_ := Aside0.mk (Kd.R_lower ho0 (below_size (by repeat (first | (with_reducible first | exact HB.out | apply below_alloc | apply pw_below_drewN | apply below_drew1) | exact HB.out)))); have n1_ := Aside0.mk (below_step (by repeat (first | (with_reducible first | exact HB.out | apply below_alloc | apply pw_below_drewN | apply below_drew1) | exact HB.out)) hb); clear HB; have HO251 := n0_; have HB := n1_; clear n0_ n1_; (try clear hb); (try clear hb2); (try clear hk); (try clear hi); (try clear ho0)) | (go_at_call 21; (with_reducible refine (span_Of.calls k _ _ l0 (Go.bits .and .i64 a2 255) (Go.bits .and .i64 a1 255) t252 t253 _ ?side1 ?side2 A7.out).mono ?_); (case side1 => repeat (first | exact (Kd.C_below HR0.out HB.out) | (with_reducible refine Kd.C_alloc ?_ _) | (with_reducible refine Kd.C_drewN ?_ _) | (with_reducible refine Kd.C_drew ?_))); (case side2 => exact HC0.out); rintro e w11 ⟨v254, rfl, ho0, hb⟩; have n0_ := Aside0.mk (Kd.R_elder' (by (with_reducible repeat (first | apply Kd.R_alloc | apply Kd.R_drewN | apply Kd.R_drew)); exact HO251.out) (Kd.R_base ho0) hb); have n1_ := Aside0.mk (Kd.R_lower (Kd.R_new' ho0 (Kd.R_lt (by (with_reducible repeat (first | apply Kd.R_alloc | apply Kd.R_drewN | apply Kd.R_drew)); exact HO251.out))) (below_size (by repeat (first | (with_reducible first | exact HB.out | apply below_alloc | apply pw_below_drewN | apply below_drew1) | exact HB.out)))); have n2_ := Aside0.mk (below_step (by repeat (first | (with_reducible first | exact HB.out | apply below_alloc | apply pw_below_drewN | apply below_drew1) | exact HB.out)) hb); clear HO251; clear HB; have HO251 := n0_; have HO255 := n1_; have HB := n2_; clear n0_ n1_ n2_; (try clear hb); (try clear hb2); (try clear hk); (try clear hi); (try clear ho0))); go_upto_region 6 with (first | (go_at_call 26; (with_reducible refine (gimmallaw6_awake.calls k  true _ A4.out).mono ?_); rintro e w9 ⟨rfl, hb⟩; have n0_ := Aside0.mk (below_step (by repeat (first | (with_reducible first | exact HB.out | apply below_alloc | apply pw_below_drewN | apply below_drew1) | exact HB.out)) hb); clear HB; have HB := n0_; clear n0_; (try clear hb); (try clear hb2); (try clear hk); (try clear hi)) | (go_at_call 21; (with_reducible refine (span_Of.calls k _ _ l0 (Go.bits .and .i64 a1 255) (Go.bits .and .i64 a2 255) t248 t249 _ ?side1 ?side2 A6.out).mono ?_); (case side1 => repeat (first | exact (Kd.C_below HR0.out HB.out) | (with_reducible refine Kd.C_alloc ?_ _) | (with_reducible refine Kd.C_drewN ?_ _) | (with_reducible refine Kd.C_drew ?_))); (case side2 => exact HC0.out); rintro e w10 ⟨v250, rfl, ho0, hb⟩; have n0_ := Aside0.mk (Kd.R_lower ho0 (below_size (by repeat (first | (with_reducible first | exact HB.out | apply below_alloc | apply pw_below_drewN | apply below_drew1) | exact HB.out)))); have n1_ := Aside0.mk (below_step (by repeat (first | (with_reducible first | exact HB.out | apply below_alloc | apply pw_below_drewN | apply below_drew1) | exact HB.out)) hb); clear HB; have HO251 := n0_; have HB := n1_; clear n0_ n1_; (try clear hb); (try clear hb2); (try clear hk); (try clear hi); (try clear ho0)) | (go_at_call 21; (with_reducible refine (span_Of.calls k _ _ l0 (Go.bits .and .i64 a2 255) (Go.bits .and .i64 a1 255) t252 t253 _ ?side1 ?side2 A7.out).mono ?_); (case side1 => repeat (first | exact (Kd.C_below HR0.out HB.out) | (with_reducible refine Kd.C_alloc ?_ _) | (with_reducible refine Kd.C_drewN ?_ _) | (with_reducible refine Kd.C_drew ?_))); (case side2 => exact HC0.out); rintro e w11 ⟨v254, rfl, ho0, hb⟩; have n0_ := Aside0.mk (Kd.R_elder' (by (with_reducible repeat (first | apply Kd.R_alloc | apply Kd.R_drewN | apply Kd.R_drew)); exact HO251.out) (Kd.R_base ho0) hb); have n1_ := Aside0.mk (Kd.R_lower (Kd.R_new' ho0 (Kd.R_lt (by (with_reducible repeat (first | apply Kd.R_alloc | apply Kd.R_drewN | apply Kd.R_drew)); exact HO251.out))) (below_size (by repeat (first | (with_reducible first | exact HB.out | apply below_alloc | apply pw_below_drewN | apply below_drew1) | exact HB.out)))); have n2_ := Aside0.mk (below_step (by repeat (first | (with_reducible first | exact HB.out | apply below_alloc | apply pw_below_drewN | apply below_drew1) | exact HB.out)) hb); clear HO251; clear HB; have HO251 := n0_; have HO255 := n1_; have HB := n2_; clear n0_ n1_ n2_; (try clear hb); (try clear hb2); (try clear hk); (try clear hi); (try clear ho0))))
    (try simp only [Act.put, List.setIfInBounds_toArray, List.set_cons_zero, List.set_cons_succ])
    go_cut [43] (fun v43 wc => ∃ (kq : Nat) (x43_7 : Bool), v43 = .bool x43_7 ∧ Aside0 (gimmallaw6_SpanParts.j0 kq l0 (Go.bits .and .i64 a1 255) (Go.bits .and .i64 a2 255) t248 t252 x43_7 = some true) ∧ Aside0 (kq ≤ k) ∧ Aside0 (Kd.R k25 25 wc w.heap.size (fun k_ => some k_ ≠ (v254 : Value).ownBlock) v250 t248) ∧ Aside0 (Kd.R k25 25 wc w.heap.size (fun k_ => some k_ ≠ (v250 : Value).ownBlock) v254 t252) ∧ Aside0 (Below w.heap.size w wc))
    case first =>
      have H := HC8.out
      clear HC8
      replace H := Option.bind_eq_some_iff.mp H
      obtain ⟨t256, A120, H⟩ := H
      replace H : (if t256 = 0 then ((gimmallaw0_Num.f t253).bind fun t257 => (gimmallaw6_SpanParts.j0 k l0 (Go.bits .and .i64 a1 255) (Go.bits .and .i64 a2 255) t248 t252 (t257 != 0))) else (gimmallaw6_SpanParts.j0 k l0 (Go.bits .and .i64 a1 255) (Go.bits .and .i64 a2 255) t248 t252 true)) = some true := H
      have A12 := Aside0.mk A120
      clear A120
      by_cases c13 : t256 = 0
      · rw [if_pos c13] at H
        have c13b0 : (t256 == 0) = true := beq_iff_eq.mpr c13
        have c13b1 : (t256 != 0) = false := bne_eq_false_iff_eq.mpr c13
        clear c13
        (first | rw [c13b0] | (simp only [i64_w, i32_w]; rw [c13b0]) | skip)
        replace H := Option.bind_eq_some_iff.mp H
        obtain ⟨t257, A140, H⟩ := H
        replace H : (gimmallaw6_SpanParts.j0 k l0 (Go.bits .and .i64 a1 255) (Go.bits .and .i64 a2 255) t248 t252 (t257 != 0)) = some true := H
        have A14 := Aside0.mk A140
        clear A140
        have H' := Aside0.mk H
        clear H
        go_wp2_with (first | (go_at_call 15; (with_reducible refine (gimmallaw0_Num.calls t249 t256 _ A12.out).mono ?_); rintro e w' ⟨rfl, ⟨nd, rfl⟩⟩; (try first | exact ⟨rfl, _, World.drewN_drewN _ _ _⟩ | exact ⟨rfl, _, Eq.trans (World.drewN_drewN _ _ _) (congrArg (World.drewN _) (Nat.add_assoc _ _ _))⟩)) | (go_at_call 15; (with_reducible refine (gimmallaw0_Num.calls t253 t257 _ A14.out).mono ?_); rintro e w' ⟨rfl, ⟨nd, rfl⟩⟩; (try first | exact ⟨rfl, _, World.drewN_drewN _ _ _⟩ | exact ⟨rfl, _, Eq.trans (World.drewN_drewN _ _ _) (congrArg (World.drewN _) (Nat.add_assoc _ _ _))⟩)))
        repeat (go_quiet (first | (go_at_call 15; (with_reducible refine (gimmallaw0_Num.calls t249 t256 _ A12.out).mono ?_); rintro e w' ⟨rfl, ⟨nd, rfl⟩⟩; (try first | exact ⟨rfl, _, World.drewN_drewN _ _ _⟩ | exact ⟨rfl, _, Eq.trans (World.drewN_drewN _ _ _) (congrArg (World.drewN _) (Nat.add_assoc _ _ _))⟩)) | (go_at_call 15; (with_reducible refine (gimmallaw0_Num.calls t253 t257 _ A14.out).mono ?_); rintro e w' ⟨rfl, ⟨nd, rfl⟩⟩; (try first | exact ⟨rfl, _, World.drewN_drewN _ _ _⟩ | exact ⟨rfl, _, Eq.trans (World.drewN_drewN _ _ _) (congrArg (World.drewN _) (Nat.add_assoc _ _ _))⟩))); try go_wp2_with (first | (go_at_call 15; (with_reducible refine (gimmallaw0_Num.calls t249 t256 _ A12.out).mono ?_); rintro e w' ⟨rfl, ⟨nd, rfl⟩⟩; (try first | exact ⟨rfl, _, World.drewN_drewN _ _ _⟩ | exact ⟨rfl, _, Eq.trans (World.drewN_drewN _ _ _) (congrArg (World.drewN _) (Nat.add_assoc _ _ _))⟩)) | (go_at_call 15; (with_reducible refine (gimmallaw0_Num.calls t253 t257 _ A14.out).mono ?_); rintro e w' ⟨rfl, ⟨nd, rfl⟩⟩; (try first | exact ⟨rfl, _, World.drewN_drewN _ _ _⟩ | exact ⟨rfl, _, Eq.trans (World.drewN_drewN _ _ _) (congrArg (World.drewN _) (Nat.add_assoc _ _ _))⟩))))
        go_meet
        case rel => exact ⟨_, ((t257 != 0)), (by first | rfl | (simp; done) | (simp [*]; done)), H', ⟨by first | omega | exact Nat.le_refl _⟩, ⟨by (with_reducible repeat (first | apply Kd.R_alloc | apply Kd.R_drewN | apply Kd.R_drew)); exact Kd.R_mono HO251.out (fun _ hk => hk.2)⟩, ⟨by (with_reducible repeat (first | apply Kd.R_alloc | apply Kd.R_drewN | apply Kd.R_drew)); exact Kd.R_mono HO255.out (fun _ hk => hk.2)⟩, ⟨by repeat (first | (with_reducible first | exact HB.out | apply below_alloc | apply pw_below_drewN | apply below_drew1) | exact HB.out)⟩⟩
      · rw [if_neg c13] at H
        have c13b0 : (t256 == 0) = false := beq_eq_false_iff_ne.mpr c13
        have c13b1 : (t256 != 0) = true := bne_iff_ne.mpr c13
        (first | rw [c13b0] | (simp only [i64_w, i32_w]; rw [c13b0]) | skip)
        have H' := Aside0.mk H
        clear H
        go_wp2_with (first | (go_at_call 15; (with_reducible refine (gimmallaw0_Num.calls t249 t256 _ A12.out).mono ?_); rintro e w' ⟨rfl, ⟨nd, rfl⟩⟩; (try first | exact ⟨rfl, _, World.drewN_drewN _ _ _⟩ | exact ⟨rfl, _, Eq.trans (World.drewN_drewN _ _ _) (congrArg (World.drewN _) (Nat.add_assoc _ _ _))⟩)))
        repeat (go_quiet (first | (go_at_call 15; (with_reducible refine (gimmallaw0_Num.calls t249 t256 _ A12.out).mono ?_); rintro e w' ⟨rfl, ⟨nd, rfl⟩⟩; (try first | exact ⟨rfl, _, World.drewN_drewN _ _ _⟩ | exact ⟨rfl, _, Eq.trans (World.drewN_drewN _ _ _) (congrArg (World.drewN _) (Nat.add_assoc _ _ _))⟩))); try go_wp2_with (first | (go_at_call 15; (with_reducible refine (gimmallaw0_Num.calls t249 t256 _ A12.out).mono ?_); rintro e w' ⟨rfl, ⟨nd, rfl⟩⟩; (try first | exact ⟨rfl, _, World.drewN_drewN _ _ _⟩ | exact ⟨rfl, _, Eq.trans (World.drewN_drewN _ _ _) (congrArg (World.drewN _) (Nat.add_assoc _ _ _))⟩))))
        go_meet
        case rel => exact ⟨_, (true), (by first | rfl | (simp; done) | (simp [*]; done)), H', ⟨by first | omega | exact Nat.le_refl _⟩, ⟨by (with_reducible repeat (first | apply Kd.R_alloc | apply Kd.R_drewN | apply Kd.R_drew)); exact Kd.R_mono HO251.out (fun _ hk => hk.2)⟩, ⟨by (with_reducible repeat (first | apply Kd.R_alloc | apply Kd.R_drewN | apply Kd.R_drew)); exact Kd.R_mono HO255.out (fun _ hk => hk.2)⟩, ⟨by repeat (first | (with_reducible first | exact HB.out | apply below_alloc | apply pw_below_drewN | apply below_drew1) | exact HB.out)⟩⟩
    case rest =>
      clear HC8
      try clear c1
      try clear p2
      try clear c5
      try clear c10
      try clear c13
      try clear c13b0
      try clear c13b1
      obtain ⟨kq, x43_7, rfl, HA, HJ7, HO_9, HO_11, HB⟩ := hcut
      cases kq with
      | zero => exact absurd HA.out (by simp [gimmallaw6_SpanParts.j0])
      | succ kj7 =>
        have H := HA.out
        clear HA
        simp only [gimmallaw6_SpanParts.j0] at H
        by_cases c15 : x43_7 = true
        · subst c15
          have H1 : (some ((wrap64 ((t248.length : Int) + (t252.length : Int))) == 0)) = some true := by rw [if_pos rfl] at H; exact H
          clear H
          have H := H1
          clear H1
          have HR := Aside0.mk (Option.some.inj H)
          clear H
          obtain ⟨Ao16, co16, eo16⟩ := Kd.R_slice HO_9.out
          subst eo16
          obtain ⟨Ao17, co17, eo17⟩ := Kd.R_slice HO_11.out
          subst eo17
          go_wp2
          repeat (go_quiet (fail); try go_wp2)
          go_ret
          exact ⟨by first | exact (congrArg (fun b => Ending.returned (Value.bool b)) HR.out) | (have HRS := HR.out; simp at HRS; simp [HRS]; done) | rfl | (simp [errW_none, errW_some] <;> rfl) | (simp [*, errW_none, errW_some] <;> rfl), by repeat (first | (with_reducible first | exact HB.out | apply below_alloc | apply pw_below_drewN | apply below_drew1) | exact HB.out)⟩
        · replace c15 := Bool.eq_false_iff.mpr c15
          subst c15
          have H1 : (if (Go.bits .and .i64 a1 255) = (Go.bits .and .i64 a2 255) then ((gimmallaw0_SameItems.f kj7 t248 l0).bind fun t258 => (if t258 = true then ((gimmallaw0_SameItems.f kj7 t252 l0).bind fun t259 => (some t259)) else (some false))) else (gimmallaw6_SpanParts.l0 kj7 l0 t248 t252 0 0 0)) = some true := by rw [if_neg (show ¬ (false = true) by decide)] at H; exact H
          clear H
          have H := H1
          clear H1
          by_cases c18 : (Go.bits .and .i64 a1 255) = (Go.bits .and .i64 a2 255)
          · rw [if_pos c18] at H
            have c18b0 : ((Go.bits .and .i64 a1 255) == (Go.bits .and .i64 a2 255)) = true := beq_iff_eq.mpr c18
            have c18b1 : ((Go.bits .and .i64 a1 255) != (Go.bits .and .i64 a2 255)) = false := bne_eq_false_iff_eq.mpr c18
            clear c18
            replace H := Option.bind_eq_some_iff.mp H
            obtain ⟨t258, A190, H⟩ := H
            replace H : (if t258 = true then ((gimmallaw0_SameItems.f kj7 t252 l0).bind fun t259 => (some t259)) else (some false)) = some true := H
            have A19 := Aside0.mk A190
            clear A190
            by_cases c20 : t258 = true
            · subst c20
              have H1 : ((gimmallaw0_SameItems.f kj7 t252 l0).bind fun t259 => (some t259)) = some true := by rw [if_pos rfl] at H; exact H
              clear H
              have H := H1
              clear H1
              replace H := Option.bind_eq_some_iff.mp H
              obtain ⟨t259, A210, H⟩ := H
              replace H : (some t259) = some true := H
              have A21 := Aside0.mk A210
              clear A210
              have HR := Aside0.mk (Option.some.inj H)
              clear H
              obtain ⟨Ao22, co22, eo22⟩ := Kd.R_slice HO_9.out
              subst eo22
              go_wp2_with (first | (go_at_call 23; (with_reducible refine (gimmallaw0_SameItems.calls kj7 _ _ t248 _ _ l0 true _ ?side1 ?side2 ?side3 ?side4 A19.out).mono ?_); (case side1 => repeat (first | exact (Kd.R_reads' HO_9.out).2.2 | (with_reducible refine Kd.C_alloc ?_ _) | (with_reducible refine Kd.C_drewN ?_ _) | (with_reducible refine Kd.C_drew ?_))); (case side2 => exact (Kd.R_reads' HO_9.out).2.1); (case side3 => repeat (first | exact (Kd.C_below HR0.out HB.out) | (with_reducible refine Kd.C_alloc ?_ _) | (with_reducible refine Kd.C_drewN ?_ _) | (with_reducible refine Kd.C_drew ?_))); (case side4 => exact HC0.out); rintro e w' ⟨rfl, ⟨nd, rfl⟩⟩; (try first | exact ⟨rfl, _, World.drewN_drewN _ _ _⟩ | exact ⟨rfl, _, Eq.trans (World.drewN_drewN _ _ _) (congrArg (World.drewN _) (Nat.add_assoc _ _ _))⟩); obtain ⟨Ao23, co23, eo23⟩ := Kd.R_slice HO_11.out; subst eo23) | (go_at_call 23; (with_reducible refine (gimmallaw0_SameItems.calls kj7 _ _ t252 _ _ l0 t259 _ ?side1 ?side2 ?side3 ?side4 A21.out).mono ?_); (case side1 => repeat (first | exact (Kd.R_reads' HO_11.out).2.2 | (with_reducible refine Kd.C_alloc ?_ _) | (with_reducible refine Kd.C_drewN ?_ _) | (with_reducible refine Kd.C_drew ?_))); (case side2 => exact (Kd.R_reads' HO_11.out).2.1); (case side3 => repeat (first | exact (Kd.C_below HR0.out (by repeat (first | (with_reducible first | exact HB.out | apply below_alloc | apply pw_below_drewN | apply below_drew1) | exact HB.out))) | (with_reducible refine Kd.C_alloc ?_ _) | (with_reducible refine Kd.C_drewN ?_ _) | (with_reducible refine Kd.C_drew ?_))); (case side4 => exact HC0.out); rintro e w' ⟨rfl, ⟨nd, rfl⟩⟩; (try first | exact ⟨rfl, _, World.drewN_drewN _ _ _⟩ | exact ⟨rfl, _, Eq.trans (World.drewN_drewN _ _ _) (congrArg (World.drewN _) (Nat.add_assoc _ _ _))⟩)))
              repeat (go_quiet (first | (go_at_call 23; (with_reducible refine (gimmallaw0_SameItems.calls kj7 _ _ t248 _ _ l0 true _ ?side1 ?side2 ?side3 ?side4 A19.out).mono ?_); (case side1 => repeat (first | exact (Kd.R_reads' HO_9.out).2.2 | (with_reducible refine Kd.C_alloc ?_ _) | (with_reducible refine Kd.C_drewN ?_ _) | (with_reducible refine Kd.C_drew ?_))); (case side2 => exact (Kd.R_reads' HO_9.out).2.1); (case side3 => repeat (first | exact (Kd.C_below HR0.out HB.out) | (with_reducible refine Kd.C_alloc ?_ _) | (with_reducible refine Kd.C_drewN ?_ _) | (with_reducible refine Kd.C_drew ?_))); (case side4 => exact HC0.out); rintro e w' ⟨rfl, ⟨nd, rfl⟩⟩; (try first | exact ⟨rfl, _, World.drewN_drewN _ _ _⟩ | exact ⟨rfl, _, Eq.trans (World.drewN_drewN _ _ _) (congrArg (World.drewN _) (Nat.add_assoc _ _ _))⟩); obtain ⟨Ao23, co23, eo23⟩ := Kd.R_slice HO_11.out; subst eo23) | (go_at_call 23; (with_reducible refine (gimmallaw0_SameItems.calls kj7 _ _ t252 _ _ l0 t259 _ ?side1 ?side2 ?side3 ?side4 A21.out).mono ?_); (case side1 => repeat (first | exact (Kd.R_reads' HO_11.out).2.2 | (with_reducible refine Kd.C_alloc ?_ _) | (with_reducible refine Kd.C_drewN ?_ _) | (with_reducible refine Kd.C_drew ?_))); (case side2 => exact (Kd.R_reads' HO_11.out).2.1); (case side3 => repeat (first | exact (Kd.C_below HR0.out (by repeat (first | (with_reducible first | exact HB.out | apply below_alloc | apply pw_below_drewN | apply below_drew1) | exact HB.out))) | (with_reducible refine Kd.C_alloc ?_ _) | (with_reducible refine Kd.C_drewN ?_ _) | (with_reducible refine Kd.C_drew ?_))); (case side4 => exact HC0.out); rintro e w' ⟨rfl, ⟨nd, rfl⟩⟩; (try first | exact ⟨rfl, _, World.drewN_drewN _ _ _⟩ | exact ⟨rfl, _, Eq.trans (World.drewN_drewN _ _ _) (congrArg (World.drewN _) (Nat.add_assoc _ _ _))⟩))); try go_wp2_with (first | (go_at_call 23; (with_reducible refine (gimmallaw0_SameItems.calls kj7 _ _ t248 _ _ l0 true _ ?side1 ?side2 ?side3 ?side4 A19.out).mono ?_); (case side1 => repeat (first | exact (Kd.R_reads' HO_9.out).2.2 | (with_reducible refine Kd.C_alloc ?_ _) | (with_reducible refine Kd.C_drewN ?_ _) | (with_reducible refine Kd.C_drew ?_))); (case side2 => exact (Kd.R_reads' HO_9.out).2.1); (case side3 => repeat (first | exact (Kd.C_below HR0.out HB.out) | (with_reducible refine Kd.C_alloc ?_ _) | (with_reducible refine Kd.C_drewN ?_ _) | (with_reducible refine Kd.C_drew ?_))); (case side4 => exact HC0.out); rintro e w' ⟨rfl, ⟨nd, rfl⟩⟩; (try first | exact ⟨rfl, _, World.drewN_drewN _ _ _⟩ | exact ⟨rfl, _, Eq.trans (World.drewN_drewN _ _ _) (congrArg (World.drewN _) (Nat.add_assoc _ _ _))⟩); obtain ⟨Ao23, co23, eo23⟩ := Kd.R_slice HO_11.out; subst eo23) | (go_at_call 23; (with_reducible refine (gimmallaw0_SameItems.calls kj7 _ _ t252 _ _ l0 t259 _ ?side1 ?side2 ?side3 ?side4 A21.out).mono ?_); (case side1 => repeat (first | exact (Kd.R_reads' HO_11.out).2.2 | (with_reducible refine Kd.C_alloc ?_ _) | (with_reducible refine Kd.C_drewN ?_ _) | (with_reducible refine Kd.C_drew ?_))); (case side2 => exact (Kd.R_reads' HO_11.out).2.1); (case side3 => repeat (first | exact (Kd.C_below HR0.out (by repeat (first | (with_reducible first | exact HB.out | apply below_alloc | apply pw_below_drewN | apply below_drew1) | exact HB.out))) | (with_reducible refine Kd.C_alloc ?_ _) | (with_reducible refine Kd.C_drewN ?_ _) | (with_reducible refine Kd.C_drew ?_))); (case side4 => exact HC0.out); rintro e w' ⟨rfl, ⟨nd, rfl⟩⟩; (try first | exact ⟨rfl, _, World.drewN_drewN _ _ _⟩ | exact ⟨rfl, _, Eq.trans (World.drewN_drewN _ _ _) (congrArg (World.drewN _) (Nat.add_assoc _ _ _))⟩))))
              go_ret
              exact ⟨by first | exact (congrArg (fun b => Ending.returned (Value.bool b)) HR.out) | (have HRS := HR.out; simp at HRS; simp [HRS]; done) | rfl | (simp [errW_none, errW_some] <;> rfl) | (simp [*, errW_none, errW_some] <;> rfl), by repeat (first | (with_reducible first | exact HB.out | apply below_alloc | apply pw_below_drewN | apply below_drew1) | exact HB.out)⟩
            · replace c20 := Bool.eq_false_iff.mpr c20
              subst c20
              have H1 : (some false) = some true := by rw [if_neg (show ¬ (false = true) by decide)] at H; exact H
              exact absurd (Option.some.inj H1) (by decide)
          · rw [if_neg c18] at H
            have c18b0 : ((Go.bits .and .i64 a1 255) == (Go.bits .and .i64 a2 255)) = false := beq_eq_false_iff_ne.mpr c18
            have c18b1 : ((Go.bits .and .i64 a1 255) != (Go.bits .and .i64 a2 255)) = true := bne_iff_ne.mpr c18
            have H' := Aside0.mk H
            clear H
            go_wp2
            repeat (go_quiet (fail); try go_wp2)
            go_loopg [13, 14, 15] kj7 (fun kq v13 v14 v15 w' => ∃ (x13_2 : Int) (x14_2 : Int) (x15_2 : Int), v13 = .int .i64 x13_2 ∧ v14 = .int .i64 x14_2 ∧ v15 = .int .i64 x15_2 ∧ Aside0 (gimmallaw6_SpanParts.l0 kq l0 t248 t252 x13_2 x14_2 x15_2 = some true) ∧ Aside0 (kq ≤ kj7) ∧ Aside0 (Kd.R k25 25 w' w.heap.size (fun k_ => some k_ ≠ (v254 : Value).ownBlock) v250 t248) ∧ Aside0 (Kd.R k25 25 w' w.heap.size (fun k_ => some k_ ≠ (v250 : Value).ownBlock) v254 t252) ∧ Aside0 (Below w.heap.size w w'))
            case atStart => exact ⟨(0), (0), (0), (by first | rfl | (simp; done) | (simp [*]; done)), (by first | rfl | (simp; done) | (simp [*]; done)), (by first | rfl | (simp; done) | (simp [*]; done)), H', ⟨Nat.le_refl _⟩, ⟨by (with_reducible repeat (first | apply Kd.R_alloc | apply Kd.R_drewN | apply Kd.R_drew)); exact HO_9.out⟩, ⟨by (with_reducible repeat (first | apply Kd.R_alloc | apply Kd.R_drewN | apply Kd.R_drew)); exact HO_11.out⟩, ⟨by repeat (first | (with_reducible first | exact HB.out | apply below_alloc | apply pw_below_drewN | apply below_drew1) | exact HB.out)⟩⟩
            case round =>
              clear H'
              try clear c1
              try clear c2
              try clear p2
              try clear c5
              try clear p6
              try clear c10
              try clear c13
              try clear c13b0
              try clear c13b1
              try clear c15
              try clear c18
              try clear c18b0
              try clear c18b1
              try clear c20
              try clear p2
              obtain ⟨x13_2, x14_2, x15_2, rfl, rfl, rfl, HA, HK2, HO_9, HO_11, HB⟩ := hrel
              cases gk with
              | zero => exact absurd HA.out (by simp [gimmallaw6_SpanParts.l0])
              | succ k2 =>
                have H := HA.out
                clear HA
                simp only [gimmallaw6_SpanParts.l0] at H
                by_cases c25 : x15_2 < (l0.length : Int)
                · rw [if_pos c25] at H
                  have c25b0 : decide (x15_2 < (l0.length : Int)) = true := decide_eq_true c25
                  clear c25
                  have HC26 := Aside0.mk H
                  clear H
                  go_upto_region 15 with (fail)
                  repeat (go_quiet (fail); go_upto_region 15 with (fail))
                  go_cut [67] (fun v67 wc => ∃ (kq : Nat) (x67_25 : Bool), v67 = .bool x67_25 ∧ Aside0 (gimmallaw6_SpanParts.j2 kq l0 t248 t252 x13_2 x14_2 x15_2 x67_25 = some true) ∧ Aside0 (kq ≤ k2) ∧ Aside0 (Kd.R k25 25 wc w.heap.size (fun k_ => some k_ ≠ (v254 : Value).ownBlock) v250 t248) ∧ Aside0 (Kd.R k25 25 wc w.heap.size (fun k_ => some k_ ≠ (v250 : Value).ownBlock) v254 t252) ∧ Aside0 (Below w.heap.size w wc))
                  case first =>
                    have H := HC26.out
                    clear HC26
                    by_cases c27 : x13_2 < (t248.length : Int)
                    · rw [if_pos c27] at H
                      have c27b0 : decide (x13_2 < (t248.length : Int)) = true := decide_eq_true c27
                      clear c27
                      (first | rw [c27b0] | (simp only [i64_w, i32_w]; rw [c27b0]) | skip)
                      by_cases c28 : 0 ≤ x13_2
                      · rw [if_pos c28] at H
                        have c28b0 : decide (0 ≤ x13_2) = true := decide_eq_true c28
                        clear c28
                        by_cases c29 : 0 ≤ x15_2
                        · rw [if_pos c29] at H
                          have c29b0 : decide (0 ≤ x15_2) = true := decide_eq_true c29
                          clear c29
                          have H' := Aside0.mk H
                          clear H
                          obtain ⟨Ao30, co30, eo30⟩ := Kd.R_slice HO_9.out
                          subst eo30
                          have p260 : 0 ≤ (x13_2 : Int) := of_decide_eq_true (by first | (with_reducible assumption) | assumption)
                          have q260 : x13_2 < (t248.length : Int) := of_decide_eq_true (by first | (with_reducible assumption) | assumption)
                          obtain ⟨ad260, e260, hx260_0, hx260_1, hx260_2, hx260_3, hx260_4⟩ := at_T25 (Kd.R_reads' HO_9.out).2.2 x13_2 p260 q260
                          cases e260
                          replace p260 := eq_true p260
                          replace q260 := eq_true q260
                          have p261 : 0 ≤ (x15_2 : Int) := of_decide_eq_true (by first | (with_reducible assumption) | assumption)
                          have q261 : x15_2 < (l0.length : Int) := of_decide_eq_true (by first | (with_reducible assumption) | assumption)
                          obtain ⟨ad261, e261, hx261_0, hx261_1, hx261_2, hx261_3, hx261_4⟩ := at_T25 HR0.out x15_2 p261 q261
                          cases e261
                          replace hx261_0 := (HB.out.cell (World.block_lt_of_cell? w _ hx261_0)).trans hx261_0
                          replace hx261_1 := (HB.out.cell (World.block_lt_of_cell? w _ hx261_1)).trans hx261_1
                          replace hx261_2 := (HB.out.cell (World.block_lt_of_cell? w _ hx261_2)).trans hx261_2
                          replace hx261_3 := (HB.out.cell (World.block_lt_of_cell? w _ hx261_3)).trans hx261_3
                          replace hx261_4 := (HB.out.cell (World.block_lt_of_cell? w _ hx261_4)).trans hx261_4
                          replace p261 := eq_true p261
                          replace q261 := eq_true q261
                          go_wp2
                          repeat (go_quiet (fail); try go_wp2)
                          go_meet
                          case rel => exact ⟨_, ((((rd_T25 t248 x13_2).f0) == ((rd_T25 l0 x15_2).f0) && ((((rd_T25 t248 x13_2).f1.f0) == ((rd_T25 l0 x15_2).f1.f0) && (((rd_T25 t248 x13_2).f1.f1) == ((rd_T25 l0 x15_2).f1.f1))) && (((rd_T25 t248 x13_2).f2) == ((rd_T25 l0 x15_2).f2) && (((rd_T25 t248 x13_2).f3) == ((rd_T25 l0 x15_2).f3)))))), (by first | rfl | (simp; done) | (simp [*]; done)), H', ⟨by have := HJ7.out; have := HK2.out; first | omega | exact Nat.le_refl _⟩, ⟨by (with_reducible repeat (first | apply Kd.R_alloc | apply Kd.R_drewN | apply Kd.R_drew)); exact HO_9.out⟩, ⟨by (with_reducible repeat (first | apply Kd.R_alloc | apply Kd.R_drewN | apply Kd.R_drew)); exact HO_11.out⟩, ⟨by repeat (first | (with_reducible first | exact HB.out | apply below_alloc | apply pw_below_drewN | apply below_drew1) | exact HB.out)⟩⟩
                        · rw [if_neg c29] at H
                          exact absurd H (by simp)
                      · rw [if_neg c28] at H
                        exact absurd H (by simp)
                    · rw [if_neg c27] at H
                      have c27b0 : decide (x13_2 < (t248.length : Int)) = false := decide_eq_false c27
                      clear c27
                      (first | rw [c27b0] | (simp only [i64_w, i32_w]; rw [c27b0]) | skip)
                      have H' := Aside0.mk H
                      clear H
                      obtain ⟨Ao31, co31, eo31⟩ := Kd.R_slice HO_9.out
                      subst eo31
                      go_wp2
                      repeat (go_quiet (fail); try go_wp2)
                      go_meet
                      case rel => exact ⟨_, (false), (by first | rfl | (simp; done) | (simp [*]; done)), H', ⟨by have := HJ7.out; have := HK2.out; first | omega | exact Nat.le_refl _⟩, ⟨by (with_reducible repeat (first | apply Kd.R_alloc | apply Kd.R_drewN | apply Kd.R_drew)); exact HO_9.out⟩, ⟨by (with_reducible repeat (first | apply Kd.R_alloc | apply Kd.R_drewN | apply Kd.R_drew)); exact HO_11.out⟩, ⟨by repeat (first | (with_reducible first | exact HB.out | apply below_alloc | apply pw_below_drewN | apply below_drew1) | exact HB.out)⟩⟩
                  case rest =>
                    clear HC26
                    try clear c1
                    try clear c2
                    try clear p2
                    try clear q2
                    try clear hx2
                    try clear c5
                    try clear p6
                    try clear c10
                    try clear c13
                    try clear c13b0
                    try clear c13b1
                    try clear c15
                    try clear c18
                    try clear c18b0
                    try clear c18b1
                    try clear c20
                    try clear c25
                    try clear c25b0
                    try clear p26
                    try clear q26
                    try clear hx26
                    try clear c27
                    try clear c27b0
                    try clear c28
                    try clear c28b0
                    try clear c29
                    try clear c29b0
                    try clear hx260_0
                    try clear hx260_1
                    try clear hx260_2
                    try clear hx260_3
                    try clear hx260_4
                    try clear hx261_0
                    try clear hx261_1
                    try clear hx261_2
                    try clear hx261_3
                    try clear hx261_4
                    try clear p2
                    try clear p260
                    try clear p261
                    try clear p6
                    try clear q260
                    try clear q261
                    obtain ⟨kq, x67_25, rfl, HA, HJ25, HO_9, HO_11, HB⟩ := hcut
                    cases kq with
                    | zero => exact absurd HA.out (by simp [gimmallaw6_SpanParts.j2])
                    | succ kj25 =>
                      have H := HA.out
                      clear HA
                      simp only [gimmallaw6_SpanParts.j2] at H
                      by_cases c32 : x67_25 = true
                      · subst c32
                        have H1 : (gimmallaw6_SpanParts.l0 kj25 l0 t248 t252 (wrap64 (x13_2 + 1)) x14_2 (wrap64 (x15_2 + 1))) = some true := by rw [if_pos rfl] at H; exact H
                        clear H
                        have H := H1
                        clear H1
                        have H' := Aside0.mk H
                        clear H
                        go_wp2
                        repeat (go_quiet (fail); try go_wp2)
                        go_roundg kj25
                        case measure => have := HJ7.out; have := HK2.out; have := HJ25.out; omega
                        case rel => exact ⟨(wrap64 (x13_2 + 1)), (x14_2), (wrap64 (x15_2 + 1)), (by first | rfl | (simp; done) | (simp [*]; done)), (by first | rfl | (simp; done) | (simp [*]; done)), (by first | rfl | (simp; done) | (simp [*]; done)), H', ⟨by have := HJ7.out; have := HK2.out; have := HJ25.out; omega⟩, ⟨by (with_reducible repeat (first | apply Kd.R_alloc | apply Kd.R_drewN | apply Kd.R_drew)); exact HO_9.out⟩, ⟨by (with_reducible repeat (first | apply Kd.R_alloc | apply Kd.R_drewN | apply Kd.R_drew)); exact HO_11.out⟩, ⟨by repeat (first | (with_reducible first | exact HB.out | apply below_alloc | apply pw_below_drewN | apply below_drew1) | exact HB.out)⟩⟩
                      · replace c32 := Bool.eq_false_iff.mpr c32
                        subst c32
                        have H1 : (if x14_2 < (t252.length : Int) then (if 0 ≤ x14_2 then (if 0 ≤ x15_2 then (if x15_2 < (l0.length : Int) then (if (((rd_T25 t252 x14_2).f0) == ((rd_T25 l0 x15_2).f0) && ((((rd_T25 t252 x14_2).f1.f0) == ((rd_T25 l0 x15_2).f1.f0) && (((rd_T25 t252 x14_2).f1.f1) == ((rd_T25 l0 x15_2).f1.f1))) && (((rd_T25 t252 x14_2).f2) == ((rd_T25 l0 x15_2).f2) && (((rd_T25 t252 x14_2).f3) == ((rd_T25 l0 x15_2).f3))))) = true then (gimmallaw6_SpanParts.l0 kj25 l0 t248 t252 x13_2 (wrap64 (x14_2 + 1)) (wrap64 (x15_2 + 1))) else (some false)) else (none)) else (none)) else (none)) else (some false)) = some true := by rw [if_neg (show ¬ (false = true) by decide)] at H; exact H
                        clear H
                        have H := H1
                        clear H1
                        by_cases c33 : x14_2 < (t252.length : Int)
                        · rw [if_pos c33] at H
                          have c33b0 : decide (x14_2 < (t252.length : Int)) = true := decide_eq_true c33
                          clear c33
                          by_cases c34 : 0 ≤ x14_2
                          · rw [if_pos c34] at H
                            have c34b0 : decide (0 ≤ x14_2) = true := decide_eq_true c34
                            clear c34
                            by_cases c35 : 0 ≤ x15_2
                            · rw [if_pos c35] at H
                              have c35b0 : decide (0 ≤ x15_2) = true := decide_eq_true c35
                              clear c35
                              by_cases c36 : x15_2 < (l0.length : Int)
                              · rw [if_pos c36] at H
                                have c36b0 : decide (x15_2 < (l0.length : Int)) = true := decide_eq_true c36
                                clear c36
                                by_cases c37 : (((rd_T25 t252 x14_2).f0) == ((rd_T25 l0 x15_2).f0) && ((((rd_T25 t252 x14_2).f1.f0) == ((rd_T25 l0 x15_2).f1.f0) && (((rd_T25 t252 x14_2).f1.f1) == ((rd_T25 l0 x15_2).f1.f1))) && (((rd_T25 t252 x14_2).f2) == ((rd_T25 l0 x15_2).f2) && (((rd_T25 t252 x14_2).f3) == ((rd_T25 l0 x15_2).f3))))) = true
                                · rw [if_pos c37] at H
                                  have c37b0 : (((rd_T25 t252 x14_2).f0) == ((rd_T25 l0 x15_2).f0) && ((((rd_T25 t252 x14_2).f1.f0) == ((rd_T25 l0 x15_2).f1.f0) && (((rd_T25 t252 x14_2).f1.f1) == ((rd_T25 l0 x15_2).f1.f1))) && (((rd_T25 t252 x14_2).f2) == ((rd_T25 l0 x15_2).f2) && (((rd_T25 t252 x14_2).f3) == ((rd_T25 l0 x15_2).f3))))) = true := c37
                                  (try (have c37b1 : decide (((rd_T25 t252 x14_2).f0) = ((rd_T25 l0 x15_2).f0) && ((((rd_T25 t252 x14_2).f1.f0) == ((rd_T25 l0 x15_2).f1.f0) && (((rd_T25 t252 x14_2).f1.f1) == ((rd_T25 l0 x15_2).f1.f1))) && (((rd_T25 t252 x14_2).f2) == ((rd_T25 l0 x15_2).f2) && (((rd_T25 t252 x14_2).f3) == ((rd_T25 l0 x15_2).f3))))) = true := by simpa using c37))
                                  (try (have c37b2 : (((rd_T25 t252 x14_2).f0) == ((rd_T25 l0 x15_2).f0) && ((((rd_T25 t252 x14_2).f1.f0) == ((rd_T25 l0 x15_2).f1.f0) && (((rd_T25 t252 x14_2).f1.f1) == ((rd_T25 l0 x15_2).f1.f1))) && (((rd_T25 t252 x14_2).f2) == ((rd_T25 l0 x15_2).f2) && (((rd_T25 t252 x14_2).f3) == ((rd_T25 l0 x15_2).f3))))) = true := by simpa using c37))
                                  clear c37
                                  have H' := Aside0.mk H
                                  clear H
                                  obtain ⟨Ao38, co38, eo38⟩ := Kd.R_slice HO_11.out
                                  subst eo38
                                  have p262 : 0 ≤ (x14_2 : Int) := of_decide_eq_true (by first | (with_reducible assumption) | assumption)
                                  have q262 : x14_2 < (t252.length : Int) := of_decide_eq_true (by first | (with_reducible assumption) | assumption)
                                  obtain ⟨ad262, e262, hx262_0, hx262_1, hx262_2, hx262_3, hx262_4⟩ := at_T25 (Kd.R_reads' HO_11.out).2.2 x14_2 p262 q262
                                  cases e262
                                  replace p262 := eq_true p262
                                  replace q262 := eq_true q262
                                  have p263 : 0 ≤ (x15_2 : Int) := of_decide_eq_true (by first | (with_reducible assumption) | assumption)
                                  have q263 : x15_2 < (l0.length : Int) := of_decide_eq_true (by first | (with_reducible assumption) | assumption)
                                  obtain ⟨ad263, e263, hx263_0, hx263_1, hx263_2, hx263_3, hx263_4⟩ := at_T25 HR0.out x15_2 p263 q263
                                  cases e263
                                  replace hx263_0 := (HB.out.cell (World.block_lt_of_cell? w _ hx263_0)).trans hx263_0
                                  replace hx263_1 := (HB.out.cell (World.block_lt_of_cell? w _ hx263_1)).trans hx263_1
                                  replace hx263_2 := (HB.out.cell (World.block_lt_of_cell? w _ hx263_2)).trans hx263_2
                                  replace hx263_3 := (HB.out.cell (World.block_lt_of_cell? w _ hx263_3)).trans hx263_3
                                  replace hx263_4 := (HB.out.cell (World.block_lt_of_cell? w _ hx263_4)).trans hx263_4
                                  replace p263 := eq_true p263
                                  replace q263 := eq_true q263
                                  go_wp2
                                  repeat (go_quiet (fail); try go_wp2)
                                  go_roundg kj25
                                  case measure => have := HJ7.out; have := HK2.out; have := HJ25.out; omega
                                  case rel => exact ⟨(x13_2), (wrap64 (x14_2 + 1)), (wrap64 (x15_2 + 1)), (by first | rfl | (simp; done) | (simp [*]; done)), (by first | rfl | (simp; done) | (simp [*]; done)), (by first | rfl | (simp; done) | (simp [*]; done)), H', ⟨by have := HJ7.out; have := HK2.out; have := HJ25.out; omega⟩, ⟨by (with_reducible repeat (first | apply Kd.R_alloc | apply Kd.R_drewN | apply Kd.R_drew)); exact HO_9.out⟩, ⟨by (with_reducible repeat (first | apply Kd.R_alloc | apply Kd.R_drewN | apply Kd.R_drew)); exact HO_11.out⟩, ⟨by repeat (first | (with_reducible first | exact HB.out | apply below_alloc | apply pw_below_drewN | apply below_drew1) | exact HB.out)⟩⟩
                                · rw [if_neg c37] at H
                                  exact absurd (Option.some.inj H) (by decide)
                              · rw [if_neg c36] at H
                                exact absurd H (by simp)
                            · rw [if_neg c35] at H
                              exact absurd H (by simp)
                          · rw [if_neg c34] at H
                            exact absurd H (by simp)
                        · rw [if_neg c33] at H
                          exact absurd (Option.some.inj H) (by decide)
                · rw [if_neg c25] at H
                  have c25b0 : decide (x15_2 < (l0.length : Int)) = false := decide_eq_false c25
                  clear c25
                  by_cases c41 : x13_2 = (t248.length : Int)
                  · rw [if_pos c41] at H
                    have c41b0 : (x13_2 == (t248.length : Int)) = true := beq_iff_eq.mpr c41
                    have c41b1 : (x13_2 != (t248.length : Int)) = false := bne_eq_false_iff_eq.mpr c41
                    clear c41
                    have HR := Aside0.mk (Option.some.inj H)
                    clear H
                    obtain ⟨Ao42, co42, eo42⟩ := Kd.R_slice HO_9.out
                    subst eo42
                    obtain ⟨Ao43, co43, eo43⟩ := Kd.R_slice HO_11.out
                    subst eo43
                    go_wp2
                    repeat (go_quiet (fail); try go_wp2)
                    go_ret
                    exact ⟨by first | exact (congrArg (fun b => Ending.returned (Value.bool b)) HR.out) | (have HRS := HR.out; simp at HRS; simp [HRS]; done) | rfl | (simp [errW_none, errW_some] <;> rfl) | (simp [*, errW_none, errW_some] <;> rfl), by repeat (first | (with_reducible first | exact HB.out | apply below_alloc | apply pw_below_drewN | apply below_drew1) | exact HB.out)⟩
                  · rw [if_neg c41] at H
                    have c41b0 : (x13_2 == (t248.length : Int)) = false := beq_eq_false_iff_ne.mpr c41
                    have c41b1 : (x13_2 != (t248.length : Int)) = true := bne_iff_ne.mpr c41
                    have HR := Aside0.mk (Option.some.inj H)
                    clear H
                    obtain ⟨Ao44, co44, eo44⟩ := Kd.R_slice HO_9.out
                    subst eo44
                    go_wp2
                    repeat (go_quiet (fail); try go_wp2)
                    go_ret
                    exact ⟨by first | exact (congrArg (fun b => Ending.returned (Value.bool b)) HR.out) | (have HRS := HR.out; simp at HRS; simp [HRS]; done) | rfl | (simp [errW_none, errW_some] <;> rfl) | (simp [*, errW_none, errW_some] <;> rfl), by repeat (first | (with_reducible first | exact HB.out | apply below_alloc | apply pw_below_drewN | apply below_drew1) | exact HB.out)⟩
  · replace c5 := Bool.eq_false_iff.mpr c5
    subst c5
    have H1 : (some false) = some true := by rw [if_neg (show ¬ (false = true) by decide)] at H; exact H
    exact absurd (Option.some.inj H1) (by decide)


end Go.Proofs.Ytklaiaididkiiaa.MS
