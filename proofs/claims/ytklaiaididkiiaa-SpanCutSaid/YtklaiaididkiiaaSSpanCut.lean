/- The walk of the law SpanCut, by program (the printer's lines, the ways to false closed). -/
import Derived.Test.YtklaiaididkiiaaMSx0
import Derived.Test.YtklaiaididkiiaaMSx1
import Derived.Test.YtklaiaididkiiaaMSx2
import Derived.Test.YtklaiaididkiiaaMSx4
import Derived.Test.YtklaiaididkiiaaMSw
namespace Go.Proofs.Ytklaiaididkiiaa.MS
open Go.RowKit Go.Proofs.YtklaiaididkiiaaW.PrintWords Go.Proofs.YtklaiaididkiiaaW.PrintLast Go.Proofs.YtklaiaididkiiaaW.PrintMore
attribute [local go_sem] max2_int min2_int max_two min_two max_three min_three max_four min_four   -- for this text's walks alone
set_option linter.unusedVariables false
set_option linter.unusedSimpArgs false

attribute [local go_sem high] eqA25
/-! ### gimmallaw6_SpanCut: function 12 -/
mutual
def gimmallaw6_SpanCut.j0 : Nat → List (S25) → List (S25) → List (S25) → Bool → Option (Bool)
  | 0, _, _, _, _ => none
  | k + 1, x13, x15, x17, x79 => if x79 = true then (some ((wrap64 ((wrap64 ((x13.length : Int) + (x15.length : Int))) + (x17.length : Int))) == 0)) else (gimmallaw6_SpanCut.l0 k x13 x15 x17 0 0 0)
def gimmallaw6_SpanCut.l0 : Nat → List (S25) → List (S25) → List (S25) → Int → Int → Int → Option (Bool)
  | 0, _, _, _, _, _, _ => none
  | k + 1, x13, x15, x17, x19, x20, x21 => if x21 < (x17.length : Int) then (if x19 < (x13.length : Int) then (if 0 ≤ x19 then (if 0 ≤ x21 then (gimmallaw6_SpanCut.j2 k x13 x15 x17 x19 x20 x21 (((rd_T25 x13 x19).f0) == ((rd_T25 x17 x21).f0) && ((((rd_T25 x13 x19).f1.f0) == ((rd_T25 x17 x21).f1.f0) && (((rd_T25 x13 x19).f1.f1) == ((rd_T25 x17 x21).f1.f1))) && (((rd_T25 x13 x19).f2) == ((rd_T25 x17 x21).f2) && (((rd_T25 x13 x19).f3) == ((rd_T25 x17 x21).f3)))))) else (none)) else (none)) else (gimmallaw6_SpanCut.j2 k x13 x15 x17 x19 x20 x21 false)) else (if x19 = (x13.length : Int) then (some (x20 == (x15.length : Int))) else (some false))
def gimmallaw6_SpanCut.j2 : Nat → List (S25) → List (S25) → List (S25) → Int → Int → Int → Bool → Option (Bool)
  | 0, _, _, _, _, _, _, _ => none
  | k + 1, x13, x15, x17, x19, x20, x21, x95 => if x95 = true then (gimmallaw6_SpanCut.l0 k x13 x15 x17 (wrap64 (x19 + 1)) x20 (wrap64 (x21 + 1))) else (if x20 < (x15.length : Int) then (if 0 ≤ x20 then (if 0 ≤ x21 then (if x21 < (x17.length : Int) then (if (((rd_T25 x15 x20).f0) == ((rd_T25 x17 x21).f0) && ((((rd_T25 x15 x20).f1.f0) == ((rd_T25 x17 x21).f1.f0) && (((rd_T25 x15 x20).f1.f1) == ((rd_T25 x17 x21).f1.f1))) && (((rd_T25 x15 x20).f2) == ((rd_T25 x17 x21).f2) && (((rd_T25 x15 x20).f3) == ((rd_T25 x17 x21).f3))))) = true then (gimmallaw6_SpanCut.l0 k x13 x15 x17 x19 (wrap64 (x20 + 1)) (wrap64 (x21 + 1))) else (some false)) else (none)) else (none)) else (none)) else (some false))
end
def gimmallaw6_SpanCut.f (k : Nat) (l0 : List (S25)) (a1 : Int) (a2 : Int) (a3 : Int) : Option (Bool) := (gimmallaw6_awake.f k).bind fun t318 => (if t318 = true then (if (Int.tmod (wrap64 ((wrap64 ((Go.bits .and .i64 a3 255) - (Go.bits .and .i64 a1 255))) + 256)) 256) < 2 then (some true) else (if (IntKind.u64.wrap (wrap64 ((Int.tmod (wrap64 ((wrap64 ((Go.bits .and .i64 a3 255) - (Go.bits .and .i64 a1 255))) + 256)) 256) - 1))) = 0 then (none) else ((span_Of.f k l0 (Go.bits .and .i64 a1 255) (Int.tmod (wrap64 ((wrap64 ((Go.bits .and .i64 a1 255) + 1)) + (wrap64 (Int.tmod (IntKind.u64.wrap (a2)) (IntKind.u64.wrap (wrap64 ((Int.tmod (wrap64 ((wrap64 ((Go.bits .and .i64 a3 255) - (Go.bits .and .i64 a1 255))) + 256)) 256) - 1))))))) 256)).bind fun bt319 => ((span_Of.f k l0 (Int.tmod (wrap64 ((wrap64 ((Go.bits .and .i64 a1 255) + 1)) + (wrap64 (Int.tmod (IntKind.u64.wrap (a2)) (IntKind.u64.wrap (wrap64 ((Int.tmod (wrap64 ((wrap64 ((Go.bits .and .i64 a3 255) - (Go.bits .and .i64 a1 255))) + 256)) 256) - 1))))))) 256) (Go.bits .and .i64 a3 255)).bind fun bt323 => ((span_Of.f k l0 (Go.bits .and .i64 a1 255) (Go.bits .and .i64 a3 255)).bind fun bt327 => ((gimmallaw0_Num.f bt319.2).bind fun t331 => (if t331 = 0 then ((gimmallaw0_Num.f bt323.2).bind fun t332 => (if t332 = 0 then ((gimmallaw0_Num.f bt327.2).bind fun t333 => (gimmallaw6_SpanCut.j0 k bt319.1 bt323.1 bt327.1 (t333 != 0))) else (gimmallaw6_SpanCut.j0 k bt319.1 bt323.1 bt327.1 true))) else (gimmallaw6_SpanCut.j0 k bt319.1 bt323.1 bt327.1 true)))))))) else (some false))
theorem gimmallaw6_SpanCut.mono_l : ∀ k, (∀ y0 y1 y2 y3, LeO (gimmallaw6_SpanCut.j0 k y0 y1 y2 y3) (gimmallaw6_SpanCut.j0 (k + 1) y0 y1 y2 y3)) ∧ (∀ y0 y1 y2 y3 y4 y5, LeO (gimmallaw6_SpanCut.l0 k y0 y1 y2 y3 y4 y5) (gimmallaw6_SpanCut.l0 (k + 1) y0 y1 y2 y3 y4 y5)) ∧ (∀ y0 y1 y2 y3 y4 y5 y6, LeO (gimmallaw6_SpanCut.j2 k y0 y1 y2 y3 y4 y5 y6) (gimmallaw6_SpanCut.j2 (k + 1) y0 y1 y2 y3 y4 y5 y6))
  | 0 => ⟨fun _ _ _ _ r h => by simp [gimmallaw6_SpanCut.j0] at h, fun _ _ _ _ _ _ r h => by simp [gimmallaw6_SpanCut.l0] at h, fun _ _ _ _ _ _ _ r h => by simp [gimmallaw6_SpanCut.j2] at h⟩
  | k + 1 => by
    obtain ⟨ih0, ih1, ih2⟩ := gimmallaw6_SpanCut.mono_l k
    refine ⟨?_, ?_, ?_⟩
    · intro y0 y1 y2 y3
      unfold gimmallaw6_SpanCut.j0
      repeat' first
      | (with_reducible exact ih0 _ _ _ _)
      | (with_reducible exact ih1 _ _ _ _ _ _)
      | (with_reducible exact ih2 _ _ _ _ _ _ _)
      | (with_reducible exact gimmallaw6_awake.mono _)
      | (with_reducible exact span_Of.mono _ _ _ _)
      | (with_reducible exact LeO.refl _)
      | (with_reducible exact LeO.none _)
      | (with_reducible refine LeO.ite ?_ ?_)
      | (with_reducible refine LeO.bind ?_ (fun _ => ?_))
      | exact ih0 _ _ _ _
      | exact ih1 _ _ _ _ _ _
      | exact ih2 _ _ _ _ _ _ _
      | exact gimmallaw6_awake.mono _
      | exact span_Of.mono _ _ _ _
      | exact LeO.none _
      | refine LeO.ite ?_ ?_
      | refine LeO.bind ?_ (fun _ => ?_)
    · intro y0 y1 y2 y3 y4 y5
      unfold gimmallaw6_SpanCut.l0
      repeat' first
      | (with_reducible exact ih0 _ _ _ _)
      | (with_reducible exact ih1 _ _ _ _ _ _)
      | (with_reducible exact ih2 _ _ _ _ _ _ _)
      | (with_reducible exact gimmallaw6_awake.mono _)
      | (with_reducible exact span_Of.mono _ _ _ _)
      | (with_reducible exact LeO.refl _)
      | (with_reducible exact LeO.none _)
      | (with_reducible refine LeO.ite ?_ ?_)
      | (with_reducible refine LeO.bind ?_ (fun _ => ?_))
      | exact ih0 _ _ _ _
      | exact ih1 _ _ _ _ _ _
      | exact ih2 _ _ _ _ _ _ _
      | exact gimmallaw6_awake.mono _
      | exact span_Of.mono _ _ _ _
      | exact LeO.none _
      | refine LeO.ite ?_ ?_
      | refine LeO.bind ?_ (fun _ => ?_)
    · intro y0 y1 y2 y3 y4 y5 y6
      unfold gimmallaw6_SpanCut.j2
      repeat' first
      | (with_reducible exact ih0 _ _ _ _)
      | (with_reducible exact ih1 _ _ _ _ _ _)
      | (with_reducible exact ih2 _ _ _ _ _ _ _)
      | (with_reducible exact gimmallaw6_awake.mono _)
      | (with_reducible exact span_Of.mono _ _ _ _)
      | (with_reducible exact LeO.refl _)
      | (with_reducible exact LeO.none _)
      | (with_reducible refine LeO.ite ?_ ?_)
      | (with_reducible refine LeO.bind ?_ (fun _ => ?_))
      | exact ih0 _ _ _ _
      | exact ih1 _ _ _ _ _ _
      | exact ih2 _ _ _ _ _ _ _
      | exact gimmallaw6_awake.mono _
      | exact span_Of.mono _ _ _ _
      | exact LeO.none _
      | refine LeO.ite ?_ ?_
      | refine LeO.bind ?_ (fun _ => ?_)
theorem gimmallaw6_SpanCut.mono : ∀ a0 a1 a2 a3 k, LeO (gimmallaw6_SpanCut.f k a0 a1 a2 a3) (gimmallaw6_SpanCut.f (k + 1) a0 a1 a2 a3) := by
  intro a0 a1 a2 a3 k
  obtain ⟨ih0, ih1, ih2⟩ := gimmallaw6_SpanCut.mono_l k
  unfold gimmallaw6_SpanCut.f
  repeat' first
      | (with_reducible exact ih0 _ _ _ _)
      | (with_reducible exact ih1 _ _ _ _ _ _)
      | (with_reducible exact ih2 _ _ _ _ _ _ _)
      | (with_reducible exact gimmallaw6_awake.mono _)
      | (with_reducible exact span_Of.mono _ _ _ _)
      | (with_reducible exact LeO.refl _)
      | (with_reducible exact LeO.none _)
      | (with_reducible refine LeO.ite ?_ ?_)
      | (with_reducible refine LeO.bind ?_ (fun _ => ?_))
      | exact ih0 _ _ _ _
      | exact ih1 _ _ _ _ _ _
      | exact ih2 _ _ _ _ _ _ _
      | exact gimmallaw6_awake.mono _
      | exact span_Of.mono _ _ _ _
      | exact LeO.none _
      | refine LeO.ite ?_ ?_
      | refine LeO.bind ?_ (fun _ => ?_)
set_option maxHeartbeats 8000000 in
set_option maxRecDepth 100000 in
theorem gimmallaw6_SpanCut.calls (k : Nat) (A0 : Option Addr) (c0 : Nat) (l0 : List (S25)) (a1 : Int) (a2 : Int) (a3 : Int) (w : World) (hr0 : Kd.C k25 w A0 l0.length l0) (hc0 : l0.length ≤ c0) (h : gimmallaw6_SpanCut.f k l0 a1 a2 a3 = some true) :
    Calls Try.prog 12 #[.slice A0 l0.length c0, .int .i64 a1, .int .i64 a2, .int .i64 a3] w fun e w' => e = .returned (.bool true) ∧ Below w.heap.size w w' := by
  have hu25 := Try.underlying25
  have HR0 := Aside0.mk hr0
  have HC0 := Aside0.mk hc0
  clear hr0 hc0
  have HB := Aside0.mk (Below.refl w.heap.size w)
  have H : ((gimmallaw6_awake.f k).bind fun t318 => (if t318 = true then (if (Int.tmod (wrap64 ((wrap64 ((Go.bits .and .i64 a3 255) - (Go.bits .and .i64 a1 255))) + 256)) 256) < 2 then (some true) else (if (IntKind.u64.wrap (wrap64 ((Int.tmod (wrap64 ((wrap64 ((Go.bits .and .i64 a3 255) - (Go.bits .and .i64 a1 255))) + 256)) 256) - 1))) = 0 then (none) else ((span_Of.f k l0 (Go.bits .and .i64 a1 255) (Int.tmod (wrap64 ((wrap64 ((Go.bits .and .i64 a1 255) + 1)) + (wrap64 (Int.tmod (IntKind.u64.wrap (a2)) (IntKind.u64.wrap (wrap64 ((Int.tmod (wrap64 ((wrap64 ((Go.bits .and .i64 a3 255) - (Go.bits .and .i64 a1 255))) + 256)) 256) - 1))))))) 256)).bind fun bt319 => ((span_Of.f k l0 (Int.tmod (wrap64 ((wrap64 ((Go.bits .and .i64 a1 255) + 1)) + (wrap64 (Int.tmod (IntKind.u64.wrap (a2)) (IntKind.u64.wrap (wrap64 ((Int.tmod (wrap64 ((wrap64 ((Go.bits .and .i64 a3 255) - (Go.bits .and .i64 a1 255))) + 256)) 256) - 1))))))) 256) (Go.bits .and .i64 a3 255)).bind fun bt323 => ((span_Of.f k l0 (Go.bits .and .i64 a1 255) (Go.bits .and .i64 a3 255)).bind fun bt327 => ((gimmallaw0_Num.f bt319.2).bind fun t331 => (if t331 = 0 then ((gimmallaw0_Num.f bt323.2).bind fun t332 => (if t332 = 0 then ((gimmallaw0_Num.f bt327.2).bind fun t333 => (gimmallaw6_SpanCut.j0 k bt319.1 bt323.1 bt327.1 (t333 != 0))) else (gimmallaw6_SpanCut.j0 k bt319.1 bt323.1 bt327.1 true))) else (gimmallaw6_SpanCut.j0 k bt319.1 bt323.1 bt327.1 true)))))))) else (some false))) = some true := h
  clear h
  replace H := Option.bind_eq_some_iff.mp H
  obtain ⟨t318, A50, H⟩ := H
  replace H : (if t318 = true then (if (Int.tmod (wrap64 ((wrap64 ((Go.bits .and .i64 a3 255) - (Go.bits .and .i64 a1 255))) + 256)) 256) < 2 then (some true) else (if (IntKind.u64.wrap (wrap64 ((Int.tmod (wrap64 ((wrap64 ((Go.bits .and .i64 a3 255) - (Go.bits .and .i64 a1 255))) + 256)) 256) - 1))) = 0 then (none) else ((span_Of.f k l0 (Go.bits .and .i64 a1 255) (Int.tmod (wrap64 ((wrap64 ((Go.bits .and .i64 a1 255) + 1)) + (wrap64 (Int.tmod (IntKind.u64.wrap (a2)) (IntKind.u64.wrap (wrap64 ((Int.tmod (wrap64 ((wrap64 ((Go.bits .and .i64 a3 255) - (Go.bits .and .i64 a1 255))) + 256)) 256) - 1))))))) 256)).bind fun bt319 => ((span_Of.f k l0 (Int.tmod (wrap64 ((wrap64 ((Go.bits .and .i64 a1 255) + 1)) + (wrap64 (Int.tmod (IntKind.u64.wrap (a2)) (IntKind.u64.wrap (wrap64 ((Int.tmod (wrap64 ((wrap64 ((Go.bits .and .i64 a3 255) - (Go.bits .and .i64 a1 255))) + 256)) 256) - 1))))))) 256) (Go.bits .and .i64 a3 255)).bind fun bt323 => ((span_Of.f k l0 (Go.bits .and .i64 a1 255) (Go.bits .and .i64 a3 255)).bind fun bt327 => ((gimmallaw0_Num.f bt319.2).bind fun t331 => (if t331 = 0 then ((gimmallaw0_Num.f bt323.2).bind fun t332 => (if t332 = 0 then ((gimmallaw0_Num.f bt327.2).bind fun t333 => (gimmallaw6_SpanCut.j0 k bt319.1 bt323.1 bt327.1 (t333 != 0))) else (gimmallaw6_SpanCut.j0 k bt319.1 bt323.1 bt327.1 true))) else (gimmallaw6_SpanCut.j0 k bt319.1 bt323.1 bt327.1 true)))))))) else (some false)) = some true := H
  have A5 := Aside0.mk A50
  clear A50
  by_cases c6 : t318 = true
  · subst c6
    have H1 : (if (Int.tmod (wrap64 ((wrap64 ((Go.bits .and .i64 a3 255) - (Go.bits .and .i64 a1 255))) + 256)) 256) < 2 then (some true) else (if (IntKind.u64.wrap (wrap64 ((Int.tmod (wrap64 ((wrap64 ((Go.bits .and .i64 a3 255) - (Go.bits .and .i64 a1 255))) + 256)) 256) - 1))) = 0 then (none) else ((span_Of.f k l0 (Go.bits .and .i64 a1 255) (Int.tmod (wrap64 ((wrap64 ((Go.bits .and .i64 a1 255) + 1)) + (wrap64 (Int.tmod (IntKind.u64.wrap (a2)) (IntKind.u64.wrap (wrap64 ((Int.tmod (wrap64 ((wrap64 ((Go.bits .and .i64 a3 255) - (Go.bits .and .i64 a1 255))) + 256)) 256) - 1))))))) 256)).bind fun bt319 => ((span_Of.f k l0 (Int.tmod (wrap64 ((wrap64 ((Go.bits .and .i64 a1 255) + 1)) + (wrap64 (Int.tmod (IntKind.u64.wrap (a2)) (IntKind.u64.wrap (wrap64 ((Int.tmod (wrap64 ((wrap64 ((Go.bits .and .i64 a3 255) - (Go.bits .and .i64 a1 255))) + 256)) 256) - 1))))))) 256) (Go.bits .and .i64 a3 255)).bind fun bt323 => ((span_Of.f k l0 (Go.bits .and .i64 a1 255) (Go.bits .and .i64 a3 255)).bind fun bt327 => ((gimmallaw0_Num.f bt319.2).bind fun t331 => (if t331 = 0 then ((gimmallaw0_Num.f bt323.2).bind fun t332 => (if t332 = 0 then ((gimmallaw0_Num.f bt327.2).bind fun t333 => (gimmallaw6_SpanCut.j0 k bt319.1 bt323.1 bt327.1 (t333 != 0))) else (gimmallaw6_SpanCut.j0 k bt319.1 bt323.1 bt327.1 true))) else (gimmallaw6_SpanCut.j0 k bt319.1 bt323.1 bt327.1 true)))))))) = some true := by rw [if_pos rfl] at H; exact H
    clear H
    have H := H1
    clear H1
    by_cases c7 : (Int.tmod (wrap64 ((wrap64 ((Go.bits .and .i64 a3 255) - (Go.bits .and .i64 a1 255))) + 256)) 256) < 2
    · rw [if_pos c7] at H
      have c7b0 : decide ((Int.tmod (wrap64 ((wrap64 ((Go.bits .and .i64 a3 255) - (Go.bits .and .i64 a1 255))) + 256)) 256) < 2) = true := decide_eq_true c7
      clear c7
      have HR := Aside0.mk (Option.some.inj H)
      clear H
      go_enter Try.func12, Try.ntmps12
      go_wp2_with (first | (go_at_call 26; (with_reducible refine (gimmallaw6_awake.calls k  true _ A5.out).mono ?_); rintro e w8 ⟨rfl, hb⟩; have n0_ := Aside0.mk (below_step (by repeat (first | (with_reducible first | exact HB.out | apply below_alloc | apply pw_below_drewN | apply below_drew1) | exact HB.out)) hb); clear HB; have HB := n0_; clear n0_; (try clear hb); (try clear hb2); (try clear hk); (try clear hi)))
      repeat (go_quiet (first | (go_at_call 26; (with_reducible refine (gimmallaw6_awake.calls k  true _ A5.out).mono ?_); rintro e w8 ⟨rfl, hb⟩; have n0_ := Aside0.mk (below_step (by repeat (first | (with_reducible first | exact HB.out | apply below_alloc | apply pw_below_drewN | apply below_drew1) | exact HB.out)) hb); clear HB; have HB := n0_; clear n0_; (try clear hb); (try clear hb2); (try clear hk); (try clear hi))); try go_wp2_with (first | (go_at_call 26; (with_reducible refine (gimmallaw6_awake.calls k  true _ A5.out).mono ?_); rintro e w8 ⟨rfl, hb⟩; have n0_ := Aside0.mk (below_step (by repeat (first | (with_reducible first | exact HB.out | apply below_alloc | apply pw_below_drewN | apply below_drew1) | exact HB.out)) hb); clear HB; have HB := n0_; clear n0_; (try clear hb); (try clear hb2); (try clear hk); (try clear hi))))
      go_ret
      exact ⟨by first | exact (congrArg (fun b => Ending.returned (Value.bool b)) HR.out) | (have HRS := HR.out; simp at HRS; simp [HRS]; done) | rfl | (simp [errW_none, errW_some] <;> rfl) | (simp [*, errW_none, errW_some] <;> rfl), by repeat (first | (with_reducible first | exact HB.out | apply below_alloc | apply pw_below_drewN | apply below_drew1) | exact HB.out)⟩
    · rw [if_neg c7] at H
      have c7b0 : decide ((Int.tmod (wrap64 ((wrap64 ((Go.bits .and .i64 a3 255) - (Go.bits .and .i64 a1 255))) + 256)) 256) < 2) = false := decide_eq_false c7
      clear c7
      by_cases c9 : (IntKind.u64.wrap (wrap64 ((Int.tmod (wrap64 ((wrap64 ((Go.bits .and .i64 a3 255) - (Go.bits .and .i64 a1 255))) + 256)) 256) - 1))) = 0
      · rw [if_pos c9] at H
        exact absurd H (by simp)
      · rw [if_neg c9] at H
        have c9b0 : ((IntKind.u64.wrap (wrap64 ((Int.tmod (wrap64 ((wrap64 ((Go.bits .and .i64 a3 255) - (Go.bits .and .i64 a1 255))) + 256)) 256) - 1))) == 0) = false := beq_eq_false_iff_ne.mpr c9
        have c9b1 : ((IntKind.u64.wrap (wrap64 ((Int.tmod (wrap64 ((wrap64 ((Go.bits .and .i64 a3 255) - (Go.bits .and .i64 a1 255))) + 256)) 256) - 1))) != 0) = true := bne_iff_ne.mpr c9
        replace H := Option.bind_eq_some_iff.mp H
        obtain ⟨⟨t319, t320⟩, A100, H⟩ := H
        replace H : ((span_Of.f k l0 (Int.tmod (wrap64 ((wrap64 ((Go.bits .and .i64 a1 255) + 1)) + (wrap64 (Int.tmod (IntKind.u64.wrap (a2)) (IntKind.u64.wrap (wrap64 ((Int.tmod (wrap64 ((wrap64 ((Go.bits .and .i64 a3 255) - (Go.bits .and .i64 a1 255))) + 256)) 256) - 1))))))) 256) (Go.bits .and .i64 a3 255)).bind fun bt323 => ((span_Of.f k l0 (Go.bits .and .i64 a1 255) (Go.bits .and .i64 a3 255)).bind fun bt327 => ((gimmallaw0_Num.f t320).bind fun t331 => (if t331 = 0 then ((gimmallaw0_Num.f bt323.2).bind fun t332 => (if t332 = 0 then ((gimmallaw0_Num.f bt327.2).bind fun t333 => (gimmallaw6_SpanCut.j0 k t319 bt323.1 bt327.1 (t333 != 0))) else (gimmallaw6_SpanCut.j0 k t319 bt323.1 bt327.1 true))) else (gimmallaw6_SpanCut.j0 k t319 bt323.1 bt327.1 true))))) = some true := H
        have A10 := Aside0.mk A100
        clear A100
        replace H := Option.bind_eq_some_iff.mp H
        obtain ⟨⟨t323, t324⟩, A110, H⟩ := H
        replace H : ((span_Of.f k l0 (Go.bits .and .i64 a1 255) (Go.bits .and .i64 a3 255)).bind fun bt327 => ((gimmallaw0_Num.f t320).bind fun t331 => (if t331 = 0 then ((gimmallaw0_Num.f t324).bind fun t332 => (if t332 = 0 then ((gimmallaw0_Num.f bt327.2).bind fun t333 => (gimmallaw6_SpanCut.j0 k t319 t323 bt327.1 (t333 != 0))) else (gimmallaw6_SpanCut.j0 k t319 t323 bt327.1 true))) else (gimmallaw6_SpanCut.j0 k t319 t323 bt327.1 true)))) = some true := H
        have A11 := Aside0.mk A110
        clear A110
        replace H := Option.bind_eq_some_iff.mp H
        obtain ⟨⟨t327, t328⟩, A120, H⟩ := H
        replace H : ((gimmallaw0_Num.f t320).bind fun t331 => (if t331 = 0 then ((gimmallaw0_Num.f t324).bind fun t332 => (if t332 = 0 then ((gimmallaw0_Num.f t328).bind fun t333 => (gimmallaw6_SpanCut.j0 k t319 t323 t327 (t333 != 0))) else (gimmallaw6_SpanCut.j0 k t319 t323 t327 true))) else (gimmallaw6_SpanCut.j0 k t319 t323 t327 true))) = some true := H
        have A12 := Aside0.mk A120
        clear A120
        have HC13 := Aside0.mk H
        clear H
        go_enter Try.func12, Try.ntmps12
        go_upto_region 11 with (first | (go_at_call 26; (with_reducible refine (gimmallaw6_awake.calls k  true _ A5.out).mono ?_); rintro e w14 ⟨rfl, hb⟩; have n0_ := Aside0.mk (below_step (by repeat (first | (with_reducible first | exact HB.out | apply below_alloc | apply pw_below_drewN | apply below_drew1) | exact HB.out)) hb); clear HB; have HB := n0_; clear n0_; (try clear hb); (try clear hb2); (try clear hk); (try clear hi)) | (go_at_call 21; (with_reducible refine (span_Of.calls k _ _ l0 (Go.bits .and .i64 a1 255) (Int.tmod (wrap64 ((wrap64 ((Go.bits .and .i64 a1 255) + 1)) + (wrap64 (Int.tmod (IntKind.u64.wrap (a2)) (IntKind.u64.wrap (wrap64 ((Int.tmod (wrap64 ((wrap64 ((Go.bits .and .i64 a3 255) - (Go.bits .and .i64 a1 255))) + 256)) 256) - 1))))))) 256) t319 t320 _ ?side1 ?side2 A10.out).mono ?_); (case side1 => repeat (first | exact (Kd.C_below HR0.out HB.out) | (with_reducible refine Kd.C_alloc ?_ _) | (with_reducible refine Kd.C_drewN ?_ _) | (with_reducible refine Kd.C_drew ?_))); (case side2 => exact HC0.out); rintro e w15 ⟨v321, rfl, ho0, hb⟩; have n0_ := Aside0.mk (Kd.R_lower ho0 (below_size (by repeat (first | (with_reducible first | exact HB.out | apply below_alloc | apply pw_below_drewN | apply below_drew1) | exact HB.out)))); have n1_ := Aside0.mk (below_step (by repeat (first | (with_reducible first | exact HB.out | apply below_alloc | apply pw_below_drewN | apply below_drew1) | exact HB.out)) hb); clear HB; have HO322 := n0_; have HB := n1_; clear n0_ n1_; (try clear hb); (try clear hb2); (try clear hk); (try clear hi); (try clear ho0)) | (go_at_call 21; (with_reducible refine (span_Of.calls k _ _ l0 (Int.tmod (wrap64 ((wrap64 ((Go.bits .and .i64 a1 255) + 1)) + (wrap64 (Int.tmod (IntKind.u64.wrap (a2)) (IntKind.u64.wrap (wrap64 ((Int.tmod (wrap64 ((wrap64 ((Go.bits .and .i64 a3 255) - (Go.bits .and .i64 a1 255))) + 256)) 256) - 1))))))) 256) (Go.bits .and .i64 a3 255) t323 t324 _ ?side1 ?side2 A11.out).mono ?_); (case side1 => repeat (first | exact (Kd.C_below HR0.out HB.out) | (with_reducible refine Kd.C_alloc ?_ _) | (with_reducible refine Kd.C_drewN ?_ _) | (with_reducible refine Kd.C_drew ?_))); (case side2 => exact HC0.out); rintro e w16 ⟨v325, rfl, ho0, hb⟩; have n0_ := Aside0.mk (Kd.R_elder' (by (with_reducible repeat (first | apply Kd.R_alloc | apply Kd.R_drewN | apply Kd.R_drew)); exact HO322.out) (Kd.R_base ho0) hb); have n1_ := Aside0.mk (Kd.R_lower (Kd.R_new' ho0 (Kd.R_lt (by (with_reducible repeat (first | apply Kd.R_alloc | apply Kd.R_drewN | apply Kd.R_drew)); exact HO322.out))) (below_size (by repeat (first | (with_reducible first | exact HB.out | apply below_alloc | apply pw_below_drewN | apply below_drew1) | exact HB.out)))); have n2_ := Aside0.mk (below_step (by repeat (first | (with_reducible first | exact HB.out | apply below_alloc | apply pw_below_drewN | apply below_drew1) | exact HB.out)) hb); clear HO322; clear HB; have HO322 := n0_; have HO326 := n1_; have HB := n2_; clear n0_ n1_ n2_; (try clear hb); (try clear hb2); (try clear hk); (try clear hi); (try clear ho0)) | (go_at_call 21; (with_reducible refine (span_Of.calls k _ _ l0 (Go.bits .and .i64 a1 255) (Go.bits .and .i64 a3 255) t327 t328 _ ?side1 ?side2 A12.out).mono ?_); (case side1 => repeat (first | exact (Kd.C_below HR0.out HB.out) | (with_reducible refine Kd.C_alloc ?_ _) | (with_reducible refine Kd.C_drewN ?_ _) | (with_reducible refine Kd.C_drew ?_))); (case side2 => exact HC0.out); rintro e w17 ⟨v329, rfl, ho0, hb⟩; have n0_ := Aside0.mk (Kd.R_elder' (by (with_reducible repeat (first | apply Kd.R_alloc | apply Kd.R_drewN | apply Kd.R_drew)); exact HO322.out) (Kd.R_base ho0) hb); have n1_ := Aside0.mk (Kd.R_elder' (by (with_reducible repeat (first | apply Kd.R_alloc | apply Kd.R_drewN | apply Kd.R_drew)); exact HO326.out) (Kd.R_base ho0) hb); have n2_ := Aside0.mk (Kd.R_lower (Kd.R_new' (Kd.R_new' ho0 (Kd.R_lt (by (with_reducible repeat (first | apply Kd.R_alloc | apply Kd.R_drewN | apply Kd.R_drew)); exact HO322.out))) (Kd.R_lt (by (with_reducible repeat (first | apply Kd.R_alloc | apply Kd.R_drewN | apply Kd.R_drew)); exact HO326.out))) (below_size (by repeat (first | (with_reducible first | exact HB.out | apply below_alloc | apply pw_below_drewN | apply below_drew1) | exact HB.out)))); have n3_ := Aside0.mk (below_step (by repeat (first | (with_reducible first | exact HB.out | apply below_alloc | apply pw_below_drewN | apply below_drew1) | exact HB.out)) hb); clear HO322; clear HO326; clear HB; have HO322 := n0_; have HO326 := n1_; have HO330 := n2_; have HB := n3_; clear n0_ n1_ n2_ n3_; (try clear hb); (try clear hb2); (try clear hk); (try clear hi); (try clear ho0)))
        repeat (go_quiet (first | (go_at_call 26; (with_reducible refine (gimmallaw6_awake.calls k  true _ A5.out).mono ?_); rintro e w14 ⟨rfl, hb⟩; have n0_ := Aside0.mk (below_step (by repeat (first | (with_reducible first | exact HB.out | apply below_alloc | apply pw_below_drewN | apply below_drew1) | exact HB.out)) hb); clear HB; have HB := n0_; clear n0_; (try clear hb); (try clear hb2); (try clear hk); (try clear hi)) | (go_at_call 21; (with_reducible refine (span_Of.calls k _ _ l0 (Go.bits .and .i64 a1 255) (Int.tmod (wrap64 ((wrap64 ((Go.bits .and .i64 a1 255) + 1)) + (wrap64 (Int.tmod (IntKind.u64.wrap (a2)) (IntKind.u64.wrap (wrap64 ((Int.tmod (wrap64 ((wrap64 ((Go.bits .and .i64 a3 255) - (Go.bits .and .i64 a1 255))) + 256)) 256) - 1))))))) 256) t319 t320 _ ?side1 ?side2 A10.out).mono ?_); (case side1 => repeat (first | exact (Kd.C_below HR0.out HB.out) | (with_reducible refine Kd.C_alloc ?_ _) | (with_reducible refine Kd.C_drewN ?_ _) | (with_reducible refine Kd.C_drew ?_))); (case side2 => exact HC0.out); rintro e w15 ⟨v321, rfl, ho0, hb⟩; have n0_ := Aside0.mk (Kd.R_lower ho0 (below_size (by repeat (first | (with_reducible first | exact HB.out | apply below_alloc | apply pw_below_drewN | apply below_drew1) | exact HB.out)))); have n1_ := Aside0.mk (below_step (by repeat (first | (with_reducible first | exact HB.out | apply below_alloc | apply pw_below_drewN | apply below_drew1) | exact HB.out)) hb); clear HB; have HO322 := n0_; have HB := n1_; clear n0_ n1_; (try clear hb); (try clear hb2); (try clear hk); (try clear hi); (try clear ho0)) | (go_at_call 21; (with_reducible refine (span_Of.calls k _ _ l0 (Int.tmod (wrap64 ((wrap64 ((Go.bits .and .i64 a1 255) + 1)) + (wrap64 (Int.tmod (IntKind.u64.wrap (a2)) (IntKind.u64.wrap (wrap64 ((Int.tmod (wrap64 ((wrap64 ((Go.bits .and .i64 a3 255) - (Go.bits .and .i64 a1 255))) + 256)) 256) - 1))))))) 256) (Go.bits .and .i64 a3 255) t323 t324 _ ?side1 ?side2 A11.out).mono ?_); (case side1 => repeat (first | exact (Kd.C_below HR0.out HB.out) | (with_reducible refine Kd.C_alloc ?_ _) | (with_reducible refine Kd.C_drewN ?_ _) | (with_reducible refine Kd.C_drew ?_))); (case side2 => exact HC0.out); rintro e w16 ⟨v325, rfl, ho0, hb⟩; have n0_ := Aside0.mk (Kd.R_elder' (by (with_reducible repeat (first | apply Kd.R_alloc | apply Kd.R_drewN | apply Kd.R_drew)); exact HO322.out) (Kd.R_base ho0) hb); have n1_ := Aside0.mk (Kd.R_lower (Kd.R_new' ho0 (Kd.R_lt (by (with_reducible repeat (first | apply Kd.R_alloc | apply Kd.R_drewN | apply Kd.R_drew)); exact HO322.out))) (below_size (by repeat (first | (with_reducible first | exact HB.out | apply below_alloc | apply pw_below_drewN | apply below_drew1) | exact HB.out)))); have n2_ := Aside0.mk (below_step (by repeat (first | (with_reducible first | exact HB.out | apply below_alloc | apply pw_below_drewN | apply below_drew1) | exact HB.out)) hb); clear HO322; clear HB; have HO322 := n0_; have HO326 := n1_; have HB := n2_; clear n0_ n1_ n2_; (try clear hb); (try clear hb2); (try clear hk); (try clear hi); (try clear ho0)) | (go_at_call 21; (with_reducible refine (span_Of.calls k _ _ l0 (Go.bits .and .i64 a1 255) (Go.bits .and .i64 a3 255) t327 t328 _ ?side1 ?side2 A12.out).mono ?_); (case side1 => repeat (first | exact (Kd.C_below HR0.out HB.out) | (with_reducible refine Kd.C_alloc ?_ _) | (with_reducible refine Kd.C_drewN ?_ _) | (with_reducible refine Kd.C_drew ?_))); (case side2 => exact HC0.out); rintro e w17 ⟨v329, rfl, ho0, hb⟩; have n0_ := Aside0.mk (Kd.R_elder' (by (with_reducible repeat (first | apply Kd.R_alloc | apply Kd.R_drewN | apply Kd.R_drew)); exact HO322.out) (Kd.R_base ho0) hb); have n1_ := Aside0.mk (Kd.R_elder' (by (with_reducible repeat (first | apply Kd.R_alloc | apply Kd.R_drewN | apply Kd.R_drew)); exact HO326.out) (Kd.R_base ho0) hb); have n2_ := Aside0.mk (Kd.R_lower (Kd.R_new' (Kd.R_new' ho0 (Kd.R_lt (by (with_reducible repeat (first | apply Kd.R_alloc | apply Kd.R_drewN | apply Kd.R_drew)); exact HO322.out))) (Kd.R_lt (by (with_reducible repeat (first | apply Kd.R_alloc | apply Kd.R_drewN | apply Kd.R_drew)); exact HO326.out))) (below_size (by repeat (first | (with_reducible first | exact HB.out | apply below_alloc | apply pw_below_drewN | apply below_drew1) | exact HB.out)))); have n3_ := Aside0.mk (below_step (by repeat (first | (with_reducible first | exact HB.out | apply below_alloc | apply pw_below_drewN | apply below_drew1) | exact HB.out)) hb); clear HO322; clear HO326; clear HB; have HO322 := n0_; have HO326 := n1_; have HO330 := n2_; have HB := n3_; clear n0_ n1_ n2_ n3_; (try clear hb); (try clear hb2); (try clear hk); (try clear hi); (try clear ho0))); go_upto_region 11 with (first | (go_at_call 26; (with_reducible refine (gimmallaw6_awake.calls k  true _ A5.out).mono ?_); rintro e w14 ⟨rfl, hb⟩; have n0_ := Aside0.mk (below_step (by repeat (first | (with_reducible first | exact HB.out | apply below_alloc | apply pw_below_drewN | apply below_drew1) | exact HB.out)) hb); clear HB; have HB := n0_; clear n0_; (try clear hb); (try clear hb2); (try clear hk); (try clear hi)) | (go_at_call 21; (with_reducible refine (span_Of.calls k _ _ l0 (Go.bits .and .i64 a1 255) (Int.tmod (wrap64 ((wrap64 ((Go.bits .and .i64 a1 255) + 1)) + (wrap64 (Int.tmod (IntKind.u64.wrap (a2)) (IntKind.u64.wrap (wrap64 ((Int.tmod (wrap64 ((wrap64 ((Go.bits .and .i64 a3 255) - (Go.bits .and .i64 a1 255))) + 256)) 256) - 1))))))) 256) t319 t320 _ ?side1 ?side2 A10.out).mono ?_); (case side1 => repeat (first | exact (Kd.C_below HR0.out HB.out) | (with_reducible refine Kd.C_alloc ?_ _) | (with_reducible refine Kd.C_drewN ?_ _) | (with_reducible refine Kd.C_drew ?_))); (case side2 => exact HC0.out); rintro e w15 ⟨v321, rfl, ho0, hb⟩; have n0_ := Aside0.mk (Kd.R_lower ho0 (below_size (by repeat (first | (with_reducible first | exact HB.out | apply below_alloc | apply pw_below_drewN | apply below_drew1) | exact HB.out)))); have n1_ := Aside0.mk (below_step (by repeat (first | (with_reducible first | exact HB.out | apply below_alloc | apply pw_below_drewN | apply below_drew1) | exact HB.out)) hb); clear HB; have HO322 := n0_; have HB := n1_; clear n0_ n1_; (try clear hb); (try clear hb2); (try clear hk); (try clear hi); (try clear ho0)) | (go_at_call 21; (with_reducible refine (span_Of.calls k _ _ l0 (Int.tmod (wrap64 ((wrap64 ((Go.bits .and .i64 a1 255) + 1)) + (wrap64 (Int.tmod (IntKind.u64.wrap (a2)) (IntKind.u64.wrap (wrap64 ((Int.tmod (wrap64 ((wrap64 ((Go.bits .and .i64 a3 255) - (Go.bits .and .i64 a1 255))) + 256)) 256) - 1))))))) 256) (Go.bits .and .i64 a3 255) t323 t324 _ ?side1 ?side2 A11.out).mono ?_); (case side1 => repeat (first | exact (Kd.C_below HR0.out HB.out) | (with_reducible refine Kd.C_alloc ?_ _) | (with_reducible refine Kd.C_drewN ?_ _) | (with_reducible refine Kd.C_drew ?_))); (case side2 => exact HC0.out); rintro e w16 ⟨v325, rfl, ho0, hb⟩; have n0_ := Aside0.mk (Kd.R_elder' (by (with_reducible repeat (first | apply Kd.R_alloc | apply Kd.R_drewN | apply Kd.R_drew)); exact HO322.out) (Kd.R_base ho0) hb); have n1_ := Aside0.mk (Kd.R_lower (Kd.R_new' ho0 (Kd.R_lt (by (with_reducible repeat (first | apply Kd.R_alloc | apply Kd.R_drewN | apply Kd.R_drew)); exact HO322.out))) (below_size (by repeat (first | (with_reducible first | exact HB.out | apply below_alloc | apply pw_below_drewN | apply below_drew1) | exact HB.out)))); have n2_ := Aside0.mk (below_step (by repeat (first | (with_reducible first | exact HB.out | apply below_alloc | apply pw_below_drewN | apply below_drew1) | exact HB.out)) hb); clear HO322; clear HB; have HO322 := n0_; have HO326 := n1_; have HB := n2_; clear n0_ n1_ n2_; (try clear hb); (try clear hb2); (try clear hk); (try clear hi); (try clear ho0)) | (go_at_call 21; (with_reducible refine (span_Of.calls k _ _ l0 (Go.bits .and .i64 a1 255) (Go.bits .and .i64 a3 255) t327 t328 _ ?side1 ?side2 A12.out).mono ?_); (case side1 => repeat (first | exact (Kd.C_below HR0.out HB.out) | (with_reducible refine Kd.C_alloc ?_ _) | (with_reducible refine Kd.C_drewN ?_ _) | (with_reducible refine Kd.C_drew ?_))); (case side2 => exact HC0.out); rintro e w17 ⟨v329, rfl, ho0, hb⟩; have n0_ := Aside0.mk (Kd.R_elder' (by (with_reducible repeat (first | apply Kd.R_alloc | apply Kd.R_drewN | apply Kd.R_drew)); exact HO322.out) (Kd.R_base ho0) hb); have n1_ := Aside0.mk (Kd.R_elder' (by (with_reducible repeat (first | apply Kd.R_alloc | apply Kd.R_drewN | apply Kd.R_drew)); exact HO326.out) (Kd.R_base ho0) hb); have n2_ := Aside0.mk (Kd.R_lower (Kd.R_new' (Kd.R_new' ho0 (Kd.R_lt (by (with_reducible repeat (first | apply Kd.R_alloc | apply Kd.R_drewN | apply Kd.R_drew)); exact HO322.out))) (Kd.R_lt (by (with_reducible repeat (first | apply Kd.R_alloc | apply Kd.R_drewN | apply Kd.R_drew)); exact HO326.out))) (below_size (by repeat (first | (with_reducible first | exact HB.out | apply below_alloc | apply pw_below_drewN | apply below_drew1) | exact HB.out)))); have n3_ := Aside0.mk (below_step (by repeat (first | (with_reducible first | exact HB.out | apply below_alloc | apply pw_below_drewN | apply below_drew1) | exact HB.out)) hb); clear HO322; clear HO326; clear HB; have HO322 := n0_; have HO326 := n1_; have HO330 := n2_; have HB := n3_; clear n0_ n1_ n2_ n3_; (try clear hb); (try clear hb2); (try clear hk); (try clear hi); (try clear ho0))))
        (try simp only [Act.put, List.setIfInBounds_toArray, List.set_cons_zero, List.set_cons_succ])
        go_cut [79] (fun v79 wc => ∃ (kq : Nat) (x79_12 : Bool), v79 = .bool x79_12 ∧ Aside0 (gimmallaw6_SpanCut.j0 kq t319 t323 t327 x79_12 = some true) ∧ Aside0 (kq ≤ k) ∧ Aside0 (Kd.R k25 25 wc w.heap.size (fun k_ => some k_ ≠ (v325 : Value).ownBlock ∧ some k_ ≠ (v329 : Value).ownBlock) v321 t319) ∧ Aside0 (Kd.R k25 25 wc w.heap.size (fun k_ => some k_ ≠ (v321 : Value).ownBlock ∧ some k_ ≠ (v329 : Value).ownBlock) v325 t323) ∧ Aside0 (Kd.R k25 25 wc w.heap.size (fun k_ => some k_ ≠ (v321 : Value).ownBlock ∧ some k_ ≠ (v325 : Value).ownBlock) v329 t327) ∧ Aside0 (Below w.heap.size w wc))
        case first =>
          have H := HC13.out
          clear HC13
          replace H := Option.bind_eq_some_iff.mp H
          obtain ⟨t331, A180, H⟩ := H
          replace H : (if t331 = 0 then ((gimmallaw0_Num.f t324).bind fun t332 => (if t332 = 0 then ((gimmallaw0_Num.f t328).bind fun t333 => (gimmallaw6_SpanCut.j0 k t319 t323 t327 (t333 != 0))) else (gimmallaw6_SpanCut.j0 k t319 t323 t327 true))) else (gimmallaw6_SpanCut.j0 k t319 t323 t327 true)) = some true := H
          have A18 := Aside0.mk A180
          clear A180
          by_cases c19 : t331 = 0
          · rw [if_pos c19] at H
            have c19b0 : (t331 == 0) = true := beq_iff_eq.mpr c19
            have c19b1 : (t331 != 0) = false := bne_eq_false_iff_eq.mpr c19
            clear c19
            (first | rw [c19b0] | (simp only [i64_w, i32_w]; rw [c19b0]) | skip)
            replace H := Option.bind_eq_some_iff.mp H
            obtain ⟨t332, A200, H⟩ := H
            replace H : (if t332 = 0 then ((gimmallaw0_Num.f t328).bind fun t333 => (gimmallaw6_SpanCut.j0 k t319 t323 t327 (t333 != 0))) else (gimmallaw6_SpanCut.j0 k t319 t323 t327 true)) = some true := H
            have A20 := Aside0.mk A200
            clear A200
            by_cases c21 : t332 = 0
            · rw [if_pos c21] at H
              have c21b0 : (t332 == 0) = true := beq_iff_eq.mpr c21
              have c21b1 : (t332 != 0) = false := bne_eq_false_iff_eq.mpr c21
              clear c21
              replace H := Option.bind_eq_some_iff.mp H
              obtain ⟨t333, A220, H⟩ := H
              replace H : (gimmallaw6_SpanCut.j0 k t319 t323 t327 (t333 != 0)) = some true := H
              have A22 := Aside0.mk A220
              clear A220
              have H' := Aside0.mk H
              clear H
              go_wp2_with (first | (go_at_call 15; (with_reducible refine (gimmallaw0_Num.calls t320 t331 _ A18.out).mono ?_); rintro e w' ⟨rfl, ⟨nd, rfl⟩⟩; (try first | exact ⟨rfl, _, World.drewN_drewN _ _ _⟩ | exact ⟨rfl, _, Eq.trans (World.drewN_drewN _ _ _) (congrArg (World.drewN _) (Nat.add_assoc _ _ _))⟩)) | (go_at_call 15; (with_reducible refine (gimmallaw0_Num.calls t324 t332 _ A20.out).mono ?_); rintro e w' ⟨rfl, ⟨nd, rfl⟩⟩; (try first | exact ⟨rfl, _, World.drewN_drewN _ _ _⟩ | exact ⟨rfl, _, Eq.trans (World.drewN_drewN _ _ _) (congrArg (World.drewN _) (Nat.add_assoc _ _ _))⟩)) | (go_at_call 15; (with_reducible refine (gimmallaw0_Num.calls t328 t333 _ A22.out).mono ?_); rintro e w' ⟨rfl, ⟨nd, rfl⟩⟩; (try first | exact ⟨rfl, _, World.drewN_drewN _ _ _⟩ | exact ⟨rfl, _, Eq.trans (World.drewN_drewN _ _ _) (congrArg (World.drewN _) (Nat.add_assoc _ _ _))⟩)))
              repeat (go_quiet (first | (go_at_call 15; (with_reducible refine (gimmallaw0_Num.calls t320 t331 _ A18.out).mono ?_); rintro e w' ⟨rfl, ⟨nd, rfl⟩⟩; (try first | exact ⟨rfl, _, World.drewN_drewN _ _ _⟩ | exact ⟨rfl, _, Eq.trans (World.drewN_drewN _ _ _) (congrArg (World.drewN _) (Nat.add_assoc _ _ _))⟩)) | (go_at_call 15; (with_reducible refine (gimmallaw0_Num.calls t324 t332 _ A20.out).mono ?_); rintro e w' ⟨rfl, ⟨nd, rfl⟩⟩; (try first | exact ⟨rfl, _, World.drewN_drewN _ _ _⟩ | exact ⟨rfl, _, Eq.trans (World.drewN_drewN _ _ _) (congrArg (World.drewN _) (Nat.add_assoc _ _ _))⟩)) | (go_at_call 15; (with_reducible refine (gimmallaw0_Num.calls t328 t333 _ A22.out).mono ?_); rintro e w' ⟨rfl, ⟨nd, rfl⟩⟩; (try first | exact ⟨rfl, _, World.drewN_drewN _ _ _⟩ | exact ⟨rfl, _, Eq.trans (World.drewN_drewN _ _ _) (congrArg (World.drewN _) (Nat.add_assoc _ _ _))⟩))); try go_wp2_with (first | (go_at_call 15; (with_reducible refine (gimmallaw0_Num.calls t320 t331 _ A18.out).mono ?_); rintro e w' ⟨rfl, ⟨nd, rfl⟩⟩; (try first | exact ⟨rfl, _, World.drewN_drewN _ _ _⟩ | exact ⟨rfl, _, Eq.trans (World.drewN_drewN _ _ _) (congrArg (World.drewN _) (Nat.add_assoc _ _ _))⟩)) | (go_at_call 15; (with_reducible refine (gimmallaw0_Num.calls t324 t332 _ A20.out).mono ?_); rintro e w' ⟨rfl, ⟨nd, rfl⟩⟩; (try first | exact ⟨rfl, _, World.drewN_drewN _ _ _⟩ | exact ⟨rfl, _, Eq.trans (World.drewN_drewN _ _ _) (congrArg (World.drewN _) (Nat.add_assoc _ _ _))⟩)) | (go_at_call 15; (with_reducible refine (gimmallaw0_Num.calls t328 t333 _ A22.out).mono ?_); rintro e w' ⟨rfl, ⟨nd, rfl⟩⟩; (try first | exact ⟨rfl, _, World.drewN_drewN _ _ _⟩ | exact ⟨rfl, _, Eq.trans (World.drewN_drewN _ _ _) (congrArg (World.drewN _) (Nat.add_assoc _ _ _))⟩))))
              go_meet
              case rel => exact ⟨_, ((t333 != 0)), (by first | rfl | (simp; done) | (simp [*]; done)), H', ⟨by first | omega | exact Nat.le_refl _⟩, ⟨by (with_reducible repeat (first | apply Kd.R_alloc | apply Kd.R_drewN | apply Kd.R_drew)); exact Kd.R_mono HO322.out (fun _ hk => ⟨hk.1.2, hk.2⟩)⟩, ⟨by (with_reducible repeat (first | apply Kd.R_alloc | apply Kd.R_drewN | apply Kd.R_drew)); exact Kd.R_mono HO326.out (fun _ hk => ⟨hk.1.2, hk.2⟩)⟩, ⟨by (with_reducible repeat (first | apply Kd.R_alloc | apply Kd.R_drewN | apply Kd.R_drew)); exact Kd.R_mono HO330.out (fun _ hk => ⟨hk.1.2, hk.2⟩)⟩, ⟨by repeat (first | (with_reducible first | exact HB.out | apply below_alloc | apply pw_below_drewN | apply below_drew1) | exact HB.out)⟩⟩
            · rw [if_neg c21] at H
              have c21b0 : (t332 == 0) = false := beq_eq_false_iff_ne.mpr c21
              have c21b1 : (t332 != 0) = true := bne_iff_ne.mpr c21
              have H' := Aside0.mk H
              clear H
              go_wp2_with (first | (go_at_call 15; (with_reducible refine (gimmallaw0_Num.calls t320 t331 _ A18.out).mono ?_); rintro e w' ⟨rfl, ⟨nd, rfl⟩⟩; (try first | exact ⟨rfl, _, World.drewN_drewN _ _ _⟩ | exact ⟨rfl, _, Eq.trans (World.drewN_drewN _ _ _) (congrArg (World.drewN _) (Nat.add_assoc _ _ _))⟩)) | (go_at_call 15; (with_reducible refine (gimmallaw0_Num.calls t324 t332 _ A20.out).mono ?_); rintro e w' ⟨rfl, ⟨nd, rfl⟩⟩; (try first | exact ⟨rfl, _, World.drewN_drewN _ _ _⟩ | exact ⟨rfl, _, Eq.trans (World.drewN_drewN _ _ _) (congrArg (World.drewN _) (Nat.add_assoc _ _ _))⟩)))
              repeat (go_quiet (first | (go_at_call 15; (with_reducible refine (gimmallaw0_Num.calls t320 t331 _ A18.out).mono ?_); rintro e w' ⟨rfl, ⟨nd, rfl⟩⟩; (try first | exact ⟨rfl, _, World.drewN_drewN _ _ _⟩ | exact ⟨rfl, _, Eq.trans (World.drewN_drewN _ _ _) (congrArg (World.drewN _) (Nat.add_assoc _ _ _))⟩)) | (go_at_call 15; (with_reducible refine (gimmallaw0_Num.calls t324 t332 _ A20.out).mono ?_); rintro e w' ⟨rfl, ⟨nd, rfl⟩⟩; (try first | exact ⟨rfl, _, World.drewN_drewN _ _ _⟩ | exact ⟨rfl, _, Eq.trans (World.drewN_drewN _ _ _) (congrArg (World.drewN _) (Nat.add_assoc _ _ _))⟩))); try go_wp2_with (first | (go_at_call 15; (with_reducible refine (gimmallaw0_Num.calls t320 t331 _ A18.out).mono ?_); rintro e w' ⟨rfl, ⟨nd, rfl⟩⟩; (try first | exact ⟨rfl, _, World.drewN_drewN _ _ _⟩ | exact ⟨rfl, _, Eq.trans (World.drewN_drewN _ _ _) (congrArg (World.drewN _) (Nat.add_assoc _ _ _))⟩)) | (go_at_call 15; (with_reducible refine (gimmallaw0_Num.calls t324 t332 _ A20.out).mono ?_); rintro e w' ⟨rfl, ⟨nd, rfl⟩⟩; (try first | exact ⟨rfl, _, World.drewN_drewN _ _ _⟩ | exact ⟨rfl, _, Eq.trans (World.drewN_drewN _ _ _) (congrArg (World.drewN _) (Nat.add_assoc _ _ _))⟩))))
              go_meet
              case rel => exact ⟨_, (true), (by first | rfl | (simp; done) | (simp [*]; done)), H', ⟨by first | omega | exact Nat.le_refl _⟩, ⟨by (with_reducible repeat (first | apply Kd.R_alloc | apply Kd.R_drewN | apply Kd.R_drew)); exact Kd.R_mono HO322.out (fun _ hk => ⟨hk.1.2, hk.2⟩)⟩, ⟨by (with_reducible repeat (first | apply Kd.R_alloc | apply Kd.R_drewN | apply Kd.R_drew)); exact Kd.R_mono HO326.out (fun _ hk => ⟨hk.1.2, hk.2⟩)⟩, ⟨by (with_reducible repeat (first | apply Kd.R_alloc | apply Kd.R_drewN | apply Kd.R_drew)); exact Kd.R_mono HO330.out (fun _ hk => ⟨hk.1.2, hk.2⟩)⟩, ⟨by repeat (first | (with_reducible first | exact HB.out | apply below_alloc | apply pw_below_drewN | apply below_drew1) | exact HB.out)⟩⟩
          · rw [if_neg c19] at H
            have c19b0 : (t331 == 0) = false := beq_eq_false_iff_ne.mpr c19
            have c19b1 : (t331 != 0) = true := bne_iff_ne.mpr c19
            (first | rw [c19b0] | (simp only [i64_w, i32_w]; rw [c19b0]) | skip)
            have H' := Aside0.mk H
            clear H
            go_wp2_with (first | (go_at_call 15; (with_reducible refine (gimmallaw0_Num.calls t320 t331 _ A18.out).mono ?_); rintro e w' ⟨rfl, ⟨nd, rfl⟩⟩; (try first | exact ⟨rfl, _, World.drewN_drewN _ _ _⟩ | exact ⟨rfl, _, Eq.trans (World.drewN_drewN _ _ _) (congrArg (World.drewN _) (Nat.add_assoc _ _ _))⟩)))
            repeat (go_quiet (first | (go_at_call 15; (with_reducible refine (gimmallaw0_Num.calls t320 t331 _ A18.out).mono ?_); rintro e w' ⟨rfl, ⟨nd, rfl⟩⟩; (try first | exact ⟨rfl, _, World.drewN_drewN _ _ _⟩ | exact ⟨rfl, _, Eq.trans (World.drewN_drewN _ _ _) (congrArg (World.drewN _) (Nat.add_assoc _ _ _))⟩))); try go_wp2_with (first | (go_at_call 15; (with_reducible refine (gimmallaw0_Num.calls t320 t331 _ A18.out).mono ?_); rintro e w' ⟨rfl, ⟨nd, rfl⟩⟩; (try first | exact ⟨rfl, _, World.drewN_drewN _ _ _⟩ | exact ⟨rfl, _, Eq.trans (World.drewN_drewN _ _ _) (congrArg (World.drewN _) (Nat.add_assoc _ _ _))⟩))))
            go_meet
            case rel => exact ⟨_, (true), (by first | rfl | (simp; done) | (simp [*]; done)), H', ⟨by first | omega | exact Nat.le_refl _⟩, ⟨by (with_reducible repeat (first | apply Kd.R_alloc | apply Kd.R_drewN | apply Kd.R_drew)); exact Kd.R_mono HO322.out (fun _ hk => ⟨hk.1.2, hk.2⟩)⟩, ⟨by (with_reducible repeat (first | apply Kd.R_alloc | apply Kd.R_drewN | apply Kd.R_drew)); exact Kd.R_mono HO326.out (fun _ hk => ⟨hk.1.2, hk.2⟩)⟩, ⟨by (with_reducible repeat (first | apply Kd.R_alloc | apply Kd.R_drewN | apply Kd.R_drew)); exact Kd.R_mono HO330.out (fun _ hk => ⟨hk.1.2, hk.2⟩)⟩, ⟨by repeat (first | (with_reducible first | exact HB.out | apply below_alloc | apply pw_below_drewN | apply below_drew1) | exact HB.out)⟩⟩
        case rest =>
          clear HC13
          try clear c1
          try clear c2
          try clear p2
          try clear c6
          try clear p6
          try clear c7
          try clear c7b0
          try clear c9
          try clear c9b0
          try clear c9b1
          try clear c12
          try clear c19
          try clear c19b0
          try clear c19b1
          try clear c21
          try clear c21b0
          try clear c21b1
          obtain ⟨kq, x79_12, rfl, HA, HJ12, HO_13, HO_15, HO_17, HB⟩ := hcut
          cases kq with
          | zero => exact absurd HA.out (by simp [gimmallaw6_SpanCut.j0])
          | succ kj12 =>
            have H := HA.out
            clear HA
            simp only [gimmallaw6_SpanCut.j0] at H
            by_cases c23 : x79_12 = true
            · subst c23
              have H1 : (some ((wrap64 ((wrap64 ((t319.length : Int) + (t323.length : Int))) + (t327.length : Int))) == 0)) = some true := by rw [if_pos rfl] at H; exact H
              clear H
              have H := H1
              clear H1
              have HR := Aside0.mk (Option.some.inj H)
              clear H
              obtain ⟨Ao24, co24, eo24⟩ := Kd.R_slice HO_13.out
              subst eo24
              obtain ⟨Ao25, co25, eo25⟩ := Kd.R_slice HO_15.out
              subst eo25
              obtain ⟨Ao26, co26, eo26⟩ := Kd.R_slice HO_17.out
              subst eo26
              go_wp2
              repeat (go_quiet (fail); try go_wp2)
              go_ret
              exact ⟨by first | exact (congrArg (fun b => Ending.returned (Value.bool b)) HR.out) | (have HRS := HR.out; simp at HRS; simp [HRS]; done) | rfl | (simp [errW_none, errW_some] <;> rfl) | (simp [*, errW_none, errW_some] <;> rfl), by repeat (first | (with_reducible first | exact HB.out | apply below_alloc | apply pw_below_drewN | apply below_drew1) | exact HB.out)⟩
            · replace c23 := Bool.eq_false_iff.mpr c23
              subst c23
              have H1 : (gimmallaw6_SpanCut.l0 kj12 t319 t323 t327 0 0 0) = some true := by rw [if_neg (show ¬ (false = true) by decide)] at H; exact H
              clear H
              have H := H1
              clear H1
              have H' := Aside0.mk H
              clear H
              go_wp2
              repeat (go_quiet (fail); try go_wp2)
              go_loopg [19, 20, 21] kj12 (fun kq v19 v20 v21 w' => ∃ (x19_2 : Int) (x20_2 : Int) (x21_2 : Int), v19 = .int .i64 x19_2 ∧ v20 = .int .i64 x20_2 ∧ v21 = .int .i64 x21_2 ∧ Aside0 (gimmallaw6_SpanCut.l0 kq t319 t323 t327 x19_2 x20_2 x21_2 = some true) ∧ Aside0 (kq ≤ kj12) ∧ Aside0 (Kd.R k25 25 w' w.heap.size (fun k_ => some k_ ≠ (v325 : Value).ownBlock ∧ some k_ ≠ (v329 : Value).ownBlock) v321 t319) ∧ Aside0 (Kd.R k25 25 w' w.heap.size (fun k_ => some k_ ≠ (v321 : Value).ownBlock ∧ some k_ ≠ (v329 : Value).ownBlock) v325 t323) ∧ Aside0 (Kd.R k25 25 w' w.heap.size (fun k_ => some k_ ≠ (v321 : Value).ownBlock ∧ some k_ ≠ (v325 : Value).ownBlock) v329 t327) ∧ Aside0 (Below w.heap.size w w'))
              case atStart => exact ⟨(0), (0), (0), (by first | rfl | (simp; done) | (simp [*]; done)), (by first | rfl | (simp; done) | (simp [*]; done)), (by first | rfl | (simp; done) | (simp [*]; done)), H', ⟨Nat.le_refl _⟩, ⟨by (with_reducible repeat (first | apply Kd.R_alloc | apply Kd.R_drewN | apply Kd.R_drew)); exact HO_13.out⟩, ⟨by (with_reducible repeat (first | apply Kd.R_alloc | apply Kd.R_drewN | apply Kd.R_drew)); exact HO_15.out⟩, ⟨by (with_reducible repeat (first | apply Kd.R_alloc | apply Kd.R_drewN | apply Kd.R_drew)); exact HO_17.out⟩, ⟨by repeat (first | (with_reducible first | exact HB.out | apply below_alloc | apply pw_below_drewN | apply below_drew1) | exact HB.out)⟩⟩
              case round =>
                clear H'
                try clear c1
                try clear c2
                try clear p2
                try clear c6
                try clear p6
                try clear c7
                try clear c7b0
                try clear c9
                try clear c9b0
                try clear c9b1
                try clear c12
                try clear c19
                try clear c19b0
                try clear c19b1
                try clear c21
                try clear c21b0
                try clear c21b1
                try clear c23
                try clear p2
                try clear p6
                obtain ⟨x19_2, x20_2, x21_2, rfl, rfl, rfl, HA, HK2, HO_13, HO_15, HO_17, HB⟩ := hrel
                cases gk with
                | zero => exact absurd HA.out (by simp [gimmallaw6_SpanCut.l0])
                | succ k2 =>
                  have H := HA.out
                  clear HA
                  simp only [gimmallaw6_SpanCut.l0] at H
                  by_cases c27 : x21_2 < (t327.length : Int)
                  · rw [if_pos c27] at H
                    have c27b0 : decide (x21_2 < (t327.length : Int)) = true := decide_eq_true c27
                    clear c27
                    have HC28 := Aside0.mk H
                    clear H
                    obtain ⟨Ao29, co29, eo29⟩ := Kd.R_slice HO_17.out
                    subst eo29
                    go_upto_region 18 with (fail)
                    repeat (go_quiet (fail); go_upto_region 18 with (fail))
                    go_cut [95] (fun v95 wc => ∃ (kq : Nat) (x95_27 : Bool), v95 = .bool x95_27 ∧ Aside0 (gimmallaw6_SpanCut.j2 kq t319 t323 t327 x19_2 x20_2 x21_2 x95_27 = some true) ∧ Aside0 (kq ≤ k2) ∧ Aside0 (Kd.R k25 25 wc w.heap.size (fun k_ => some k_ ≠ (v325 : Value).ownBlock ∧ some k_ ≠ ((.slice Ao29 t327.length co29) : Value).ownBlock) v321 t319) ∧ Aside0 (Kd.R k25 25 wc w.heap.size (fun k_ => some k_ ≠ (v321 : Value).ownBlock ∧ some k_ ≠ ((.slice Ao29 t327.length co29) : Value).ownBlock) v325 t323) ∧ Aside0 (Kd.R k25 25 wc w.heap.size (fun k_ => some k_ ≠ (v321 : Value).ownBlock ∧ some k_ ≠ (v325 : Value).ownBlock) (.slice Ao29 t327.length co29) t327) ∧ Aside0 (Below w.heap.size w wc))
                    case first =>
                      have H := HC28.out
                      clear HC28
                      by_cases c30 : x19_2 < (t319.length : Int)
                      · rw [if_pos c30] at H
                        have c30b0 : decide (x19_2 < (t319.length : Int)) = true := decide_eq_true c30
                        clear c30
                        (first | rw [c30b0] | (simp only [i64_w, i32_w]; rw [c30b0]) | skip)
                        by_cases c31 : 0 ≤ x19_2
                        · rw [if_pos c31] at H
                          have c31b0 : decide (0 ≤ x19_2) = true := decide_eq_true c31
                          clear c31
                          by_cases c32 : 0 ≤ x21_2
                          · rw [if_pos c32] at H
                            have c32b0 : decide (0 ≤ x21_2) = true := decide_eq_true c32
                            clear c32
                            have H' := Aside0.mk H
                            clear H
                            obtain ⟨Ao33, co33, eo33⟩ := Kd.R_slice HO_13.out
                            subst eo33
                            have p334 : 0 ≤ (x19_2 : Int) := of_decide_eq_true (by first | (with_reducible assumption) | assumption)
                            have q334 : x19_2 < (t319.length : Int) := of_decide_eq_true (by first | (with_reducible assumption) | assumption)
                            obtain ⟨ad334, e334, hx334_0, hx334_1, hx334_2, hx334_3, hx334_4⟩ := at_T25 (Kd.R_reads' HO_13.out).2.2 x19_2 p334 q334
                            cases e334
                            replace p334 := eq_true p334
                            replace q334 := eq_true q334
                            have p335 : 0 ≤ (x21_2 : Int) := of_decide_eq_true (by first | (with_reducible assumption) | assumption)
                            have q335 : x21_2 < (t327.length : Int) := of_decide_eq_true (by first | (with_reducible assumption) | assumption)
                            obtain ⟨ad335, e335, hx335_0, hx335_1, hx335_2, hx335_3, hx335_4⟩ := at_T25 (Kd.R_reads' HO_17.out).2.2 x21_2 p335 q335
                            cases e335
                            replace p335 := eq_true p335
                            replace q335 := eq_true q335
                            go_wp2
                            repeat (go_quiet (fail); try go_wp2)
                            go_meet
                            case rel => exact ⟨_, ((((rd_T25 t319 x19_2).f0) == ((rd_T25 t327 x21_2).f0) && ((((rd_T25 t319 x19_2).f1.f0) == ((rd_T25 t327 x21_2).f1.f0) && (((rd_T25 t319 x19_2).f1.f1) == ((rd_T25 t327 x21_2).f1.f1))) && (((rd_T25 t319 x19_2).f2) == ((rd_T25 t327 x21_2).f2) && (((rd_T25 t319 x19_2).f3) == ((rd_T25 t327 x21_2).f3)))))), (by first | rfl | (simp; done) | (simp [*]; done)), H', ⟨by have := HJ12.out; have := HK2.out; first | omega | exact Nat.le_refl _⟩, ⟨by (with_reducible repeat (first | apply Kd.R_alloc | apply Kd.R_drewN | apply Kd.R_drew)); exact HO_13.out⟩, ⟨by (with_reducible repeat (first | apply Kd.R_alloc | apply Kd.R_drewN | apply Kd.R_drew)); exact HO_15.out⟩, ⟨by (with_reducible repeat (first | apply Kd.R_alloc | apply Kd.R_drewN | apply Kd.R_drew)); exact HO_17.out⟩, ⟨by repeat (first | (with_reducible first | exact HB.out | apply below_alloc | apply pw_below_drewN | apply below_drew1) | exact HB.out)⟩⟩
                          · rw [if_neg c32] at H
                            exact absurd H (by simp)
                        · rw [if_neg c31] at H
                          exact absurd H (by simp)
                      · rw [if_neg c30] at H
                        have c30b0 : decide (x19_2 < (t319.length : Int)) = false := decide_eq_false c30
                        clear c30
                        (first | rw [c30b0] | (simp only [i64_w, i32_w]; rw [c30b0]) | skip)
                        have H' := Aside0.mk H
                        clear H
                        obtain ⟨Ao34, co34, eo34⟩ := Kd.R_slice HO_13.out
                        subst eo34
                        go_wp2
                        repeat (go_quiet (fail); try go_wp2)
                        go_meet
                        case rel => exact ⟨_, (false), (by first | rfl | (simp; done) | (simp [*]; done)), H', ⟨by have := HJ12.out; have := HK2.out; first | omega | exact Nat.le_refl _⟩, ⟨by (with_reducible repeat (first | apply Kd.R_alloc | apply Kd.R_drewN | apply Kd.R_drew)); exact HO_13.out⟩, ⟨by (with_reducible repeat (first | apply Kd.R_alloc | apply Kd.R_drewN | apply Kd.R_drew)); exact HO_15.out⟩, ⟨by (with_reducible repeat (first | apply Kd.R_alloc | apply Kd.R_drewN | apply Kd.R_drew)); exact HO_17.out⟩, ⟨by repeat (first | (with_reducible first | exact HB.out | apply below_alloc | apply pw_below_drewN | apply below_drew1) | exact HB.out)⟩⟩
                    case rest =>
                      clear HC28
                      try clear c1
                      try clear c2
                      try clear p2
                      try clear c3
                      try clear p3
                      try clear q3
                      try clear hx3
                      try clear c6
                      try clear p6
                      try clear c7
                      try clear c7b0
                      try clear c9
                      try clear c9b0
                      try clear c9b1
                      try clear c12
                      try clear c19
                      try clear c19b0
                      try clear c19b1
                      try clear c21
                      try clear c21b0
                      try clear c21b1
                      try clear c23
                      try clear c27
                      try clear c27b0
                      try clear c30
                      try clear c30b0
                      try clear c31
                      try clear c31b0
                      try clear c32
                      try clear c32b0
                      try clear p33
                      try clear q33
                      try clear hx33
                      try clear hx334_0
                      try clear hx334_1
                      try clear hx334_2
                      try clear hx334_3
                      try clear hx334_4
                      try clear hx335_0
                      try clear hx335_1
                      try clear hx335_2
                      try clear hx335_3
                      try clear hx335_4
                      try clear p2
                      try clear p334
                      try clear p335
                      try clear p6
                      try clear q334
                      try clear q335
                      obtain ⟨kq, x95_27, rfl, HA, HJ27, HO_13, HO_15, HO_17, HB⟩ := hcut
                      cases kq with
                      | zero => exact absurd HA.out (by simp [gimmallaw6_SpanCut.j2])
                      | succ kj27 =>
                        have H := HA.out
                        clear HA
                        simp only [gimmallaw6_SpanCut.j2] at H
                        by_cases c35 : x95_27 = true
                        · subst c35
                          have H1 : (gimmallaw6_SpanCut.l0 kj27 t319 t323 t327 (wrap64 (x19_2 + 1)) x20_2 (wrap64 (x21_2 + 1))) = some true := by rw [if_pos rfl] at H; exact H
                          clear H
                          have H := H1
                          clear H1
                          have H' := Aside0.mk H
                          clear H
                          go_wp2
                          repeat (go_quiet (fail); try go_wp2)
                          go_roundg kj27
                          case measure => have := HJ12.out; have := HK2.out; have := HJ27.out; omega
                          case rel => exact ⟨(wrap64 (x19_2 + 1)), (x20_2), (wrap64 (x21_2 + 1)), (by first | rfl | (simp; done) | (simp [*]; done)), (by first | rfl | (simp; done) | (simp [*]; done)), (by first | rfl | (simp; done) | (simp [*]; done)), H', ⟨by have := HJ12.out; have := HK2.out; have := HJ27.out; omega⟩, ⟨by (with_reducible repeat (first | apply Kd.R_alloc | apply Kd.R_drewN | apply Kd.R_drew)); exact HO_13.out⟩, ⟨by (with_reducible repeat (first | apply Kd.R_alloc | apply Kd.R_drewN | apply Kd.R_drew)); exact HO_15.out⟩, ⟨by (with_reducible repeat (first | apply Kd.R_alloc | apply Kd.R_drewN | apply Kd.R_drew)); exact HO_17.out⟩, ⟨by repeat (first | (with_reducible first | exact HB.out | apply below_alloc | apply pw_below_drewN | apply below_drew1) | exact HB.out)⟩⟩
                        · replace c35 := Bool.eq_false_iff.mpr c35
                          subst c35
                          have H1 : (if x20_2 < (t323.length : Int) then (if 0 ≤ x20_2 then (if 0 ≤ x21_2 then (if x21_2 < (t327.length : Int) then (if (((rd_T25 t323 x20_2).f0) == ((rd_T25 t327 x21_2).f0) && ((((rd_T25 t323 x20_2).f1.f0) == ((rd_T25 t327 x21_2).f1.f0) && (((rd_T25 t323 x20_2).f1.f1) == ((rd_T25 t327 x21_2).f1.f1))) && (((rd_T25 t323 x20_2).f2) == ((rd_T25 t327 x21_2).f2) && (((rd_T25 t323 x20_2).f3) == ((rd_T25 t327 x21_2).f3))))) = true then (gimmallaw6_SpanCut.l0 kj27 t319 t323 t327 x19_2 (wrap64 (x20_2 + 1)) (wrap64 (x21_2 + 1))) else (some false)) else (none)) else (none)) else (none)) else (some false)) = some true := by rw [if_neg (show ¬ (false = true) by decide)] at H; exact H
                          clear H
                          have H := H1
                          clear H1
                          by_cases c36 : x20_2 < (t323.length : Int)
                          · rw [if_pos c36] at H
                            have c36b0 : decide (x20_2 < (t323.length : Int)) = true := decide_eq_true c36
                            clear c36
                            by_cases c37 : 0 ≤ x20_2
                            · rw [if_pos c37] at H
                              have c37b0 : decide (0 ≤ x20_2) = true := decide_eq_true c37
                              clear c37
                              by_cases c38 : 0 ≤ x21_2
                              · rw [if_pos c38] at H
                                have c38b0 : decide (0 ≤ x21_2) = true := decide_eq_true c38
                                clear c38
                                by_cases c39 : x21_2 < (t327.length : Int)
                                · rw [if_pos c39] at H
                                  have c39b0 : decide (x21_2 < (t327.length : Int)) = true := decide_eq_true c39
                                  clear c39
                                  by_cases c40 : (((rd_T25 t323 x20_2).f0) == ((rd_T25 t327 x21_2).f0) && ((((rd_T25 t323 x20_2).f1.f0) == ((rd_T25 t327 x21_2).f1.f0) && (((rd_T25 t323 x20_2).f1.f1) == ((rd_T25 t327 x21_2).f1.f1))) && (((rd_T25 t323 x20_2).f2) == ((rd_T25 t327 x21_2).f2) && (((rd_T25 t323 x20_2).f3) == ((rd_T25 t327 x21_2).f3))))) = true
                                  · rw [if_pos c40] at H
                                    have c40b0 : (((rd_T25 t323 x20_2).f0) == ((rd_T25 t327 x21_2).f0) && ((((rd_T25 t323 x20_2).f1.f0) == ((rd_T25 t327 x21_2).f1.f0) && (((rd_T25 t323 x20_2).f1.f1) == ((rd_T25 t327 x21_2).f1.f1))) && (((rd_T25 t323 x20_2).f2) == ((rd_T25 t327 x21_2).f2) && (((rd_T25 t323 x20_2).f3) == ((rd_T25 t327 x21_2).f3))))) = true := c40
                                    (try (have c40b1 : decide (((rd_T25 t323 x20_2).f0) = ((rd_T25 t327 x21_2).f0) && ((((rd_T25 t323 x20_2).f1.f0) == ((rd_T25 t327 x21_2).f1.f0) && (((rd_T25 t323 x20_2).f1.f1) == ((rd_T25 t327 x21_2).f1.f1))) && (((rd_T25 t323 x20_2).f2) == ((rd_T25 t327 x21_2).f2) && (((rd_T25 t323 x20_2).f3) == ((rd_T25 t327 x21_2).f3))))) = true := by simpa using c40))
                                    (try (have c40b2 : (((rd_T25 t323 x20_2).f0) == ((rd_T25 t327 x21_2).f0) && ((((rd_T25 t323 x20_2).f1.f0) == ((rd_T25 t327 x21_2).f1.f0) && (((rd_T25 t323 x20_2).f1.f1) == ((rd_T25 t327 x21_2).f1.f1))) && (((rd_T25 t323 x20_2).f2) == ((rd_T25 t327 x21_2).f2) && (((rd_T25 t323 x20_2).f3) == ((rd_T25 t327 x21_2).f3))))) = true := by simpa using c40))
                                    clear c40
                                    have H' := Aside0.mk H
                                    clear H
                                    obtain ⟨Ao41, co41, eo41⟩ := Kd.R_slice HO_15.out
                                    subst eo41
                                    have p336 : 0 ≤ (x20_2 : Int) := of_decide_eq_true (by first | (with_reducible assumption) | assumption)
                                    have q336 : x20_2 < (t323.length : Int) := of_decide_eq_true (by first | (with_reducible assumption) | assumption)
                                    obtain ⟨ad336, e336, hx336_0, hx336_1, hx336_2, hx336_3, hx336_4⟩ := at_T25 (Kd.R_reads' HO_15.out).2.2 x20_2 p336 q336
                                    cases e336
                                    replace p336 := eq_true p336
                                    replace q336 := eq_true q336
                                    have p337 : 0 ≤ (x21_2 : Int) := of_decide_eq_true (by first | (with_reducible assumption) | assumption)
                                    have q337 : x21_2 < (t327.length : Int) := of_decide_eq_true (by first | (with_reducible assumption) | assumption)
                                    obtain ⟨ad337, e337, hx337_0, hx337_1, hx337_2, hx337_3, hx337_4⟩ := at_T25 (Kd.R_reads' HO_17.out).2.2 x21_2 p337 q337
                                    cases e337
                                    replace p337 := eq_true p337
                                    replace q337 := eq_true q337
                                    go_wp2
                                    repeat (go_quiet (fail); try go_wp2)
                                    go_roundg kj27
                                    case measure => have := HJ12.out; have := HK2.out; have := HJ27.out; omega
                                    case rel => exact ⟨(x19_2), (wrap64 (x20_2 + 1)), (wrap64 (x21_2 + 1)), (by first | rfl | (simp; done) | (simp [*]; done)), (by first | rfl | (simp; done) | (simp [*]; done)), (by first | rfl | (simp; done) | (simp [*]; done)), H', ⟨by have := HJ12.out; have := HK2.out; have := HJ27.out; omega⟩, ⟨by (with_reducible repeat (first | apply Kd.R_alloc | apply Kd.R_drewN | apply Kd.R_drew)); exact HO_13.out⟩, ⟨by (with_reducible repeat (first | apply Kd.R_alloc | apply Kd.R_drewN | apply Kd.R_drew)); exact HO_15.out⟩, ⟨by (with_reducible repeat (first | apply Kd.R_alloc | apply Kd.R_drewN | apply Kd.R_drew)); exact HO_17.out⟩, ⟨by repeat (first | (with_reducible first | exact HB.out | apply below_alloc | apply pw_below_drewN | apply below_drew1) | exact HB.out)⟩⟩
                                  · rw [if_neg c40] at H
                                    exact absurd (Option.some.inj H) (by decide)
                                · rw [if_neg c39] at H
                                  exact absurd H (by simp)
                              · rw [if_neg c38] at H
                                exact absurd H (by simp)
                            · rw [if_neg c37] at H
                              exact absurd H (by simp)
                          · rw [if_neg c36] at H
                            exact absurd (Option.some.inj H) (by decide)
                  · rw [if_neg c27] at H
                    have c27b0 : decide (x21_2 < (t327.length : Int)) = false := decide_eq_false c27
                    clear c27
                    by_cases c44 : x19_2 = (t319.length : Int)
                    · rw [if_pos c44] at H
                      have c44b0 : (x19_2 == (t319.length : Int)) = true := beq_iff_eq.mpr c44
                      have c44b1 : (x19_2 != (t319.length : Int)) = false := bne_eq_false_iff_eq.mpr c44
                      clear c44
                      have HR := Aside0.mk (Option.some.inj H)
                      clear H
                      obtain ⟨Ao45, co45, eo45⟩ := Kd.R_slice HO_17.out
                      subst eo45
                      obtain ⟨Ao46, co46, eo46⟩ := Kd.R_slice HO_13.out
                      subst eo46
                      obtain ⟨Ao47, co47, eo47⟩ := Kd.R_slice HO_15.out
                      subst eo47
                      go_wp2
                      repeat (go_quiet (fail); try go_wp2)
                      go_ret
                      exact ⟨by first | exact (congrArg (fun b => Ending.returned (Value.bool b)) HR.out) | (have HRS := HR.out; simp at HRS; simp [HRS]; done) | rfl | (simp [errW_none, errW_some] <;> rfl) | (simp [*, errW_none, errW_some] <;> rfl), by repeat (first | (with_reducible first | exact HB.out | apply below_alloc | apply pw_below_drewN | apply below_drew1) | exact HB.out)⟩
                    · rw [if_neg c44] at H
                      have c44b0 : (x19_2 == (t319.length : Int)) = false := beq_eq_false_iff_ne.mpr c44
                      have c44b1 : (x19_2 != (t319.length : Int)) = true := bne_iff_ne.mpr c44
                      have HR := Aside0.mk (Option.some.inj H)
                      clear H
                      obtain ⟨Ao48, co48, eo48⟩ := Kd.R_slice HO_17.out
                      subst eo48
                      obtain ⟨Ao49, co49, eo49⟩ := Kd.R_slice HO_13.out
                      subst eo49
                      go_wp2
                      repeat (go_quiet (fail); try go_wp2)
                      go_ret
                      exact ⟨by first | exact (congrArg (fun b => Ending.returned (Value.bool b)) HR.out) | (have HRS := HR.out; simp at HRS; simp [HRS]; done) | rfl | (simp [errW_none, errW_some] <;> rfl) | (simp [*, errW_none, errW_some] <;> rfl), by repeat (first | (with_reducible first | exact HB.out | apply below_alloc | apply pw_below_drewN | apply below_drew1) | exact HB.out)⟩
  · replace c6 := Bool.eq_false_iff.mpr c6
    subst c6
    have H1 : (some false) = some true := by rw [if_neg (show ¬ (false = true) by decide)] at H; exact H
    exact absurd (Option.some.inj H1) (by decide)


end Go.Proofs.Ytklaiaididkiiaa.MS
