/- Contracts of what package gimmallaw6 leans on, by program (the printer's lines, the ways to false closed). -/
import Derived.Test.YtklaiaididkiiaaMSx0
import Derived.Test.YtklaiaididkiiaaMSx1
import Derived.Test.YtklaiaididkiiaaMSx2
import Derived.Test.YtklaiaididkiiaaMSx4
import Derived.Test.YtklaiaididkiiaaMSx6
namespace Go.Proofs.Ytklaiaididkiiaa.MS
open Go.RowKit Go.Proofs.YtklaiaididkiiaaW.PrintWords Go.Proofs.YtklaiaididkiiaaW.PrintLast Go.Proofs.YtklaiaididkiiaaW.PrintMore
attribute [local go_sem] max2_int min2_int max_two min_two max_three min_three max_four min_four   -- for this text's walks alone
set_option linter.unusedVariables false
set_option linter.unusedSimpArgs false

attribute [local go_sem high] eqA25
/-! ### gimmallaw0_KeptItems: function 25 -/
def gimmallaw0_KeptItems.f (k : Nat) (l0 : List (S25)) (l1 : List (S25)) : Option (Bool) := if 0 ≤ (wrap64 ((l0.length : Int) + 2)) then (if (wrap64 ((l0.length : Int) + 2)) ≤ (l0.length : Int) then ((some (l0.take ((wrap64 ((l0.length : Int) + 2)) : Int).toNat : List (S25))).bind fun y175 => ((gimmallaw0_SameItems.f k l0 l1).bind fun t179 => (if t179 = true then (if 0 ≤ (l1.length : Int) then (if (l1.length : Int) < (y175.length : Int) then (if (((rd_T25 y175 (l1.length : Int)).f0) == 0 && ((((rd_T25 y175 (l1.length : Int)).f1.f0) == 0 && (((rd_T25 y175 (l1.length : Int)).f1.f1) == 0)) && (((rd_T25 y175 (l1.length : Int)).f2) == 77777 && (!((rd_T25 y175 (l1.length : Int)).f3))))) = true then (if 0 ≤ (wrap64 ((l1.length : Int) + 1)) then (if (wrap64 ((l1.length : Int) + 1)) < (y175.length : Int) then (some (((rd_T25 y175 (wrap64 ((l1.length : Int) + 1))).f0) == 0 && ((((rd_T25 y175 (wrap64 ((l1.length : Int) + 1))).f1.f0) == 0 && (((rd_T25 y175 (wrap64 ((l1.length : Int) + 1))).f1.f1) == 0)) && (((rd_T25 y175 (wrap64 ((l1.length : Int) + 1))).f2) == 77777 && (!((rd_T25 y175 (wrap64 ((l1.length : Int) + 1))).f3)))))) else (none)) else (none)) else (some false)) else (none)) else (none)) else (some false)))) else (none)) else (none)
theorem gimmallaw0_KeptItems.mono : ∀ a0 a1 k, LeO (gimmallaw0_KeptItems.f k a0 a1) (gimmallaw0_KeptItems.f (k + 1) a0 a1) := by
  intro a0 a1 k
  unfold gimmallaw0_KeptItems.f
  repeat' first
      | (with_reducible exact gimmallaw0_SameItems.mono _ _ _)
      | (with_reducible exact LeO.refl _)
      | (with_reducible exact LeO.none _)
      | (with_reducible refine LeO.ite ?_ ?_)
      | (with_reducible refine LeO.bind ?_ (fun _ => ?_))
      | exact gimmallaw0_SameItems.mono _ _ _
      | exact LeO.none _
      | refine LeO.ite ?_ ?_
      | refine LeO.bind ?_ (fun _ => ?_)
set_option maxHeartbeats 8000000 in
set_option maxRecDepth 100000 in
theorem gimmallaw0_KeptItems.calls (k : Nat) (A0 : Option Addr) (c0 : Nat) (l0 : List (S25)) (A1 : Option Addr) (c1 : Nat) (l1 : List (S25)) (r : Bool) (w : World) (hr0 : Kd.C k25 w A0 l0.length l0) (hc0 : l0.length ≤ c0) (hr1 : Kd.C k25 w A1 l1.length l1) (hc1 : l1.length ≤ c1) (h : gimmallaw0_KeptItems.f k l0 l1 = some r) :
    Calls Try.prog 25 #[.slice A0 l0.length c0, .slice A1 l1.length c1] w fun e w' => e = .returned (.bool r) ∧ Drawn0 w w' := by
  have hu25 := Try.underlying25
  have HR0 := Aside0.mk hr0
  have HC0 := Aside0.mk hc0
  clear hr0 hc0
  have HR1 := Aside0.mk hr1
  have HC1 := Aside0.mk hc1
  clear hr1 hc1
  have H : (if 0 ≤ (wrap64 ((l0.length : Int) + 2)) then (if (wrap64 ((l0.length : Int) + 2)) ≤ (l0.length : Int) then ((some (l0.take ((wrap64 ((l0.length : Int) + 2)) : Int).toNat : List (S25))).bind fun y175 => ((gimmallaw0_SameItems.f k l0 l1).bind fun t179 => (if t179 = true then (if 0 ≤ (l1.length : Int) then (if (l1.length : Int) < (y175.length : Int) then (if (((rd_T25 y175 (l1.length : Int)).f0) == 0 && ((((rd_T25 y175 (l1.length : Int)).f1.f0) == 0 && (((rd_T25 y175 (l1.length : Int)).f1.f1) == 0)) && (((rd_T25 y175 (l1.length : Int)).f2) == 77777 && (!((rd_T25 y175 (l1.length : Int)).f3))))) = true then (if 0 ≤ (wrap64 ((l1.length : Int) + 1)) then (if (wrap64 ((l1.length : Int) + 1)) < (y175.length : Int) then (some (((rd_T25 y175 (wrap64 ((l1.length : Int) + 1))).f0) == 0 && ((((rd_T25 y175 (wrap64 ((l1.length : Int) + 1))).f1.f0) == 0 && (((rd_T25 y175 (wrap64 ((l1.length : Int) + 1))).f1.f1) == 0)) && (((rd_T25 y175 (wrap64 ((l1.length : Int) + 1))).f2) == 77777 && (!((rd_T25 y175 (wrap64 ((l1.length : Int) + 1))).f3)))))) else (none)) else (none)) else (some false)) else (none)) else (none)) else (some false)))) else (none)) else (none)) = some r := h
  clear h
  obtain ⟨ji3, hji3⟩ : ∃ j_ : Int, (wrap64 ((l0.length : Int) + 2)) = j_ := ⟨_, rfl⟩
  replace H : (if 0 ≤ (ji3) then (if (ji3) ≤ (l0.length : Int) then ((some (l0.take ((ji3) : Int).toNat : List (S25))).bind fun y175 => ((gimmallaw0_SameItems.f k l0 l1).bind fun t179 => (if t179 = true then (if 0 ≤ (l1.length : Int) then (if (l1.length : Int) < (y175.length : Int) then (if (((rd_T25 y175 (l1.length : Int)).f0) == 0 && ((((rd_T25 y175 (l1.length : Int)).f1.f0) == 0 && (((rd_T25 y175 (l1.length : Int)).f1.f1) == 0)) && (((rd_T25 y175 (l1.length : Int)).f2) == 77777 && (!((rd_T25 y175 (l1.length : Int)).f3))))) = true then (if 0 ≤ (wrap64 ((l1.length : Int) + 1)) then (if (wrap64 ((l1.length : Int) + 1)) < (y175.length : Int) then (some (((rd_T25 y175 (wrap64 ((l1.length : Int) + 1))).f0) == 0 && ((((rd_T25 y175 (wrap64 ((l1.length : Int) + 1))).f1.f0) == 0 && (((rd_T25 y175 (wrap64 ((l1.length : Int) + 1))).f1.f1) == 0)) && (((rd_T25 y175 (wrap64 ((l1.length : Int) + 1))).f2) == 77777 && (!((rd_T25 y175 (wrap64 ((l1.length : Int) + 1))).f3)))))) else (none)) else (none)) else (some false)) else (none)) else (none)) else (some false)))) else (none)) else (none)) = some r := by first | (rw [hji3] at H; exact H) | (simp only [hji3] at H ⊢; exact H)
  have hji3w : (IntKind.i64.wrap ((l0.length : Int) + 2)) = ji3 := (i64_w _).trans hji3
  by_cases c4 : 0 ≤ (ji3)
  · rw [if_pos c4] at H
    have c4b0 := eq_true c4
    have c4b1 : decide (0 ≤ (ji3)) = true := decide_eq_true c4
    clear c4
    by_cases c5 : (ji3) ≤ (l0.length : Int)
    · rw [if_pos c5] at H
      have c5b0 := eq_true c5
      have c5b1 : decide ((ji3) ≤ (l0.length : Int)) = true := decide_eq_true c5
      clear c5
      obtain ⟨y175, hy175⟩ : ∃ y_ : List (S25), y_ = (l0.take ((ji3) : Int).toNat) := ⟨_, rfl⟩
      replace H : ((gimmallaw0_SameItems.f k l0 l1).bind fun t179 => (if t179 = true then (if 0 ≤ (l1.length : Int) then (if (l1.length : Int) < (y175.length : Int) then (if (((rd_T25 y175 (l1.length : Int)).f0) == 0 && ((((rd_T25 y175 (l1.length : Int)).f1.f0) == 0 && (((rd_T25 y175 (l1.length : Int)).f1.f1) == 0)) && (((rd_T25 y175 (l1.length : Int)).f2) == 77777 && (!((rd_T25 y175 (l1.length : Int)).f3))))) = true then (if 0 ≤ (wrap64 ((l1.length : Int) + 1)) then (if (wrap64 ((l1.length : Int) + 1)) < (y175.length : Int) then (some (((rd_T25 y175 (wrap64 ((l1.length : Int) + 1))).f0) == 0 && ((((rd_T25 y175 (wrap64 ((l1.length : Int) + 1))).f1.f0) == 0 && (((rd_T25 y175 (wrap64 ((l1.length : Int) + 1))).f1.f1) == 0)) && (((rd_T25 y175 (wrap64 ((l1.length : Int) + 1))).f2) == 77777 && (!((rd_T25 y175 (wrap64 ((l1.length : Int) + 1))).f3)))))) else (none)) else (none)) else (some false)) else (none)) else (none)) else (some false))) = some r := by first | (rw [hy175]; with_reducible exact H) | (have H2_ := (Option.bind_some _ _).symm.trans H; rw [hy175]; with_reducible exact H2_) | (have H2_ := (Option.bind_some _ _).symm.trans H; with_reducible exact H2_) | with_reducible exact H | (rw [hy175]; exact H) | exact H
      have Ny175 := Aside0.mk hy175
      clear hy175
      replace H := Option.bind_eq_some_iff.mp H
      obtain ⟨t179, A60, H⟩ := H
      replace H : (if t179 = true then (if 0 ≤ (l1.length : Int) then (if (l1.length : Int) < (y175.length : Int) then (if (((rd_T25 y175 (l1.length : Int)).f0) == 0 && ((((rd_T25 y175 (l1.length : Int)).f1.f0) == 0 && (((rd_T25 y175 (l1.length : Int)).f1.f1) == 0)) && (((rd_T25 y175 (l1.length : Int)).f2) == 77777 && (!((rd_T25 y175 (l1.length : Int)).f3))))) = true then (if 0 ≤ (wrap64 ((l1.length : Int) + 1)) then (if (wrap64 ((l1.length : Int) + 1)) < (y175.length : Int) then (some (((rd_T25 y175 (wrap64 ((l1.length : Int) + 1))).f0) == 0 && ((((rd_T25 y175 (wrap64 ((l1.length : Int) + 1))).f1.f0) == 0 && (((rd_T25 y175 (wrap64 ((l1.length : Int) + 1))).f1.f1) == 0)) && (((rd_T25 y175 (wrap64 ((l1.length : Int) + 1))).f2) == 77777 && (!((rd_T25 y175 (wrap64 ((l1.length : Int) + 1))).f3)))))) else (none)) else (none)) else (some false)) else (none)) else (none)) else (some false)) = some r := H
      have A6 := Aside0.mk A60
      clear A60
      by_cases c7 : t179 = true
      · subst c7
        have H1 : (if 0 ≤ (l1.length : Int) then (if (l1.length : Int) < (y175.length : Int) then (if (((rd_T25 y175 (l1.length : Int)).f0) == 0 && ((((rd_T25 y175 (l1.length : Int)).f1.f0) == 0 && (((rd_T25 y175 (l1.length : Int)).f1.f1) == 0)) && (((rd_T25 y175 (l1.length : Int)).f2) == 77777 && (!((rd_T25 y175 (l1.length : Int)).f3))))) = true then (if 0 ≤ (wrap64 ((l1.length : Int) + 1)) then (if (wrap64 ((l1.length : Int) + 1)) < (y175.length : Int) then (some (((rd_T25 y175 (wrap64 ((l1.length : Int) + 1))).f0) == 0 && ((((rd_T25 y175 (wrap64 ((l1.length : Int) + 1))).f1.f0) == 0 && (((rd_T25 y175 (wrap64 ((l1.length : Int) + 1))).f1.f1) == 0)) && (((rd_T25 y175 (wrap64 ((l1.length : Int) + 1))).f2) == 77777 && (!((rd_T25 y175 (wrap64 ((l1.length : Int) + 1))).f3)))))) else (none)) else (none)) else (some false)) else (none)) else (none)) = some r := by rw [if_pos rfl] at H; exact H
        clear H
        have H := H1
        clear H1
        by_cases c8 : 0 ≤ (l1.length : Int)
        · rw [if_pos c8] at H
          have c8b0 : decide (0 ≤ (l1.length : Int)) = true := decide_eq_true c8
          have c8b1 : decide (0 ≤ l1.length) = true := decide_eq_true (by omega)
          clear c8
          by_cases c9 : (l1.length : Int) < (y175.length : Int)
          · rw [if_pos c9] at H
            have c9b0 : decide ((l1.length : Int) < (y175.length : Int)) = true := decide_eq_true c9
            have c9b1 : decide (l1.length < y175.length) = true := decide_eq_true (Int.ofNat_lt.mp c9)
            clear c9
            by_cases c10 : (((rd_T25 y175 (l1.length : Int)).f0) == 0 && ((((rd_T25 y175 (l1.length : Int)).f1.f0) == 0 && (((rd_T25 y175 (l1.length : Int)).f1.f1) == 0)) && (((rd_T25 y175 (l1.length : Int)).f2) == 77777 && (!((rd_T25 y175 (l1.length : Int)).f3))))) = true
            · rw [if_pos c10] at H
              have c10b0 : (((rd_T25 y175 (l1.length : Int)).f0) == 0 && ((((rd_T25 y175 (l1.length : Int)).f1.f0) == 0 && (((rd_T25 y175 (l1.length : Int)).f1.f1) == 0)) && (((rd_T25 y175 (l1.length : Int)).f2) == 77777 && (!((rd_T25 y175 (l1.length : Int)).f3))))) = true := c10
              (try (have c10b1 : decide (((rd_T25 y175 (l1.length : Int)).f0) = 0 && ((((rd_T25 y175 (l1.length : Int)).f1.f0) == 0 && (((rd_T25 y175 (l1.length : Int)).f1.f1) == 0)) && (((rd_T25 y175 (l1.length : Int)).f2) == 77777 && (!((rd_T25 y175 (l1.length : Int)).f3))))) = true := by simpa using c10))
              (try (have c10b2 : (((rd_T25 y175 (l1.length : Int)).f0) == 0 && ((((rd_T25 y175 (l1.length : Int)).f1.f0) == 0 && (((rd_T25 y175 (l1.length : Int)).f1.f1) == 0)) && (((rd_T25 y175 (l1.length : Int)).f2) == 77777 && (!((rd_T25 y175 (l1.length : Int)).f3))))) = true := by simpa using c10))
              clear c10
              obtain ⟨ji11, hji11⟩ : ∃ j_ : Int, (wrap64 ((l1.length : Int) + 1)) = j_ := ⟨_, rfl⟩
              replace H : (if 0 ≤ (ji11) then (if (ji11) < (y175.length : Int) then (some (((rd_T25 y175 (ji11)).f0) == 0 && ((((rd_T25 y175 (ji11)).f1.f0) == 0 && (((rd_T25 y175 (ji11)).f1.f1) == 0)) && (((rd_T25 y175 (ji11)).f2) == 77777 && (!((rd_T25 y175 (ji11)).f3)))))) else (none)) else (none)) = some r := by first | (rw [hji11] at H; exact H) | (simp only [hji11] at H ⊢; exact H)
              (try rw [hji11] at A6)
              have hji11w : (IntKind.i64.wrap ((l1.length : Int) + 1)) = ji11 := (i64_w _).trans hji11
              by_cases c12 : 0 ≤ (ji11)
              · rw [if_pos c12] at H
                have c12b0 : decide (0 ≤ (ji11)) = true := decide_eq_true c12
                clear c12
                by_cases c13 : (ji11) < (y175.length : Int)
                · rw [if_pos c13] at H
                  have c13b0 : decide ((ji11) < (y175.length : Int)) = true := decide_eq_true c13
                  clear c13
                  obtain rfl := Option.some.inj H
                  have q14 : ((ji3) : Int) ≤ ((l0.length : Int) : Int) := of_decide_eq_true (by first | (with_reducible assumption) | assumption)
                  obtain ⟨i014, hi014, _, hsz14, _⟩ := info_parts info25
                  have hroom14 : l0.length ≤ c0 := HC0.out
                  have hC14 : Kd.C k25 _ A0 l0.length l0 := HR0.out
                  have hcut14 := cut_to (P := Try.prog) 36 25 .i64 Try.underlying36 hi014 A0 l0.length c0 (ji3) (of_decide_eq_true (by first | (with_reducible assumption) | assumption)) q14 hroom14
                  have hr14 := Kd.C_take (m := ((ji3) : Int).toNat) hC14 (by omega)
                  have hy14 : y175.length = ((ji3) : Int).toNat := (by rw [Ny175.out, List.length_take]; omega)
                  rw [← Ny175.out] at hr14
                  rw [← hy14] at hcut14
                  have HR178 := Aside0.mk hr14
                  have HC178 := Aside0.mk (show y175.length ≤ c0 from by omega)
                  clear hr14 hC14 hroom14 hi014 hsz14
                  have KY14 := Aside0.mk hy14
                  clear hy14
                  replace q14 := eq_true q14
                  go_enter Try.func25, Try.ntmps25
                  go_wp2_with (first | ((with_reducible refine gate_callee (f := 23) rfl ?_); refine goesL_ (some 13) rfl rfl Try.func23 (by kernel_rfl) rfl #[.slice A0 l0.length c0, .slice A1 l1.length c1] rfl (by (try simp only [List.map_toArray, List.map_cons, List.map_nil]); first | done | rfl | (simp only [List.length_drop, List.length_take]; rfl)) ?_; (with_reducible refine (gimmallaw0_SameItems.calls k _ _ l0 _ _ l1 true _ ?side1 ?side2 ?side3 ?side4 A6.out).mono ?_); (case side1 => repeat (first | exact HR0.out | (with_reducible refine Kd.C_alloc ?_ _) | (with_reducible refine Kd.C_drewN ?_ _) | (with_reducible refine Kd.C_drew ?_))); (case side2 => exact HC0.out); (case side3 => repeat (first | exact HR1.out | (with_reducible refine Kd.C_alloc ?_ _) | (with_reducible refine Kd.C_drewN ?_ _) | (with_reducible refine Kd.C_drew ?_))); (case side4 => exact HC1.out); rintro e w' ⟨rfl, ⟨nd, rfl⟩⟩; refine ⟨_, rfl, ?_⟩; have p180 : 0 ≤ ((l1.length : Int) : Int) := of_decide_eq_true (by first | (with_reducible assumption) | assumption); have q180 : (l1.length : Int) < (y175.length : Int) := of_decide_eq_true (by first | (with_reducible assumption) | assumption); obtain ⟨ad180, e180, hx180_0, hx180_1, hx180_2, hx180_3, hx180_4⟩ := at_T25 HR178.out (l1.length : Int) p180 q180; cases e180; (try simp only [Go.IntWalk.toNatUp] at hx180_0); (try simp only [Go.IntWalk.toNatUp] at hx180_1); (try simp only [Go.IntWalk.toNatUp] at hx180_2); (try simp only [Go.IntWalk.toNatUp] at hx180_3); (try simp only [Go.IntWalk.toNatUp] at hx180_4); replace p180 := eq_true p180; replace q180 := eq_true q180; have p181 : 0 ≤ ((ji11) : Int) := of_decide_eq_true (by first | (with_reducible assumption) | assumption); have q181 : (ji11) < (y175.length : Int) := of_decide_eq_true (by first | (with_reducible assumption) | assumption); obtain ⟨ad181, e181, hx181_0, hx181_1, hx181_2, hx181_3, hx181_4⟩ := at_T25 HR178.out (ji11) p181 q181; obtain rfl : ad180 = ad181 := (by injection e181); replace p181 := eq_true p181; replace q181 := eq_true q181))
                  go_ret
                  exact ⟨by first | rfl | (simp; done) | (simp only [← hji3, ← hji11] <;> (first | rfl | simp)) | (simp [*]; done), by repeat (first | exact Drawn0.refl _ | apply Drawn0.step)⟩
                · rw [if_neg c13] at H
                  exact absurd H (by simp)
              · rw [if_neg c12] at H
                exact absurd H (by simp)
            · rw [if_neg c10] at H
              have c10b0 : (((rd_T25 y175 (l1.length : Int)).f0) == 0 && ((((rd_T25 y175 (l1.length : Int)).f1.f0) == 0 && (((rd_T25 y175 (l1.length : Int)).f1.f1) == 0)) && (((rd_T25 y175 (l1.length : Int)).f2) == 77777 && (!((rd_T25 y175 (l1.length : Int)).f3))))) = false := by simpa using c10
              (try (have c10b1 : decide (((rd_T25 y175 (l1.length : Int)).f0) = 0 && ((((rd_T25 y175 (l1.length : Int)).f1.f0) == 0 && (((rd_T25 y175 (l1.length : Int)).f1.f1) == 0)) && (((rd_T25 y175 (l1.length : Int)).f2) == 77777 && (!((rd_T25 y175 (l1.length : Int)).f3))))) = false := by simpa using c10))
              (try (have c10b2 : (((rd_T25 y175 (l1.length : Int)).f0) == 0 && ((((rd_T25 y175 (l1.length : Int)).f1.f0) == 0 && (((rd_T25 y175 (l1.length : Int)).f1.f1) == 0)) && (((rd_T25 y175 (l1.length : Int)).f2) == 77777 && (!((rd_T25 y175 (l1.length : Int)).f3))))) = false := by simpa using c10))
              (try (have c10b3 : ¬ (((rd_T25 y175 (l1.length : Int)).f0) = 0 && ((((rd_T25 y175 (l1.length : Int)).f1.f0) == 0 && (((rd_T25 y175 (l1.length : Int)).f1.f1) == 0)) && (((rd_T25 y175 (l1.length : Int)).f2) == 77777 && (!((rd_T25 y175 (l1.length : Int)).f3))))) := by simpa using c10))
              clear c10
              obtain rfl := Option.some.inj H
              have q15 : ((ji3) : Int) ≤ ((l0.length : Int) : Int) := of_decide_eq_true (by first | (with_reducible assumption) | assumption)
              obtain ⟨i015, hi015, _, hsz15, _⟩ := info_parts info25
              have hroom15 : l0.length ≤ c0 := HC0.out
              have hC15 : Kd.C k25 _ A0 l0.length l0 := HR0.out
              have hcut15 := cut_to (P := Try.prog) 36 25 .i64 Try.underlying36 hi015 A0 l0.length c0 (ji3) (of_decide_eq_true (by first | (with_reducible assumption) | assumption)) q15 hroom15
              have hr15 := Kd.C_take (m := ((ji3) : Int).toNat) hC15 (by omega)
              have hy15 : y175.length = ((ji3) : Int).toNat := (by rw [Ny175.out, List.length_take]; omega)
              rw [← Ny175.out] at hr15
              rw [← hy15] at hcut15
              have HR178 := Aside0.mk hr15
              have HC178 := Aside0.mk (show y175.length ≤ c0 from by omega)
              clear hr15 hC15 hroom15 hi015 hsz15
              have KY15 := Aside0.mk hy15
              clear hy15
              replace q15 := eq_true q15
              go_enter Try.func25, Try.ntmps25
              go_wp2_with (first | ((with_reducible refine gate_callee (f := 23) rfl ?_); refine goesL_ (some 13) rfl rfl Try.func23 (by kernel_rfl) rfl #[.slice A0 l0.length c0, .slice A1 l1.length c1] rfl (by (try simp only [List.map_toArray, List.map_cons, List.map_nil]); first | done | rfl | (simp only [List.length_drop, List.length_take]; rfl)) ?_; (with_reducible refine (gimmallaw0_SameItems.calls k _ _ l0 _ _ l1 true _ ?side1 ?side2 ?side3 ?side4 A6.out).mono ?_); (case side1 => repeat (first | exact HR0.out | (with_reducible refine Kd.C_alloc ?_ _) | (with_reducible refine Kd.C_drewN ?_ _) | (with_reducible refine Kd.C_drew ?_))); (case side2 => exact HC0.out); (case side3 => repeat (first | exact HR1.out | (with_reducible refine Kd.C_alloc ?_ _) | (with_reducible refine Kd.C_drewN ?_ _) | (with_reducible refine Kd.C_drew ?_))); (case side4 => exact HC1.out); rintro e w' ⟨rfl, ⟨nd, rfl⟩⟩; refine ⟨_, rfl, ?_⟩; have p180 : 0 ≤ ((l1.length : Int) : Int) := of_decide_eq_true (by first | (with_reducible assumption) | assumption); have q180 : (l1.length : Int) < (y175.length : Int) := of_decide_eq_true (by first | (with_reducible assumption) | assumption); obtain ⟨ad180, e180, hx180_0, hx180_1, hx180_2, hx180_3, hx180_4⟩ := at_T25 HR178.out (l1.length : Int) p180 q180; cases e180; (try simp only [Go.IntWalk.toNatUp] at hx180_0); (try simp only [Go.IntWalk.toNatUp] at hx180_1); (try simp only [Go.IntWalk.toNatUp] at hx180_2); (try simp only [Go.IntWalk.toNatUp] at hx180_3); (try simp only [Go.IntWalk.toNatUp] at hx180_4); replace p180 := eq_true p180; replace q180 := eq_true q180))
              go_ret
              exact ⟨by first | rfl | (simp; done) | (simp only [← hji3] <;> (first | rfl | simp)) | (simp [*]; done), by repeat (first | exact Drawn0.refl _ | apply Drawn0.step)⟩
          · rw [if_neg c9] at H
            exact absurd H (by simp)
        · rw [if_neg c8] at H
          exact absurd H (by simp)
      · replace c7 := Bool.eq_false_iff.mpr c7
        subst c7
        have H1 : (some false) = some r := by rw [if_neg (show ¬ (false = true) by decide)] at H; exact H
        clear H
        have H := H1
        clear H1
        obtain rfl := Option.some.inj H
        have q16 : ((ji3) : Int) ≤ ((l0.length : Int) : Int) := of_decide_eq_true (by first | (with_reducible assumption) | assumption)
        obtain ⟨i016, hi016, _, hsz16, _⟩ := info_parts info25
        have hroom16 : l0.length ≤ c0 := HC0.out
        have hC16 : Kd.C k25 _ A0 l0.length l0 := HR0.out
        have hcut16 := cut_to (P := Try.prog) 36 25 .i64 Try.underlying36 hi016 A0 l0.length c0 (ji3) (of_decide_eq_true (by first | (with_reducible assumption) | assumption)) q16 hroom16
        have hr16 := Kd.C_take (m := ((ji3) : Int).toNat) hC16 (by omega)
        have hy16 : y175.length = ((ji3) : Int).toNat := (by rw [Ny175.out, List.length_take]; omega)
        rw [← Ny175.out] at hr16
        rw [← hy16] at hcut16
        have HR178 := Aside0.mk hr16
        have HC178 := Aside0.mk (show y175.length ≤ c0 from by omega)
        clear hr16 hC16 hroom16 hi016 hsz16
        have KY16 := Aside0.mk hy16
        clear hy16
        replace q16 := eq_true q16
        go_enter Try.func25, Try.ntmps25
        go_wp2_with (first | ((with_reducible refine gate_callee (f := 23) rfl ?_); refine goesL_ (some 13) rfl rfl Try.func23 (by kernel_rfl) rfl #[.slice A0 l0.length c0, .slice A1 l1.length c1] rfl (by (try simp only [List.map_toArray, List.map_cons, List.map_nil]); first | done | rfl | (simp only [List.length_drop, List.length_take]; rfl)) ?_; (with_reducible refine (gimmallaw0_SameItems.calls k _ _ l0 _ _ l1 false _ ?side1 ?side2 ?side3 ?side4 A6.out).mono ?_); (case side1 => repeat (first | exact HR0.out | (with_reducible refine Kd.C_alloc ?_ _) | (with_reducible refine Kd.C_drewN ?_ _) | (with_reducible refine Kd.C_drew ?_))); (case side2 => exact HC0.out); (case side3 => repeat (first | exact HR1.out | (with_reducible refine Kd.C_alloc ?_ _) | (with_reducible refine Kd.C_drewN ?_ _) | (with_reducible refine Kd.C_drew ?_))); (case side4 => exact HC1.out); rintro e w' ⟨rfl, ⟨nd, rfl⟩⟩; refine ⟨_, rfl, ?_⟩))
        go_ret
        exact ⟨by first | rfl | (simp; done) | (simp only [← hji3] <;> (first | rfl | simp)) | (simp [*]; done), by repeat (first | exact Drawn0.refl _ | apply Drawn0.step)⟩
    · rw [if_neg c5] at H
      exact absurd H (by simp)
  · rw [if_neg c4] at H
    exact absurd H (by simp)

/-! ### gimmallaw6_it: function 27 -/
def gimmallaw6_it.f (a0 : Int) : Option (Int × Int × Int × Int × Bool) := some (a0, 1, 0, 0, false)
set_option maxHeartbeats 8000000 in
set_option maxRecDepth 100000 in
theorem gimmallaw6_it.calls (a0 : Int) (r1 : Int) (r2 : Int) (r3 : Int) (r4 : Int) (r5 : Bool) (w : World) (h : gimmallaw6_it.f a0 = some (r1, r2, r3, r4, r5)) :
    Calls Try.prog 27 #[.int .i64 a0] w fun e w' => e = .returned (.agg #[.int .i64 r1, .int .i64 r2, .int .i64 r3, .int .i64 r4, .bool r5]) ∧ Below w.heap.size w w' := by
  have hu25 := Try.underlying25
  have hu23 := Try.underlying23
  have HB := Aside0.mk (Below.refl w.heap.size w)
  have H : (some (a0, 1, 0, 0, false)) = some (r1, r2, r3, r4, r5) := h
  clear h
  simp only [Option.some.injEq, Prod.mk.injEq] at H
  obtain ⟨rfl, rfl, rfl, rfl, rfl⟩ := H
  go_enter Try.func27, Try.ntmps27
  go_wp2_with (first | ((with_reducible refine gate_dst (N := 2) rfl ?_); refine box_event ?hg (N := 2) ?hd (cs := #[.int .i64 0, .int .i64 0, .int .i64 0, .int .i64 0, .bool false]) (t := 25) ?hr ?_; (case hd => rfl); (case hg => rfl); (case hr => first | (go_simp; done) | (go_simp; rfl)); intro gb182 hg w2 hbox hb; have n0_ := Aside0.mk (below_step (by repeat (first | (with_reducible first | exact HB.out | apply below_alloc | apply pw_below_drewN | apply below_drew1) | exact HB.out)) hb); have n1_ := Aside0.mk (hbox); have n2_ := Aside0.mk ((by rw [hg]; exact (below_size (by repeat (first | (with_reducible first | exact HB.out | apply below_alloc | apply pw_below_drewN | apply below_drew1) | exact HB.out))) : w.heap.size ≤ gb182)); have n3_ := Aside0.mk ((by rw [hg]; exact (below_size (by repeat (first | (with_reducible first | exact HB.out | apply below_alloc | apply pw_below_drewN | apply below_drew1) | exact HB.out))) : w.heap.size ≤ gb182)); clear HB; have HB := n0_; have BK182 := n1_; have GW182 := n2_; have GE182 := n3_; clear n0_ n1_ n2_ n3_; clear hb hbox hg; have hcz3_0 : w2.cell? ⟨gb182, 0, none⟩ = some (.int .i64 0) := (blk_cell BK182.out 0).trans rfl; have hcz3_1 : w2.cell? ⟨gb182, 1, none⟩ = some (.int .i64 0) := (blk_cell BK182.out 1).trans rfl; have hcz3_2 : w2.cell? ⟨gb182, 2, none⟩ = some (.int .i64 0) := (blk_cell BK182.out 2).trans rfl; have hcz3_3 : w2.cell? ⟨gb182, 3, none⟩ = some (.int .i64 0) := (blk_cell BK182.out 3).trans rfl; have hcz3_4 : w2.cell? ⟨gb182, 4, none⟩ = some (.bool false) := (blk_cell BK182.out 4).trans rfl; have hfz3_0 := blk_frozen BK182.out 0; have hfz3_1 := blk_frozen BK182.out 1; have hfz3_2 := blk_frozen BK182.out 2; have hfz3_3 := blk_frozen BK182.out 3; have hfz3_4 := blk_frozen BK182.out 4))
  refine bodyPost_ret (results_cell_row rfl _ _ gb182 25 #[.int .i64 a0, .int .i64 1, .int .i64 0, .int .i64 0, .bool false] (0, 0) _ rfl (by (with_reducible repeat (first | refine blk_drewN ?_ _ | refine blk_drew ?_ | refine blk_alloc ?_ _)); refine blk_put (cs := #[.int .i64 a0, .int .i64 1, .int .i64 0, .int .i64 0, .bool false]) ?_ 4 _ rfl; (with_reducible repeat (first | refine blk_drewN ?_ _ | refine blk_drew ?_ | refine blk_alloc ?_ _)); refine blk_put (cs := #[.int .i64 a0, .int .i64 1, .int .i64 0, .int .i64 0, .bool false]) ?_ 3 _ rfl; (with_reducible repeat (first | refine blk_drewN ?_ _ | refine blk_drew ?_ | refine blk_alloc ?_ _)); refine blk_put (cs := #[.int .i64 a0, .int .i64 1, .int .i64 0, .int .i64 0, .bool false]) ?_ 2 _ rfl; (with_reducible repeat (first | refine blk_drewN ?_ _ | refine blk_drew ?_ | refine blk_alloc ?_ _)); refine blk_put (cs := #[.int .i64 a0, .int .i64 0, .int .i64 0, .int .i64 0, .bool false]) ?_ 1 _ rfl; (with_reducible repeat (first | refine blk_drewN ?_ _ | refine blk_drew ?_ | refine blk_alloc ?_ _)); refine blk_put (cs := #[.int .i64 0, .int .i64 0, .int .i64 0, .int .i64 0, .bool false]) ?_ 0 _ rfl; (with_reducible repeat (first | refine blk_drewN ?_ _ | refine blk_drew ?_ | refine blk_alloc ?_ _)); exact BK182.out) Try.underlying25 rfl (by kernel_rfl)) rfl ?_
  exact ⟨by first | rfl | (simp [errW_none, errW_some] <;> rfl) | (simp [*, errW_none, errW_some] <;> rfl), by repeat (first | (with_reducible first | exact HB.out | apply below_alloc | apply pw_below_drewN | apply below_drew1 | refine below_set ?_ GE182.out) | exact HB.out)⟩

/-! ### gimmallaw6_awake: function 26 -/
def gimmallaw6_awake.f (k : Nat)  : Option (Bool) := (gimmallaw6_it.f 3).bind fun bt183 => ((gimmallaw6_it.f 9).bind fun bt188 => ((gimmallaw6_it.f 200).bind fun bt193 => ((some (([(⟨bt183.1, (⟨bt183.2.1, bt183.2.2.1⟩ : S23), bt183.2.2.2.1, bt183.2.2.2.2⟩ : S25), (⟨bt188.1, (⟨bt188.2.1, bt188.2.2.1⟩ : S23), bt188.2.2.2.1, bt188.2.2.2.2⟩ : S25), (⟨bt193.1, (⟨bt193.2.1, bt193.2.2.1⟩ : S23), bt193.2.2.2.1, bt193.2.2.2.2⟩ : S25)] : List (S25)) : List (S25))).bind fun y198 => ((span_Of.f k y198 100 3).bind fun bt201 => ((span_Of.f k y198 9 9).bind fun bt205 => ((span_Of.f k y198 256 3).bind fun bt209 => ((gimmallaw6_it.f 3).bind fun bt213 => ((gimmallaw6_it.f 200).bind fun bt218 => ((gimmallaw0_SameItems.f k bt201.1 (([(⟨bt213.1, (⟨bt213.2.1, bt213.2.2.1⟩ : S23), bt213.2.2.2.1, bt213.2.2.2.2⟩ : S25), (⟨bt218.1, (⟨bt218.2.1, bt218.2.2.1⟩ : S23), bt218.2.2.2.1, bt218.2.2.2.2⟩ : S25)] : List (S25)))).bind fun t226 => (if t226 = true then ((gimmallaw0_Num.f bt201.2).bind fun t227 => (if t227 = 0 then ((gimmallaw0_SameItems.f k bt205.1 y198).bind fun t228 => (if t228 = true then ((gimmallaw0_Num.f bt205.2).bind fun t229 => (if t229 = 0 then ((gimmallaw0_Num.f bt209.2).bind fun t230 => (some (t230 == 600))) else (some false))) else (some false))) else (some false))) else (some false)))))))))))
theorem gimmallaw6_awake.mono : ∀ k, LeO (gimmallaw6_awake.f k ) (gimmallaw6_awake.f (k + 1) ) := by
  intro  k
  unfold gimmallaw6_awake.f
  repeat' first
      | (with_reducible exact gimmallaw0_SameItems.mono _ _ _)
      | (with_reducible exact span_Of.mono _ _ _ _)
      | (with_reducible exact LeO.refl _)
      | (with_reducible exact LeO.none _)
      | (with_reducible refine LeO.ite ?_ ?_)
      | (with_reducible refine LeO.bind ?_ (fun _ => ?_))
      | exact gimmallaw0_SameItems.mono _ _ _
      | exact span_Of.mono _ _ _ _
      | exact LeO.none _
      | refine LeO.ite ?_ ?_
      | refine LeO.bind ?_ (fun _ => ?_)
set_option maxHeartbeats 8000000 in
set_option maxRecDepth 100000 in
theorem gimmallaw6_awake.true_ (k : Nat)  (w : World) (h : gimmallaw6_awake.f k  = some true) :
    Calls Try.prog 26 #[] w fun e w' => e = .returned (.bool true) ∧ Below w.heap.size w w' := by
  have HB := Aside0.mk (Below.refl w.heap.size w)
  have H : ((gimmallaw6_it.f 3).bind fun bt183 => ((gimmallaw6_it.f 9).bind fun bt188 => ((gimmallaw6_it.f 200).bind fun bt193 => ((some (([(⟨bt183.1, (⟨bt183.2.1, bt183.2.2.1⟩ : S23), bt183.2.2.2.1, bt183.2.2.2.2⟩ : S25), (⟨bt188.1, (⟨bt188.2.1, bt188.2.2.1⟩ : S23), bt188.2.2.2.1, bt188.2.2.2.2⟩ : S25), (⟨bt193.1, (⟨bt193.2.1, bt193.2.2.1⟩ : S23), bt193.2.2.2.1, bt193.2.2.2.2⟩ : S25)] : List (S25)) : List (S25))).bind fun y198 => ((span_Of.f k y198 100 3).bind fun bt201 => ((span_Of.f k y198 9 9).bind fun bt205 => ((span_Of.f k y198 256 3).bind fun bt209 => ((gimmallaw6_it.f 3).bind fun bt213 => ((gimmallaw6_it.f 200).bind fun bt218 => ((gimmallaw0_SameItems.f k bt201.1 (([(⟨bt213.1, (⟨bt213.2.1, bt213.2.2.1⟩ : S23), bt213.2.2.2.1, bt213.2.2.2.2⟩ : S25), (⟨bt218.1, (⟨bt218.2.1, bt218.2.2.1⟩ : S23), bt218.2.2.2.1, bt218.2.2.2.2⟩ : S25)] : List (S25)))).bind fun t226 => (if t226 = true then ((gimmallaw0_Num.f bt201.2).bind fun t227 => (if t227 = 0 then ((gimmallaw0_SameItems.f k bt205.1 y198).bind fun t228 => (if t228 = true then ((gimmallaw0_Num.f bt205.2).bind fun t229 => (if t229 = 0 then ((gimmallaw0_Num.f bt209.2).bind fun t230 => (some (t230 == 600))) else (some false))) else (some false))) else (some false))) else (some false)))))))))))) = some true := h
  clear h
  replace H := Option.bind_eq_some_iff.mp H
  obtain ⟨⟨t183, t184, t185, t186, t187⟩, A10, H⟩ := H
  replace H : ((gimmallaw6_it.f 9).bind fun bt188 => ((gimmallaw6_it.f 200).bind fun bt193 => ((some (([(⟨t183, (⟨t184, t185⟩ : S23), t186, t187⟩ : S25), (⟨bt188.1, (⟨bt188.2.1, bt188.2.2.1⟩ : S23), bt188.2.2.2.1, bt188.2.2.2.2⟩ : S25), (⟨bt193.1, (⟨bt193.2.1, bt193.2.2.1⟩ : S23), bt193.2.2.2.1, bt193.2.2.2.2⟩ : S25)] : List (S25)) : List (S25))).bind fun y198 => ((span_Of.f k y198 100 3).bind fun bt201 => ((span_Of.f k y198 9 9).bind fun bt205 => ((span_Of.f k y198 256 3).bind fun bt209 => ((gimmallaw6_it.f 3).bind fun bt213 => ((gimmallaw6_it.f 200).bind fun bt218 => ((gimmallaw0_SameItems.f k bt201.1 (([(⟨bt213.1, (⟨bt213.2.1, bt213.2.2.1⟩ : S23), bt213.2.2.2.1, bt213.2.2.2.2⟩ : S25), (⟨bt218.1, (⟨bt218.2.1, bt218.2.2.1⟩ : S23), bt218.2.2.2.1, bt218.2.2.2.2⟩ : S25)] : List (S25)))).bind fun t226 => (if t226 = true then ((gimmallaw0_Num.f bt201.2).bind fun t227 => (if t227 = 0 then ((gimmallaw0_SameItems.f k bt205.1 y198).bind fun t228 => (if t228 = true then ((gimmallaw0_Num.f bt205.2).bind fun t229 => (if t229 = 0 then ((gimmallaw0_Num.f bt209.2).bind fun t230 => (some (t230 == 600))) else (some false))) else (some false))) else (some false))) else (some false))))))))))) = some true := H
  have A1 := Aside0.mk A10
  clear A10
  replace H := Option.bind_eq_some_iff.mp H
  obtain ⟨⟨t188, t189, t190, t191, t192⟩, A20, H⟩ := H
  replace H : ((gimmallaw6_it.f 200).bind fun bt193 => ((some (([(⟨t183, (⟨t184, t185⟩ : S23), t186, t187⟩ : S25), (⟨t188, (⟨t189, t190⟩ : S23), t191, t192⟩ : S25), (⟨bt193.1, (⟨bt193.2.1, bt193.2.2.1⟩ : S23), bt193.2.2.2.1, bt193.2.2.2.2⟩ : S25)] : List (S25)) : List (S25))).bind fun y198 => ((span_Of.f k y198 100 3).bind fun bt201 => ((span_Of.f k y198 9 9).bind fun bt205 => ((span_Of.f k y198 256 3).bind fun bt209 => ((gimmallaw6_it.f 3).bind fun bt213 => ((gimmallaw6_it.f 200).bind fun bt218 => ((gimmallaw0_SameItems.f k bt201.1 (([(⟨bt213.1, (⟨bt213.2.1, bt213.2.2.1⟩ : S23), bt213.2.2.2.1, bt213.2.2.2.2⟩ : S25), (⟨bt218.1, (⟨bt218.2.1, bt218.2.2.1⟩ : S23), bt218.2.2.2.1, bt218.2.2.2.2⟩ : S25)] : List (S25)))).bind fun t226 => (if t226 = true then ((gimmallaw0_Num.f bt201.2).bind fun t227 => (if t227 = 0 then ((gimmallaw0_SameItems.f k bt205.1 y198).bind fun t228 => (if t228 = true then ((gimmallaw0_Num.f bt205.2).bind fun t229 => (if t229 = 0 then ((gimmallaw0_Num.f bt209.2).bind fun t230 => (some (t230 == 600))) else (some false))) else (some false))) else (some false))) else (some false)))))))))) = some true := H
  have A2 := Aside0.mk A20
  clear A20
  replace H := Option.bind_eq_some_iff.mp H
  obtain ⟨⟨t193, t194, t195, t196, t197⟩, A30, H⟩ := H
  replace H : ((some (([(⟨t183, (⟨t184, t185⟩ : S23), t186, t187⟩ : S25), (⟨t188, (⟨t189, t190⟩ : S23), t191, t192⟩ : S25), (⟨t193, (⟨t194, t195⟩ : S23), t196, t197⟩ : S25)] : List (S25)) : List (S25))).bind fun y198 => ((span_Of.f k y198 100 3).bind fun bt201 => ((span_Of.f k y198 9 9).bind fun bt205 => ((span_Of.f k y198 256 3).bind fun bt209 => ((gimmallaw6_it.f 3).bind fun bt213 => ((gimmallaw6_it.f 200).bind fun bt218 => ((gimmallaw0_SameItems.f k bt201.1 (([(⟨bt213.1, (⟨bt213.2.1, bt213.2.2.1⟩ : S23), bt213.2.2.2.1, bt213.2.2.2.2⟩ : S25), (⟨bt218.1, (⟨bt218.2.1, bt218.2.2.1⟩ : S23), bt218.2.2.2.1, bt218.2.2.2.2⟩ : S25)] : List (S25)))).bind fun t226 => (if t226 = true then ((gimmallaw0_Num.f bt201.2).bind fun t227 => (if t227 = 0 then ((gimmallaw0_SameItems.f k bt205.1 y198).bind fun t228 => (if t228 = true then ((gimmallaw0_Num.f bt205.2).bind fun t229 => (if t229 = 0 then ((gimmallaw0_Num.f bt209.2).bind fun t230 => (some (t230 == 600))) else (some false))) else (some false))) else (some false))) else (some false))))))))) = some true := H
  have A3 := Aside0.mk A30
  clear A30
  obtain ⟨y198, hy198⟩ : ∃ y_ : List (S25), y_ = (([(⟨t183, (⟨t184, t185⟩ : S23), t186, t187⟩ : S25), (⟨t188, (⟨t189, t190⟩ : S23), t191, t192⟩ : S25), (⟨t193, (⟨t194, t195⟩ : S23), t196, t197⟩ : S25)] : List (S25))) := ⟨_, rfl⟩
  replace H : ((span_Of.f k y198 100 3).bind fun bt201 => ((span_Of.f k y198 9 9).bind fun bt205 => ((span_Of.f k y198 256 3).bind fun bt209 => ((gimmallaw6_it.f 3).bind fun bt213 => ((gimmallaw6_it.f 200).bind fun bt218 => ((gimmallaw0_SameItems.f k bt201.1 (([(⟨bt213.1, (⟨bt213.2.1, bt213.2.2.1⟩ : S23), bt213.2.2.2.1, bt213.2.2.2.2⟩ : S25), (⟨bt218.1, (⟨bt218.2.1, bt218.2.2.1⟩ : S23), bt218.2.2.2.1, bt218.2.2.2.2⟩ : S25)] : List (S25)))).bind fun t226 => (if t226 = true then ((gimmallaw0_Num.f bt201.2).bind fun t227 => (if t227 = 0 then ((gimmallaw0_SameItems.f k bt205.1 y198).bind fun t228 => (if t228 = true then ((gimmallaw0_Num.f bt205.2).bind fun t229 => (if t229 = 0 then ((gimmallaw0_Num.f bt209.2).bind fun t230 => (some (t230 == 600))) else (some false))) else (some false))) else (some false))) else (some false)))))))) = some true := by first | (rw [hy198]; with_reducible exact H) | (have H2_ := (Option.bind_some _ _).symm.trans H; rw [hy198]; with_reducible exact H2_) | (have H2_ := (Option.bind_some _ _).symm.trans H; with_reducible exact H2_) | with_reducible exact H | (rw [hy198]; exact H) | exact H
  have Ny198 := Aside0.mk hy198
  clear hy198
  replace H := Option.bind_eq_some_iff.mp H
  obtain ⟨⟨t201, t202⟩, A40, H⟩ := H
  replace H : ((span_Of.f k y198 9 9).bind fun bt205 => ((span_Of.f k y198 256 3).bind fun bt209 => ((gimmallaw6_it.f 3).bind fun bt213 => ((gimmallaw6_it.f 200).bind fun bt218 => ((gimmallaw0_SameItems.f k t201 (([(⟨bt213.1, (⟨bt213.2.1, bt213.2.2.1⟩ : S23), bt213.2.2.2.1, bt213.2.2.2.2⟩ : S25), (⟨bt218.1, (⟨bt218.2.1, bt218.2.2.1⟩ : S23), bt218.2.2.2.1, bt218.2.2.2.2⟩ : S25)] : List (S25)))).bind fun t226 => (if t226 = true then ((gimmallaw0_Num.f t202).bind fun t227 => (if t227 = 0 then ((gimmallaw0_SameItems.f k bt205.1 y198).bind fun t228 => (if t228 = true then ((gimmallaw0_Num.f bt205.2).bind fun t229 => (if t229 = 0 then ((gimmallaw0_Num.f bt209.2).bind fun t230 => (some (t230 == 600))) else (some false))) else (some false))) else (some false))) else (some false))))))) = some true := H
  have A4 := Aside0.mk A40
  clear A40
  replace H := Option.bind_eq_some_iff.mp H
  obtain ⟨⟨t205, t206⟩, A50, H⟩ := H
  replace H : ((span_Of.f k y198 256 3).bind fun bt209 => ((gimmallaw6_it.f 3).bind fun bt213 => ((gimmallaw6_it.f 200).bind fun bt218 => ((gimmallaw0_SameItems.f k t201 (([(⟨bt213.1, (⟨bt213.2.1, bt213.2.2.1⟩ : S23), bt213.2.2.2.1, bt213.2.2.2.2⟩ : S25), (⟨bt218.1, (⟨bt218.2.1, bt218.2.2.1⟩ : S23), bt218.2.2.2.1, bt218.2.2.2.2⟩ : S25)] : List (S25)))).bind fun t226 => (if t226 = true then ((gimmallaw0_Num.f t202).bind fun t227 => (if t227 = 0 then ((gimmallaw0_SameItems.f k t205 y198).bind fun t228 => (if t228 = true then ((gimmallaw0_Num.f t206).bind fun t229 => (if t229 = 0 then ((gimmallaw0_Num.f bt209.2).bind fun t230 => (some (t230 == 600))) else (some false))) else (some false))) else (some false))) else (some false)))))) = some true := H
  have A5 := Aside0.mk A50
  clear A50
  replace H := Option.bind_eq_some_iff.mp H
  obtain ⟨⟨t209, t210⟩, A60, H⟩ := H
  replace H : ((gimmallaw6_it.f 3).bind fun bt213 => ((gimmallaw6_it.f 200).bind fun bt218 => ((gimmallaw0_SameItems.f k t201 (([(⟨bt213.1, (⟨bt213.2.1, bt213.2.2.1⟩ : S23), bt213.2.2.2.1, bt213.2.2.2.2⟩ : S25), (⟨bt218.1, (⟨bt218.2.1, bt218.2.2.1⟩ : S23), bt218.2.2.2.1, bt218.2.2.2.2⟩ : S25)] : List (S25)))).bind fun t226 => (if t226 = true then ((gimmallaw0_Num.f t202).bind fun t227 => (if t227 = 0 then ((gimmallaw0_SameItems.f k t205 y198).bind fun t228 => (if t228 = true then ((gimmallaw0_Num.f t206).bind fun t229 => (if t229 = 0 then ((gimmallaw0_Num.f t210).bind fun t230 => (some (t230 == 600))) else (some false))) else (some false))) else (some false))) else (some false))))) = some true := H
  have A6 := Aside0.mk A60
  clear A60
  replace H := Option.bind_eq_some_iff.mp H
  obtain ⟨⟨t213, t214, t215, t216, t217⟩, A70, H⟩ := H
  replace H : ((gimmallaw6_it.f 200).bind fun bt218 => ((gimmallaw0_SameItems.f k t201 (([(⟨t213, (⟨t214, t215⟩ : S23), t216, t217⟩ : S25), (⟨bt218.1, (⟨bt218.2.1, bt218.2.2.1⟩ : S23), bt218.2.2.2.1, bt218.2.2.2.2⟩ : S25)] : List (S25)))).bind fun t226 => (if t226 = true then ((gimmallaw0_Num.f t202).bind fun t227 => (if t227 = 0 then ((gimmallaw0_SameItems.f k t205 y198).bind fun t228 => (if t228 = true then ((gimmallaw0_Num.f t206).bind fun t229 => (if t229 = 0 then ((gimmallaw0_Num.f t210).bind fun t230 => (some (t230 == 600))) else (some false))) else (some false))) else (some false))) else (some false)))) = some true := H
  have A7 := Aside0.mk A70
  clear A70
  replace H := Option.bind_eq_some_iff.mp H
  obtain ⟨⟨t218, t219, t220, t221, t222⟩, A80, H⟩ := H
  replace H : ((gimmallaw0_SameItems.f k t201 (([(⟨t213, (⟨t214, t215⟩ : S23), t216, t217⟩ : S25), (⟨t218, (⟨t219, t220⟩ : S23), t221, t222⟩ : S25)] : List (S25)))).bind fun t226 => (if t226 = true then ((gimmallaw0_Num.f t202).bind fun t227 => (if t227 = 0 then ((gimmallaw0_SameItems.f k t205 y198).bind fun t228 => (if t228 = true then ((gimmallaw0_Num.f t206).bind fun t229 => (if t229 = 0 then ((gimmallaw0_Num.f t210).bind fun t230 => (some (t230 == 600))) else (some false))) else (some false))) else (some false))) else (some false))) = some true := H
  have A8 := Aside0.mk A80
  clear A80
  obtain ⟨y223, hy223⟩ : ∃ y_ : List (S25), y_ = (([(⟨t213, (⟨t214, t215⟩ : S23), t216, t217⟩ : S25), (⟨t218, (⟨t219, t220⟩ : S23), t221, t222⟩ : S25)] : List (S25))) := ⟨_, rfl⟩
  replace H : ((gimmallaw0_SameItems.f k t201 y223).bind fun t226 => (if t226 = true then ((gimmallaw0_Num.f t202).bind fun t227 => (if t227 = 0 then ((gimmallaw0_SameItems.f k t205 y198).bind fun t228 => (if t228 = true then ((gimmallaw0_Num.f t206).bind fun t229 => (if t229 = 0 then ((gimmallaw0_Num.f t210).bind fun t230 => (some (t230 == 600))) else (some false))) else (some false))) else (some false))) else (some false))) = some true := by first | (rw [hy223]; with_reducible exact H) | (have H2_ := (Option.bind_some _ _).symm.trans H; rw [hy223]; with_reducible exact H2_) | (have H2_ := (Option.bind_some _ _).symm.trans H; with_reducible exact H2_) | with_reducible exact H | (rw [hy223]; exact H) | exact H
  have Ny223 := Aside0.mk hy223
  clear hy223
  replace H := Option.bind_eq_some_iff.mp H
  obtain ⟨t226, A90, H⟩ := H
  replace H : (if t226 = true then ((gimmallaw0_Num.f t202).bind fun t227 => (if t227 = 0 then ((gimmallaw0_SameItems.f k t205 y198).bind fun t228 => (if t228 = true then ((gimmallaw0_Num.f t206).bind fun t229 => (if t229 = 0 then ((gimmallaw0_Num.f t210).bind fun t230 => (some (t230 == 600))) else (some false))) else (some false))) else (some false))) else (some false)) = some true := H
  have A9 := Aside0.mk A90
  clear A90
  by_cases c10 : t226 = true
  · subst c10
    have H1 : ((gimmallaw0_Num.f t202).bind fun t227 => (if t227 = 0 then ((gimmallaw0_SameItems.f k t205 y198).bind fun t228 => (if t228 = true then ((gimmallaw0_Num.f t206).bind fun t229 => (if t229 = 0 then ((gimmallaw0_Num.f t210).bind fun t230 => (some (t230 == 600))) else (some false))) else (some false))) else (some false))) = some true := by rw [if_pos rfl] at H; exact H
    clear H
    have H := H1
    clear H1
    replace H := Option.bind_eq_some_iff.mp H
    obtain ⟨t227, A110, H⟩ := H
    replace H : (if t227 = 0 then ((gimmallaw0_SameItems.f k t205 y198).bind fun t228 => (if t228 = true then ((gimmallaw0_Num.f t206).bind fun t229 => (if t229 = 0 then ((gimmallaw0_Num.f t210).bind fun t230 => (some (t230 == 600))) else (some false))) else (some false))) else (some false)) = some true := H
    have A11 := Aside0.mk A110
    clear A110
    by_cases c12 : t227 = 0
    · rw [if_pos c12] at H
      have c12b0 : (t227 == 0) = true := beq_iff_eq.mpr c12
      have c12b1 : (t227 != 0) = false := bne_eq_false_iff_eq.mpr c12
      clear c12
      replace H := Option.bind_eq_some_iff.mp H
      obtain ⟨t228, A130, H⟩ := H
      replace H : (if t228 = true then ((gimmallaw0_Num.f t206).bind fun t229 => (if t229 = 0 then ((gimmallaw0_Num.f t210).bind fun t230 => (some (t230 == 600))) else (some false))) else (some false)) = some true := H
      have A13 := Aside0.mk A130
      clear A130
      by_cases c14 : t228 = true
      · subst c14
        have H1 : ((gimmallaw0_Num.f t206).bind fun t229 => (if t229 = 0 then ((gimmallaw0_Num.f t210).bind fun t230 => (some (t230 == 600))) else (some false))) = some true := by rw [if_pos rfl] at H; exact H
        clear H
        have H := H1
        clear H1
        replace H := Option.bind_eq_some_iff.mp H
        obtain ⟨t229, A150, H⟩ := H
        replace H : (if t229 = 0 then ((gimmallaw0_Num.f t210).bind fun t230 => (some (t230 == 600))) else (some false)) = some true := H
        have A15 := Aside0.mk A150
        clear A150
        by_cases c16 : t229 = 0
        · rw [if_pos c16] at H
          have c16b0 : (t229 == 0) = true := beq_iff_eq.mpr c16
          have c16b1 : (t229 != 0) = false := bne_eq_false_iff_eq.mpr c16
          clear c16
          replace H := Option.bind_eq_some_iff.mp H
          obtain ⟨t230, A170, H⟩ := H
          replace H : (some (t230 == 600)) = some true := H
          have A17 := Aside0.mk A170
          clear A170
          have HR := Aside0.mk (Option.some.inj H)
          clear H
          go_enter Try.func26, Try.ntmps26
          go_wp2_with (first | ((with_reducible refine gate_callee (f := 27) rfl ?_); refine goesL_ (some 8) rfl rfl Try.func27 (by kernel_rfl) rfl #[.int .i64 3] rfl (by (try simp only [List.map_toArray, List.map_cons, List.map_nil]); first | done | rfl | (simp only [List.length_drop, List.length_take]; rfl)) ?_; (with_reducible refine (gimmallaw6_it.calls 3 t183 t184 t185 t186 t187 _ A1.out).mono ?_); rintro e w18 ⟨rfl, hb⟩; refine ⟨_, rfl, ?_⟩; have n0_ := Aside0.mk (below_step (by repeat (first | (with_reducible first | exact HB.out | apply below_alloc | apply pw_below_drewN | apply below_drew1) | exact HB.out)) hb); clear HB; have HB := n0_; clear n0_; (try clear hb); (try clear hb2); (try clear hk); (try clear hi)) | ((with_reducible refine gate_callee (f := 27) rfl ?_); refine goesL_ (some 9) rfl rfl Try.func27 (by kernel_rfl) rfl #[.int .i64 9] rfl (by (try simp only [List.map_toArray, List.map_cons, List.map_nil]); first | done | rfl | (simp only [List.length_drop, List.length_take]; rfl)) ?_; (with_reducible refine (gimmallaw6_it.calls 9 t188 t189 t190 t191 t192 _ A2.out).mono ?_); rintro e w19 ⟨rfl, hb⟩; refine ⟨_, rfl, ?_⟩; have n0_ := Aside0.mk (below_step (by repeat (first | (with_reducible first | exact HB.out | apply below_alloc | apply pw_below_drewN | apply below_drew1) | exact HB.out)) hb); clear HB; have HB := n0_; clear n0_; (try clear hb); (try clear hb2); (try clear hk); (try clear hi)) | ((with_reducible refine gate_callee (f := 27) rfl ?_); refine goesL_ (some 10) rfl rfl Try.func27 (by kernel_rfl) rfl #[.int .i64 200] rfl (by (try simp only [List.map_toArray, List.map_cons, List.map_nil]); first | done | rfl | (simp only [List.length_drop, List.length_take]; rfl)) ?_; (with_reducible refine (gimmallaw6_it.calls 200 t193 t194 t195 t196 t197 _ A3.out).mono ?_); rintro e w20 ⟨rfl, hb⟩; refine ⟨_, rfl, ?_⟩; have n0_ := Aside0.mk (below_step (by repeat (first | (with_reducible first | exact HB.out | apply below_alloc | apply pw_below_drewN | apply below_drew1) | exact HB.out)) hb); clear HB; have HB := n0_; clear n0_; (try clear hb); (try clear hb2); (try clear hk); (try clear hi)) | ((with_reducible refine gate_dst (N := 11) rfl ?_); refine Kd.R_lit k25 _ 25 ?hg (N := 11) ?hd (xs := ([(⟨t183, (⟨t184, t185⟩ : S23), t186, t187⟩ : S25), (⟨t188, (⟨t189, t190⟩ : S23), t191, t192⟩ : S25), (⟨t193, (⟨t194, t195⟩ : S23), t196, t197⟩ : S25)] : List (S25))) (inner := [.int .i64 t183, .int .i64 t184, .int .i64 t185, .int .i64 t186, .bool t187, .int .i64 t188, .int .i64 t189, .int .i64 t190, .int .i64 t191, .bool t192, .int .i64 t193, .int .i64 t194, .int .i64 t195, .int .i64 t196, .bool t197]) (ok := fun _ => True) (okp := fun _ => True) ?hr ?hp (fun _ hk => hk) trivial (Below.refl _ _) (Nat.le_refl _) (by simp) ?_; (case hd => rfl); (case hg => rfl); (case hr => first | (go_simp; done) | (go_simp; rfl)); (case hp => exact (Reps.c5 (show Kd.M k25 _ _ _ (⟨t183, (⟨t184, t185⟩ : S23), t186, t187⟩ : S25) [.int .i64 t183, .int .i64 t184, .int .i64 t185, .int .i64 t186, .bool t187] from (k25_mkM _ _ _ (⟨t183, (⟨t184, t185⟩ : S23), t186, t187⟩ : S25) )) (Reps.c5 (show Kd.M k25 _ _ _ (⟨t188, (⟨t189, t190⟩ : S23), t191, t192⟩ : S25) [.int .i64 t188, .int .i64 t189, .int .i64 t190, .int .i64 t191, .bool t192] from (k25_mkM _ _ _ (⟨t188, (⟨t189, t190⟩ : S23), t191, t192⟩ : S25) )) (Reps.c5 (show Kd.M k25 _ _ _ (⟨t193, (⟨t194, t195⟩ : S23), t196, t197⟩ : S25) [.int .i64 t193, .int .i64 t194, .int .i64 t195, .int .i64 t196, .bool t197] from (k25_mkM _ _ _ (⟨t193, (⟨t194, t195⟩ : S23), t196, t197⟩ : S25) )) (Reps.none _ _))))); intro v199 w21 ho22 hb hg_ hnew_; clear hg_ hnew_; (first | rw [← Ny198.out] at ho22 | (simp only [Int.reduceToNat] at ho22; rw [← Ny198.out] at ho22)); have n0_ := Aside0.mk (Kd.R_lower ho22 (below_size (by repeat (first | (with_reducible first | exact HB.out | apply below_alloc | apply pw_below_drewN | apply below_drew1) | exact HB.out)))); have n1_ := Aside0.mk (below_step (by repeat (first | (with_reducible first | exact HB.out | apply below_alloc | apply pw_below_drewN | apply below_drew1) | exact HB.out)) hb); clear HB; have HO200 := n0_; have HB := n1_; clear n0_ n1_; clear hb ho22; obtain ⟨Ao23, co23, eo23⟩ := Kd.R_slice HO200.out; subst eo23) | ((with_reducible refine gate_callee (f := 21) rfl ?_); refine goesL_ (some 14) rfl rfl Try.func21 (by kernel_rfl) rfl #[.slice Ao23 y198.length co23, .int .i64 100, .int .i64 3] rfl (by (try simp only [List.map_toArray, List.map_cons, List.map_nil]); first | done | rfl | (simp only [List.length_drop, List.length_take]; rfl)) ?_; (with_reducible refine (span_Of.calls k _ _ y198 100 3 t201 t202 _ ?side1 ?side2 A4.out).mono ?_); (case side1 => repeat (first | exact (Kd.R_reads' HO200.out).2.2 | (with_reducible refine Kd.C_alloc ?_ _) | (with_reducible refine Kd.C_drewN ?_ _) | (with_reducible refine Kd.C_drew ?_))); (case side2 => exact (Kd.R_reads' HO200.out).2.1); rintro e w24 ⟨v203, rfl, ho0, hb⟩; refine ⟨_, rfl, ?_⟩; have n0_ := Aside0.mk (Kd.R_elder' (by (with_reducible repeat (first | apply Kd.R_alloc | apply Kd.R_drewN | apply Kd.R_drew)); exact HO200.out) (Kd.R_base ho0) hb); have n1_ := Aside0.mk (Kd.R_lower (Kd.R_new' ho0 (Kd.R_lt (by (with_reducible repeat (first | apply Kd.R_alloc | apply Kd.R_drewN | apply Kd.R_drew)); exact HO200.out))) (below_size (by repeat (first | (with_reducible first | exact HB.out | apply below_alloc | apply pw_below_drewN | apply below_drew1) | exact HB.out)))); have n2_ := Aside0.mk (below_step (by repeat (first | (with_reducible first | exact HB.out | apply below_alloc | apply pw_below_drewN | apply below_drew1) | exact HB.out)) hb); clear HO200; clear HB; have HO200 := n0_; have HO204 := n1_; have HB := n2_; clear n0_ n1_ n2_; (try clear hb); (try clear hb2); (try clear hk); (try clear hi); (try clear ho0)) | ((with_reducible refine gate_callee (f := 21) rfl ?_); refine goesL_ (some 19) rfl rfl Try.func21 (by kernel_rfl) rfl #[.slice Ao23 y198.length co23, .int .i64 9, .int .i64 9] rfl (by (try simp only [List.map_toArray, List.map_cons, List.map_nil]); first | done | rfl | (simp only [List.length_drop, List.length_take]; rfl)) ?_; (with_reducible refine (span_Of.calls k _ _ y198 9 9 t205 t206 _ ?side1 ?side2 A5.out).mono ?_); (case side1 => repeat (first | exact (Kd.R_reads' HO200.out).2.2 | (with_reducible refine Kd.C_alloc ?_ _) | (with_reducible refine Kd.C_drewN ?_ _) | (with_reducible refine Kd.C_drew ?_))); (case side2 => exact (Kd.R_reads' HO200.out).2.1); rintro e w25 ⟨v207, rfl, ho0, hb⟩; refine ⟨_, rfl, ?_⟩; have n0_ := Aside0.mk (Kd.R_elder' (by (with_reducible repeat (first | apply Kd.R_alloc | apply Kd.R_drewN | apply Kd.R_drew)); exact HO200.out) (Kd.R_base ho0) hb); have n1_ := Aside0.mk (Kd.R_elder' (by (with_reducible repeat (first | apply Kd.R_alloc | apply Kd.R_drewN | apply Kd.R_drew)); exact HO204.out) (Kd.R_base ho0) hb); have n2_ := Aside0.mk (Kd.R_lower (Kd.R_new' (Kd.R_new' ho0 (Kd.R_lt (by (with_reducible repeat (first | apply Kd.R_alloc | apply Kd.R_drewN | apply Kd.R_drew)); exact HO200.out))) (Kd.R_lt (by (with_reducible repeat (first | apply Kd.R_alloc | apply Kd.R_drewN | apply Kd.R_drew)); exact HO204.out))) (below_size (by repeat (first | (with_reducible first | exact HB.out | apply below_alloc | apply pw_below_drewN | apply below_drew1) | exact HB.out)))); have n3_ := Aside0.mk (below_step (by repeat (first | (with_reducible first | exact HB.out | apply below_alloc | apply pw_below_drewN | apply below_drew1) | exact HB.out)) hb); clear HO200; clear HO204; clear HB; have HO200 := n0_; have HO204 := n1_; have HO208 := n2_; have HB := n3_; clear n0_ n1_ n2_ n3_; (try clear hb); (try clear hb2); (try clear hk); (try clear hi); (try clear ho0)) | ((with_reducible refine gate_callee (f := 21) rfl ?_); refine goesL_ (some 24) rfl rfl Try.func21 (by kernel_rfl) rfl #[.slice Ao23 y198.length co23, .int .i64 256, .int .i64 3] rfl (by (try simp only [List.map_toArray, List.map_cons, List.map_nil]); first | done | rfl | (simp only [List.length_drop, List.length_take]; rfl)) ?_; (with_reducible refine (span_Of.calls k _ _ y198 256 3 t209 t210 _ ?side1 ?side2 A6.out).mono ?_); (case side1 => repeat (first | exact (Kd.R_reads' HO200.out).2.2 | (with_reducible refine Kd.C_alloc ?_ _) | (with_reducible refine Kd.C_drewN ?_ _) | (with_reducible refine Kd.C_drew ?_))); (case side2 => exact (Kd.R_reads' HO200.out).2.1); rintro e w26 ⟨v211, rfl, ho0, hb⟩; refine ⟨_, rfl, ?_⟩; have n0_ := Aside0.mk (Kd.R_elder' (by (with_reducible repeat (first | apply Kd.R_alloc | apply Kd.R_drewN | apply Kd.R_drew)); exact HO200.out) (Kd.R_base ho0) hb); have n1_ := Aside0.mk (Kd.R_elder' (by (with_reducible repeat (first | apply Kd.R_alloc | apply Kd.R_drewN | apply Kd.R_drew)); exact HO204.out) (Kd.R_base ho0) hb); have n2_ := Aside0.mk (Kd.R_elder' (by (with_reducible repeat (first | apply Kd.R_alloc | apply Kd.R_drewN | apply Kd.R_drew)); exact HO208.out) (Kd.R_base ho0) hb); have n3_ := Aside0.mk (Kd.R_lower (Kd.R_new' (Kd.R_new' (Kd.R_new' ho0 (Kd.R_lt (by (with_reducible repeat (first | apply Kd.R_alloc | apply Kd.R_drewN | apply Kd.R_drew)); exact HO200.out))) (Kd.R_lt (by (with_reducible repeat (first | apply Kd.R_alloc | apply Kd.R_drewN | apply Kd.R_drew)); exact HO204.out))) (Kd.R_lt (by (with_reducible repeat (first | apply Kd.R_alloc | apply Kd.R_drewN | apply Kd.R_drew)); exact HO208.out))) (below_size (by repeat (first | (with_reducible first | exact HB.out | apply below_alloc | apply pw_below_drewN | apply below_drew1) | exact HB.out)))); have n4_ := Aside0.mk (below_step (by repeat (first | (with_reducible first | exact HB.out | apply below_alloc | apply pw_below_drewN | apply below_drew1) | exact HB.out)) hb); clear HO200; clear HO204; clear HO208; clear HB; have HO200 := n0_; have HO204 := n1_; have HO208 := n2_; have HO212 := n3_; have HB := n4_; clear n0_ n1_ n2_ n3_ n4_; (try clear hb); (try clear hb2); (try clear hk); (try clear hi); (try clear ho0)) | ((with_reducible refine gate_callee (f := 27) rfl ?_); refine goesL_ (some 28) rfl rfl Try.func27 (by kernel_rfl) rfl #[.int .i64 3] rfl (by (try simp only [List.map_toArray, List.map_cons, List.map_nil]); first | done | rfl | (simp only [List.length_drop, List.length_take]; rfl)) ?_; (with_reducible refine (gimmallaw6_it.calls 3 t213 t214 t215 t216 t217 _ A7.out).mono ?_); rintro e w27 ⟨rfl, hb⟩; refine ⟨_, rfl, ?_⟩; have n0_ := Aside0.mk (Kd.R_below (by (with_reducible repeat (first | apply Kd.R_alloc | apply Kd.R_drewN | apply Kd.R_drew)); exact HO200.out) hb); have n1_ := Aside0.mk (Kd.R_below (by (with_reducible repeat (first | apply Kd.R_alloc | apply Kd.R_drewN | apply Kd.R_drew)); exact HO204.out) hb); have n2_ := Aside0.mk (Kd.R_below (by (with_reducible repeat (first | apply Kd.R_alloc | apply Kd.R_drewN | apply Kd.R_drew)); exact HO208.out) hb); have n3_ := Aside0.mk (Kd.R_below (by (with_reducible repeat (first | apply Kd.R_alloc | apply Kd.R_drewN | apply Kd.R_drew)); exact HO212.out) hb); have n4_ := Aside0.mk (below_step (by repeat (first | (with_reducible first | exact HB.out | apply below_alloc | apply pw_below_drewN | apply below_drew1) | exact HB.out)) hb); clear HO200; clear HO204; clear HO208; clear HO212; clear HB; have HO200 := n0_; have HO204 := n1_; have HO208 := n2_; have HO212 := n3_; have HB := n4_; clear n0_ n1_ n2_ n3_ n4_; (try clear hb); (try clear hb2); (try clear hk); (try clear hi)) | ((with_reducible refine gate_callee (f := 27) rfl ?_); refine goesL_ (some 29) rfl rfl Try.func27 (by kernel_rfl) rfl #[.int .i64 200] rfl (by (try simp only [List.map_toArray, List.map_cons, List.map_nil]); first | done | rfl | (simp only [List.length_drop, List.length_take]; rfl)) ?_; (with_reducible refine (gimmallaw6_it.calls 200 t218 t219 t220 t221 t222 _ A8.out).mono ?_); rintro e w28 ⟨rfl, hb⟩; refine ⟨_, rfl, ?_⟩; have n0_ := Aside0.mk (Kd.R_below (by (with_reducible repeat (first | apply Kd.R_alloc | apply Kd.R_drewN | apply Kd.R_drew)); exact HO200.out) hb); have n1_ := Aside0.mk (Kd.R_below (by (with_reducible repeat (first | apply Kd.R_alloc | apply Kd.R_drewN | apply Kd.R_drew)); exact HO204.out) hb); have n2_ := Aside0.mk (Kd.R_below (by (with_reducible repeat (first | apply Kd.R_alloc | apply Kd.R_drewN | apply Kd.R_drew)); exact HO208.out) hb); have n3_ := Aside0.mk (Kd.R_below (by (with_reducible repeat (first | apply Kd.R_alloc | apply Kd.R_drewN | apply Kd.R_drew)); exact HO212.out) hb); have n4_ := Aside0.mk (below_step (by repeat (first | (with_reducible first | exact HB.out | apply below_alloc | apply pw_below_drewN | apply below_drew1) | exact HB.out)) hb); clear HO200; clear HO204; clear HO208; clear HO212; clear HB; have HO200 := n0_; have HO204 := n1_; have HO208 := n2_; have HO212 := n3_; have HB := n4_; clear n0_ n1_ n2_ n3_ n4_; (try clear hb); (try clear hb2); (try clear hk); (try clear hi)) | ((with_reducible refine gate_dst (N := 30) rfl ?_); refine Kd.R_lit k25 _ 25 ?hg (N := 30) ?hd (xs := ([(⟨t213, (⟨t214, t215⟩ : S23), t216, t217⟩ : S25), (⟨t218, (⟨t219, t220⟩ : S23), t221, t222⟩ : S25)] : List (S25))) (inner := [.int .i64 t213, .int .i64 t214, .int .i64 t215, .int .i64 t216, .bool t217, .int .i64 t218, .int .i64 t219, .int .i64 t220, .int .i64 t221, .bool t222]) (ok := fun _ => True) (okp := fun _ => True) ?hr ?hp (fun _ hk => hk) trivial (Below.refl _ _) (Nat.le_refl _) (by simp) ?_; (case hd => rfl); (case hg => rfl); (case hr => first | (go_simp; done) | (go_simp; rfl)); (case hp => exact (Reps.c5 (show Kd.M k25 _ _ _ (⟨t213, (⟨t214, t215⟩ : S23), t216, t217⟩ : S25) [.int .i64 t213, .int .i64 t214, .int .i64 t215, .int .i64 t216, .bool t217] from (k25_mkM _ _ _ (⟨t213, (⟨t214, t215⟩ : S23), t216, t217⟩ : S25) )) (Reps.c5 (show Kd.M k25 _ _ _ (⟨t218, (⟨t219, t220⟩ : S23), t221, t222⟩ : S25) [.int .i64 t218, .int .i64 t219, .int .i64 t220, .int .i64 t221, .bool t222] from (k25_mkM _ _ _ (⟨t218, (⟨t219, t220⟩ : S23), t221, t222⟩ : S25) )) (Reps.none _ _)))); intro v224 w29 ho30 hb hg_ hnew_; clear hg_ hnew_; (first | rw [← Ny223.out] at ho30 | (simp only [Int.reduceToNat] at ho30; rw [← Ny223.out] at ho30)); have n0_ := Aside0.mk (Kd.R_elder' (by (with_reducible repeat (first | apply Kd.R_alloc | apply Kd.R_drewN | apply Kd.R_drew)); exact HO200.out) (Kd.R_base ho30) hb); have n1_ := Aside0.mk (Kd.R_elder' (by (with_reducible repeat (first | apply Kd.R_alloc | apply Kd.R_drewN | apply Kd.R_drew)); exact HO204.out) (Kd.R_base ho30) hb); have n2_ := Aside0.mk (Kd.R_elder' (by (with_reducible repeat (first | apply Kd.R_alloc | apply Kd.R_drewN | apply Kd.R_drew)); exact HO208.out) (Kd.R_base ho30) hb); have n3_ := Aside0.mk (Kd.R_elder' (by (with_reducible repeat (first | apply Kd.R_alloc | apply Kd.R_drewN | apply Kd.R_drew)); exact HO212.out) (Kd.R_base ho30) hb); have n4_ := Aside0.mk (Kd.R_lower (Kd.R_new' (Kd.R_new' (Kd.R_new' (Kd.R_new' ho30 (Kd.R_lt (by (with_reducible repeat (first | apply Kd.R_alloc | apply Kd.R_drewN | apply Kd.R_drew)); exact HO200.out))) (Kd.R_lt (by (with_reducible repeat (first | apply Kd.R_alloc | apply Kd.R_drewN | apply Kd.R_drew)); exact HO204.out))) (Kd.R_lt (by (with_reducible repeat (first | apply Kd.R_alloc | apply Kd.R_drewN | apply Kd.R_drew)); exact HO208.out))) (Kd.R_lt (by (with_reducible repeat (first | apply Kd.R_alloc | apply Kd.R_drewN | apply Kd.R_drew)); exact HO212.out))) (below_size (by repeat (first | (with_reducible first | exact HB.out | apply below_alloc | apply pw_below_drewN | apply below_drew1) | exact HB.out)))); have n5_ := Aside0.mk (below_step (by repeat (first | (with_reducible first | exact HB.out | apply below_alloc | apply pw_below_drewN | apply below_drew1) | exact HB.out)) hb); clear HO200; clear HO204; clear HO208; clear HO212; clear HB; have HO200 := n0_; have HO204 := n1_; have HO208 := n2_; have HO212 := n3_; have HO225 := n4_; have HB := n5_; clear n0_ n1_ n2_ n3_ n4_ n5_; clear hb ho30; obtain ⟨Ao31, co31, eo31⟩ := Kd.R_slice HO204.out; subst eo31; obtain ⟨Ao32, co32, eo32⟩ := Kd.R_slice HO225.out; subst eo32) | ((with_reducible refine gate_callee (f := 23) rfl ?_); refine goesL_ (some 31) rfl rfl Try.func23 (by kernel_rfl) rfl #[.slice Ao31 t201.length co31, .slice Ao32 y223.length co32] rfl (by (try simp only [List.map_toArray, List.map_cons, List.map_nil]); first | done | rfl | (simp only [List.length_drop, List.length_take]; rfl)) ?_; (with_reducible refine (gimmallaw0_SameItems.calls k _ _ t201 _ _ y223 true _ ?side1 ?side2 ?side3 ?side4 A9.out).mono ?_); (case side1 => repeat (first | exact (Kd.R_reads' HO204.out).2.2 | (with_reducible refine Kd.C_alloc ?_ _) | (with_reducible refine Kd.C_drewN ?_ _) | (with_reducible refine Kd.C_drew ?_))); (case side2 => exact (Kd.R_reads' HO204.out).2.1); (case side3 => repeat (first | exact (Kd.R_reads' HO225.out).2.2 | (with_reducible refine Kd.C_alloc ?_ _) | (with_reducible refine Kd.C_drewN ?_ _) | (with_reducible refine Kd.C_drew ?_))); (case side4 => exact (Kd.R_reads' HO225.out).2.1); rintro e w' ⟨rfl, ⟨nd, rfl⟩⟩; refine ⟨_, rfl, ?_⟩) | (go_at_call 15; (with_reducible refine (gimmallaw0_Num.calls t202 t227 _ A11.out).mono ?_); rintro e w' ⟨rfl, ⟨nd, rfl⟩⟩; obtain ⟨Ao33, co33, eo33⟩ := Kd.R_slice HO208.out; subst eo33) | (go_at_call 23; (with_reducible refine (gimmallaw0_SameItems.calls k _ _ t205 _ _ y198 true _ ?side1 ?side2 ?side3 ?side4 A13.out).mono ?_); (case side1 => repeat (first | exact (Kd.R_reads' HO208.out).2.2 | (with_reducible refine Kd.C_alloc ?_ _) | (with_reducible refine Kd.C_drewN ?_ _) | (with_reducible refine Kd.C_drew ?_))); (case side2 => exact (Kd.R_reads' HO208.out).2.1); (case side3 => repeat (first | exact (Kd.R_reads' HO200.out).2.2 | (with_reducible refine Kd.C_alloc ?_ _) | (with_reducible refine Kd.C_drewN ?_ _) | (with_reducible refine Kd.C_drew ?_))); (case side4 => exact (Kd.R_reads' HO200.out).2.1); rintro e w' ⟨rfl, ⟨nd, rfl⟩⟩) | (go_at_call 15; (with_reducible refine (gimmallaw0_Num.calls t206 t229 _ A15.out).mono ?_); rintro e w' ⟨rfl, ⟨nd, rfl⟩⟩) | (go_at_call 15; (with_reducible refine (gimmallaw0_Num.calls t210 t230 _ A17.out).mono ?_); rintro e w' ⟨rfl, ⟨nd, rfl⟩⟩))
          go_ret
          exact ⟨by first | exact (congrArg (fun b => Ending.returned (Value.bool b)) HR.out) | (have HRS := HR.out; simp at HRS; simp [HRS]; done) | rfl | (simp [errW_none, errW_some] <;> rfl) | (simp [*, errW_none, errW_some] <;> rfl), by repeat (first | (with_reducible first | exact HB.out | apply below_alloc | apply pw_below_drewN | apply below_drew1) | exact HB.out)⟩
        · rw [if_neg c16] at H
          exact absurd (Option.some.inj H) (by decide)
      · replace c14 := Bool.eq_false_iff.mpr c14
        subst c14
        have H1 : (some false) = some true := by rw [if_neg (show ¬ (false = true) by decide)] at H; exact H
        exact absurd (Option.some.inj H1) (by decide)
    · rw [if_neg c12] at H
      exact absurd (Option.some.inj H) (by decide)
  · replace c10 := Bool.eq_false_iff.mpr c10
    subst c10
    have H1 : (some false) = some true := by rw [if_neg (show ¬ (false = true) by decide)] at H; exact H
    exact absurd (Option.some.inj H1) (by decide)


end Go.Proofs.Ytklaiaididkiiaa.MS
