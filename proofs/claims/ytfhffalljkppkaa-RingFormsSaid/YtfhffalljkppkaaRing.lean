/- What package ring's functions answer, at every place and at numbers that are none: contracts of the walks. Conditions: as each says. -/
import Derived.Test.YtfhffalljkppkaaPRingAroundx0
import Derived.Test.YtfhffalljkppkaaBits
namespace Go.Proofs.Ytfhffalljkppkaa.Ring
set_option linter.unusedVariables false
set_option linter.unusedSimpArgs false
open Go.RowKit Go.Proofs.YtfhffalljkppkaaW.PrintWords Go.Proofs.YtfhffalljkppkaaW.PrintLast Go.Proofs.YtfhffalljkppkaaW.PrintMore

theorem num_any (a : Int) (w : World) :
    Calls Try.prog 20 #[.int .i64 a] w fun e w' => e = .returned (.int .i64 a) ∧ Drawn0 w w' := by
  go_enter Try.func20, Try.ntmps20
  go_wp2
  go_ret
  exact ⟨rfl, by repeat (first | exact Drawn0.refl _ | apply Drawn0.step)⟩

theorem place_yes (a : Int) (h0 : 0 ≤ a) (h1 : a < 256) (w : World) :
    Calls Try.prog 29 #[.int .i64 a] w fun e w' => e = .returned (.bool true) ∧ Drawn0 w w' := by
  go_enter Try.func29, Try.ntmps29
  go_wp2
  go_ret
  exact ⟨by simp [h1], by repeat (first | exact Drawn0.refl _ | apply Drawn0.step)⟩

theorem place_no (a : Int) (h : a < 0 ∨ 256 ≤ a) (w : World) :
    Calls Try.prog 29 #[.int .i64 a] w fun e w' => e = .returned (.bool false) ∧ Drawn0 w w' := by
  rcases h with h | h
  · have h' : ¬ 0 ≤ a := by omega
    clear h
    go_enter Try.func29, Try.ntmps29
    go_wp2
    go_ret
    exact ⟨rfl, by repeat (first | exact Drawn0.refl _ | apply Drawn0.step)⟩
  · have h' : 0 ≤ a := by omega
    have h2 : ¬ a < 256 := by omega
    clear h
    go_enter Try.func29, Try.ntmps29
    go_wp2
    go_ret
    exact ⟨by simp [h2], by repeat (first | exact Drawn0.refl _ | apply Drawn0.step)⟩

theorem far_any (a b : Int) (h0 : 0 ≤ a) (h1 : a < 256) (g0 : 0 ≤ b) (g1 : b < 256) (w : World) :
    Calls Try.prog 31 #[.int .i64 a, .int .i64 b] w fun e w' => e = .returned (.int .i64 ((b - a) % 256)) ∧ Drawn0 w w' := by
  have hx : (b - a + 256) % 256 = (b - a) % 256 := by omega
  have HX := Aside0.mk hx
  clear hx
  go_enter Try.func31, Try.ntmps31
  go_wp2
  go_ret
  exact ⟨by rw [← HX.out]; rfl, by repeat (first | exact Drawn0.refl _ | apply Drawn0.step)⟩

theorem dist_in (a b : Int) (h0 : 0 ≤ a) (h1 : a < 256) (g0 : 0 ≤ b) (g1 : b < 256) (w : World) :
    Calls Try.prog 24 #[.int .i64 a, .int .i64 b] w fun e w' => e = .returned (.tuple #[.int .i64 ((b - a) % 256), .int .i64 0]) ∧ Drawn0 w w' := by
  go_enter Try.func24, Try.ntmps24
  go_wp2_with (first | (go_at_call 29; (with_reducible refine (place_yes _ (by assumption) (by assumption) _).mono ?_); rintro e w' ⟨rfl, ⟨nd, rfl⟩⟩) | (go_at_call 31; (with_reducible refine (far_any _ _ h0 h1 g0 g1 _).mono ?_); rintro e w' ⟨rfl, ⟨nd, rfl⟩⟩))
  go_ret2
  exact ⟨rfl, by repeat (first | exact Drawn0.refl _ | apply Drawn0.step)⟩

theorem split (a : Int) : (0 ≤ a ∧ a < 256) ∨ (a < 0 ∨ 256 ≤ a) := by omega

theorem dist_out (a b : Int) (h : (a < 0 ∨ 256 ≤ a) ∨ (b < 0 ∨ 256 ≤ b)) (w : World) :
    Calls Try.prog 24 #[.int .i64 a, .int .i64 b] w fun e w' => e = .returned (.tuple #[.int .i64 0, .int .i64 100]) ∧ Drawn0 w w' := by
  rcases split a with ⟨h0, h1⟩ | ha
  · rcases split b with ⟨g0, g1⟩ | hb
    · omega
    · clear h
      go_enter Try.func24, Try.ntmps24
      go_wp2_with (first | (go_at_call 29; (with_reducible refine (place_yes _ (by assumption) (by assumption) _).mono ?_); rintro e w' ⟨rfl, ⟨nd, rfl⟩⟩) | (go_at_call 29; (with_reducible refine (place_no _ (by assumption) _).mono ?_); rintro e w' ⟨rfl, ⟨nd, rfl⟩⟩))
      go_ret2
      exact ⟨rfl, by repeat (first | exact Drawn0.refl _ | apply Drawn0.step)⟩
  · clear h
    go_enter Try.func24, Try.ntmps24
    go_wp2_with (first | (go_at_call 29; (with_reducible refine (place_no _ (by assumption) _).mono ?_); rintro e w' ⟨rfl, ⟨nd, rfl⟩⟩))
    go_ret2
    exact ⟨rfl, by repeat (first | exact Drawn0.refl _ | apply Drawn0.step)⟩

def inB (a x b : Int) : Bool := decide (a = b ∨ 0 < (x - a) % 256 ∧ (x - a) % 256 ≤ (b - a) % 256)

set_option maxHeartbeats 1000000 in
theorem within_in (a x b : Int) (h0 : 0 ≤ a) (h1 : a < 256) (x0 : 0 ≤ x) (x1 : x < 256) (g0 : 0 ≤ b) (g1 : b < 256) (w : World) :
    Calls Try.prog 26 #[.int .i64 a, .int .i64 x, .int .i64 b] w fun e w' => e = .returned (.tuple #[.bool (inB a x b), .int .i64 0]) ∧ Drawn0 w w' := by
  by_cases c1 : a = b
  · have hr : inB a x b = true := by unfold inB; simp [c1]
    have HR := Aside0.mk hr
    have c1b : (a == b) = true := by simp [c1]
    clear hr c1
    go_enter Try.func26, Try.ntmps26
    go_wp2_with (first | (go_at_call 29; (with_reducible refine (place_yes _ (by assumption) (by assumption) _).mono ?_); rintro e w' ⟨rfl, ⟨nd, rfl⟩⟩) | (go_at_call 31; (with_reducible refine (far_any _ _ (by assumption) (by assumption) (by assumption) (by assumption) _).mono ?_); rintro e w' ⟨rfl, ⟨nd, rfl⟩⟩))
    go_ret2
    exact ⟨by rw [HR.out]; rfl, by repeat (first | exact Drawn0.refl _ | apply Drawn0.step)⟩
  · have c1b : (a == b) = false := by simp [c1]
    by_cases c2 : 0 < (x - a) % 256
    · have c2b : decide (0 < (x - a) % 256) = true := decide_eq_true c2
      have hr : inB a x b = decide ((x - a) % 256 ≤ (b - a) % 256) := by unfold inB; simp [c1, c2]
      have HR := Aside0.mk hr
      clear hr c1 c2
      go_enter Try.func26, Try.ntmps26
      go_wp2_with (first | (go_at_call 29; (with_reducible refine (place_yes _ (by assumption) (by assumption) _).mono ?_); rintro e w' ⟨rfl, ⟨nd, rfl⟩⟩) | (go_at_call 31; (with_reducible refine (far_any _ _ (by assumption) (by assumption) (by assumption) (by assumption) _).mono ?_); rintro e w' ⟨rfl, ⟨nd, rfl⟩⟩))
      go_ret2
      exact ⟨by rw [HR.out]; rfl, by repeat (first | exact Drawn0.refl _ | apply Drawn0.step)⟩
    · have c2b : decide (0 < (x - a) % 256) = false := decide_eq_false c2
      have hr : inB a x b = false := by unfold inB; simp [c1, c2]
      have HR := Aside0.mk hr
      clear hr c1 c2
      go_enter Try.func26, Try.ntmps26
      go_wp2_with (first | (go_at_call 29; (with_reducible refine (place_yes _ (by assumption) (by assumption) _).mono ?_); rintro e w' ⟨rfl, ⟨nd, rfl⟩⟩) | (go_at_call 31; (with_reducible refine (far_any _ _ (by assumption) (by assumption) (by assumption) (by assumption) _).mono ?_); rintro e w' ⟨rfl, ⟨nd, rfl⟩⟩))
      go_ret2
      exact ⟨by rw [HR.out]; rfl, by repeat (first | exact Drawn0.refl _ | apply Drawn0.step)⟩

set_option maxHeartbeats 1000000 in
theorem within_out (a x b : Int) (h : (a < 0 ∨ 256 ≤ a) ∨ (x < 0 ∨ 256 ≤ x) ∨ (b < 0 ∨ 256 ≤ b)) (w : World) :
    Calls Try.prog 26 #[.int .i64 a, .int .i64 x, .int .i64 b] w fun e w' => e = .returned (.tuple #[.bool false, .int .i64 100]) ∧ Drawn0 w w' := by
  rcases split a with ⟨h0, h1⟩ | ha
  · rcases split x with ⟨x0, x1⟩ | hx
    · rcases split b with ⟨g0, g1⟩ | hb
      · omega
      · clear h
        go_enter Try.func26, Try.ntmps26
        go_wp2_with (first | (go_at_call 29; (with_reducible refine (place_yes _ (by assumption) (by assumption) _).mono ?_); rintro e w' ⟨rfl, ⟨nd, rfl⟩⟩) | (go_at_call 29; (with_reducible refine (place_no _ (by assumption) _).mono ?_); rintro e w' ⟨rfl, ⟨nd, rfl⟩⟩))
        go_ret2
        exact ⟨rfl, by repeat (first | exact Drawn0.refl _ | apply Drawn0.step)⟩
    · clear h
      go_enter Try.func26, Try.ntmps26
      go_wp2_with (first | (go_at_call 29; (with_reducible refine (place_yes _ (by assumption) (by assumption) _).mono ?_); rintro e w' ⟨rfl, ⟨nd, rfl⟩⟩) | (go_at_call 29; (with_reducible refine (place_no _ (by assumption) _).mono ?_); rintro e w' ⟨rfl, ⟨nd, rfl⟩⟩))
      go_ret2
      exact ⟨rfl, by repeat (first | exact Drawn0.refl _ | apply Drawn0.step)⟩
  · clear h
    go_enter Try.func26, Try.ntmps26
    go_wp2_with (first | (go_at_call 29; (with_reducible refine (place_no _ (by assumption) _).mono ?_); rintro e w' ⟨rfl, ⟨nd, rfl⟩⟩))
    go_ret2
    exact ⟨rfl, by repeat (first | exact Drawn0.refl _ | apply Drawn0.step)⟩

namespace Ref

theorem place_yes (a : Int) (h0 : 0 ≤ a) (h1 : a < 256) (w : World) :
    Calls Try.prog 30 #[.int .i64 a] w fun e w' => e = .returned (.bool true) ∧ Drawn0 w w' := by
  go_enter Try.func30, Try.ntmps30
  go_wp2
  go_ret
  exact ⟨by simp [h1], by repeat (first | exact Drawn0.refl _ | apply Drawn0.step)⟩

theorem place_no (a : Int) (h : a < 0 ∨ 256 ≤ a) (w : World) :
    Calls Try.prog 30 #[.int .i64 a] w fun e w' => e = .returned (.bool false) ∧ Drawn0 w w' := by
  rcases h with h | h
  · have h' : ¬ 0 ≤ a := by omega
    clear h
    go_enter Try.func30, Try.ntmps30
    go_wp2
    go_ret
    exact ⟨rfl, by repeat (first | exact Drawn0.refl _ | apply Drawn0.step)⟩
  · have h' : 0 ≤ a := by omega
    have h2 : ¬ a < 256 := by omega
    clear h
    go_enter Try.func30, Try.ntmps30
    go_wp2
    go_ret
    exact ⟨by simp [h2], by repeat (first | exact Drawn0.refl _ | apply Drawn0.step)⟩

theorem far_any (a b : Int) (h0 : 0 ≤ a) (h1 : a < 256) (g0 : 0 ≤ b) (g1 : b < 256) (w : World) :
    Calls Try.prog 32 #[.int .i64 a, .int .i64 b] w fun e w' => e = .returned (.int .i64 ((b - a) % 256)) ∧ Drawn0 w w' := by
  have hx : (b - a + 256) % 256 = (b - a) % 256 := by omega
  have HX := Aside0.mk hx
  clear hx
  go_enter Try.func32, Try.ntmps32
  go_wp2
  go_ret
  exact ⟨by rw [← HX.out]; rfl, by repeat (first | exact Drawn0.refl _ | apply Drawn0.step)⟩

theorem dist_in (a b : Int) (h0 : 0 ≤ a) (h1 : a < 256) (g0 : 0 ≤ b) (g1 : b < 256) (w : World) :
    Calls Try.prog 25 #[.int .i64 a, .int .i64 b] w fun e w' => e = .returned (.tuple #[.int .i64 ((b - a) % 256), .int .i64 0]) ∧ Drawn0 w w' := by
  go_enter Try.func25, Try.ntmps25
  go_wp2_with (first | (go_at_call 30; (with_reducible refine (place_yes _ (by assumption) (by assumption) _).mono ?_); rintro e w' ⟨rfl, ⟨nd, rfl⟩⟩) | (go_at_call 32; (with_reducible refine (far_any _ _ h0 h1 g0 g1 _).mono ?_); rintro e w' ⟨rfl, ⟨nd, rfl⟩⟩))
  go_ret2
  exact ⟨rfl, by repeat (first | exact Drawn0.refl _ | apply Drawn0.step)⟩

theorem dist_out (a b : Int) (h : (a < 0 ∨ 256 ≤ a) ∨ (b < 0 ∨ 256 ≤ b)) (w : World) :
    Calls Try.prog 25 #[.int .i64 a, .int .i64 b] w fun e w' => e = .returned (.tuple #[.int .i64 0, .int .i64 100]) ∧ Drawn0 w w' := by
  rcases split a with ⟨h0, h1⟩ | ha
  · rcases split b with ⟨g0, g1⟩ | hb
    · omega
    · clear h
      go_enter Try.func25, Try.ntmps25
      go_wp2_with (first | (go_at_call 30; (with_reducible refine (place_yes _ (by assumption) (by assumption) _).mono ?_); rintro e w' ⟨rfl, ⟨nd, rfl⟩⟩) | (go_at_call 30; (with_reducible refine (place_no _ (by assumption) _).mono ?_); rintro e w' ⟨rfl, ⟨nd, rfl⟩⟩))
      go_ret2
      exact ⟨rfl, by repeat (first | exact Drawn0.refl _ | apply Drawn0.step)⟩
  · clear h
    go_enter Try.func25, Try.ntmps25
    go_wp2_with (first | (go_at_call 30; (with_reducible refine (place_no _ (by assumption) _).mono ?_); rintro e w' ⟨rfl, ⟨nd, rfl⟩⟩))
    go_ret2
    exact ⟨rfl, by repeat (first | exact Drawn0.refl _ | apply Drawn0.step)⟩

set_option maxHeartbeats 1000000 in
theorem within_in (a x b : Int) (h0 : 0 ≤ a) (h1 : a < 256) (x0 : 0 ≤ x) (x1 : x < 256) (g0 : 0 ≤ b) (g1 : b < 256) (w : World) :
    Calls Try.prog 27 #[.int .i64 a, .int .i64 x, .int .i64 b] w fun e w' => e = .returned (.tuple #[.bool (inB a x b), .int .i64 0]) ∧ Drawn0 w w' := by
  by_cases c1 : a = b
  · have hr : inB a x b = true := by unfold inB; simp [c1]
    have HR := Aside0.mk hr
    have c1b : (a == b) = true := by simp [c1]
    clear hr c1
    go_enter Try.func27, Try.ntmps27
    go_wp2_with (first | (go_at_call 30; (with_reducible refine (place_yes _ (by assumption) (by assumption) _).mono ?_); rintro e w' ⟨rfl, ⟨nd, rfl⟩⟩) | (go_at_call 32; (with_reducible refine (far_any _ _ (by assumption) (by assumption) (by assumption) (by assumption) _).mono ?_); rintro e w' ⟨rfl, ⟨nd, rfl⟩⟩))
    go_ret2
    exact ⟨by rw [HR.out]; rfl, by repeat (first | exact Drawn0.refl _ | apply Drawn0.step)⟩
  · have c1b : (a == b) = false := by simp [c1]
    by_cases c2 : 0 < (x - a) % 256
    · have c2b : decide (0 < (x - a) % 256) = true := decide_eq_true c2
      have hr : inB a x b = decide ((x - a) % 256 ≤ (b - a) % 256) := by unfold inB; simp [c1, c2]
      have HR := Aside0.mk hr
      clear hr c1 c2
      go_enter Try.func27, Try.ntmps27
      go_wp2_with (first | (go_at_call 30; (with_reducible refine (place_yes _ (by assumption) (by assumption) _).mono ?_); rintro e w' ⟨rfl, ⟨nd, rfl⟩⟩) | (go_at_call 32; (with_reducible refine (far_any _ _ (by assumption) (by assumption) (by assumption) (by assumption) _).mono ?_); rintro e w' ⟨rfl, ⟨nd, rfl⟩⟩))
      go_ret2
      exact ⟨by rw [HR.out]; rfl, by repeat (first | exact Drawn0.refl _ | apply Drawn0.step)⟩
    · have c2b : decide (0 < (x - a) % 256) = false := decide_eq_false c2
      have hr : inB a x b = false := by unfold inB; simp [c1, c2]
      have HR := Aside0.mk hr
      clear hr c1 c2
      go_enter Try.func27, Try.ntmps27
      go_wp2_with (first | (go_at_call 30; (with_reducible refine (place_yes _ (by assumption) (by assumption) _).mono ?_); rintro e w' ⟨rfl, ⟨nd, rfl⟩⟩) | (go_at_call 32; (with_reducible refine (far_any _ _ (by assumption) (by assumption) (by assumption) (by assumption) _).mono ?_); rintro e w' ⟨rfl, ⟨nd, rfl⟩⟩))
      go_ret2
      exact ⟨by rw [HR.out]; rfl, by repeat (first | exact Drawn0.refl _ | apply Drawn0.step)⟩

set_option maxHeartbeats 1000000 in
theorem within_out (a x b : Int) (h : (a < 0 ∨ 256 ≤ a) ∨ (x < 0 ∨ 256 ≤ x) ∨ (b < 0 ∨ 256 ≤ b)) (w : World) :
    Calls Try.prog 27 #[.int .i64 a, .int .i64 x, .int .i64 b] w fun e w' => e = .returned (.tuple #[.bool false, .int .i64 100]) ∧ Drawn0 w w' := by
  rcases split a with ⟨h0, h1⟩ | ha
  · rcases split x with ⟨x0, x1⟩ | hx
    · rcases split b with ⟨g0, g1⟩ | hb
      · omega
      · clear h
        go_enter Try.func27, Try.ntmps27
        go_wp2_with (first | (go_at_call 30; (with_reducible refine (place_yes _ (by assumption) (by assumption) _).mono ?_); rintro e w' ⟨rfl, ⟨nd, rfl⟩⟩) | (go_at_call 30; (with_reducible refine (place_no _ (by assumption) _).mono ?_); rintro e w' ⟨rfl, ⟨nd, rfl⟩⟩))
        go_ret2
        exact ⟨rfl, by repeat (first | exact Drawn0.refl _ | apply Drawn0.step)⟩
    · clear h
      go_enter Try.func27, Try.ntmps27
      go_wp2_with (first | (go_at_call 30; (with_reducible refine (place_yes _ (by assumption) (by assumption) _).mono ?_); rintro e w' ⟨rfl, ⟨nd, rfl⟩⟩) | (go_at_call 30; (with_reducible refine (place_no _ (by assumption) _).mono ?_); rintro e w' ⟨rfl, ⟨nd, rfl⟩⟩))
      go_ret2
      exact ⟨rfl, by repeat (first | exact Drawn0.refl _ | apply Drawn0.step)⟩
  · clear h
    go_enter Try.func27, Try.ntmps27
    go_wp2_with (first | (go_at_call 30; (with_reducible refine (place_no _ (by assumption) _).mono ?_); rintro e w' ⟨rfl, ⟨nd, rfl⟩⟩))
    go_ret2
    exact ⟨rfl, by repeat (first | exact Drawn0.refl _ | apply Drawn0.step)⟩
end Ref
end Go.Proofs.Ytfhffalljkppkaa.Ring
