/- The walks of five laws of package ring, over the contracts of Ring; each answers true at every input. -/
import Derived.Test.YtfhffalljkppkaaRing
namespace Go.Proofs.Ytfhffalljkppkaa.RingLaws
set_option linter.unusedVariables false
set_option linter.unusedSimpArgs false
open Go.RowKit Go.Proofs.YtfhffalljkppkaaW.PrintWords Go.Proofs.YtfhffalljkppkaaW.PrintLast Go.Proofs.YtfhffalljkppkaaW.PrintMore Ring Plain

set_option maxHeartbeats 1000000 in
theorem awake_ (w : World) : Calls Try.prog 28 #[] w fun e w' => e = .returned (.bool true) ∧ Drawn0 w w' := by
  have f1 : inB 250 4 10 = true := by decide
  have f2 : inB 250 250 10 = false := by decide
  have f3 : inB 7 9 7 = true := by decide
  go_enter Try.func28, Try.ntmps28
  go_wp2_with (first | (go_at_call 20; (with_reducible refine (Ring.num_any _ _).mono ?_); rintro e w' ⟨rfl, ⟨nd, rfl⟩⟩) | (go_at_call 24; (with_reducible refine (Ring.dist_in _ _ (by omega) (by omega) (by omega) (by omega) _).mono ?_); rintro e w' ⟨rfl, ⟨nd, rfl⟩⟩) | (go_at_call 24; (with_reducible refine (Ring.dist_out _ _ (by omega) _).mono ?_); rintro e w' ⟨rfl, ⟨nd, rfl⟩⟩) | (go_at_call 26; (with_reducible refine (Ring.within_in _ _ _ (by omega) (by omega) (by omega) (by omega) (by omega) (by omega) _).mono ?_); rintro e w' ⟨rfl, ⟨nd, rfl⟩⟩) | (go_at_call 26; (with_reducible refine (Ring.within_out _ _ _ (by omega) _).mono ?_); rintro e w' ⟨rfl, ⟨nd, rfl⟩⟩) | (go_at_call 28; (with_reducible refine (awake_ _).mono ?_); rintro e w' ⟨rfl, ⟨nd, rfl⟩⟩))
  go_ret
  exact ⟨rfl, by repeat (first | exact Drawn0.refl _ | apply Drawn0.step)⟩

set_option maxHeartbeats 1000000 in
theorem around (a b c : Int) (w : World) :
    Calls Try.prog 9 #[.int .i64 a, .int .i64 b, .int .i64 c] w fun e w' => e = .returned (.bool true) ∧ Below w.heap.size w w' := by
  obtain ⟨x, hx⟩ : ∃ x, Go.bits .and .i64 a 255 = x := ⟨_, rfl⟩
  have x01 : 0 ≤ x ∧ x < 256 := by rw [← hx, and255]; omega
  obtain ⟨x0, x1⟩ := x01
  obtain ⟨y, hy⟩ : ∃ x, Go.bits .and .i64 b 255 = x := ⟨_, rfl⟩
  have y01 : 0 ≤ y ∧ y < 256 := by rw [← hy, and255]; omega
  obtain ⟨y0, y1⟩ := y01
  obtain ⟨z, hz⟩ : ∃ x, Go.bits .and .i64 c 255 = x := ⟨_, rfl⟩
  have z01 : 0 ≤ z ∧ z < 256 := by rw [← hz, and255]; omega
  obtain ⟨z0, z1⟩ := z01
  have h5 : (((y - x) % 256 == 0) == (x == y)) = true := by
    by_cases h : x = y
    · subst h; simp
    · have h' : ¬ ((y - x) % 256 = 0) := by omega
      rw [beq_eq_false_iff_ne.mpr h', beq_eq_false_iff_ne.mpr h]; rfl
  have H5 := Aside0.mk h5
  have b1 : 0 ≤ (y - x) % 256 := by omega
  have b2 : (y - x) % 256 < 256 := by omega
  have b3 : 0 ≤ (z - y) % 256 := by omega
  have b4 : (z - y) % 256 < 256 := by omega
  have b5 : 0 ≤ (x - y) % 256 := by omega
  have b6 : (x - y) % 256 < 256 := by omega
  have t1 : (((y - x) % 256 + (z - y) % 256) % 256 == (z - x) % 256) = true := by simp only [beq_iff_eq]; omega
  have t2 : (((y - x) % 256 + (x - y) % 256) % 256 == 0) = true := by simp only [beq_iff_eq]; omega
  clear h5
  go_enter Try.func9, Try.ntmps9
  go_wp2_with (first | (go_at_call 20; (with_reducible refine (Ring.num_any _ _).mono ?_); rintro e w' ⟨rfl, ⟨nd, rfl⟩⟩) | (go_at_call 24; (with_reducible refine (Ring.dist_in _ _ (by omega) (by omega) (by omega) (by omega) _).mono ?_); rintro e w' ⟨rfl, ⟨nd, rfl⟩⟩) | (go_at_call 24; (with_reducible refine (Ring.dist_out _ _ (by omega) _).mono ?_); rintro e w' ⟨rfl, ⟨nd, rfl⟩⟩) | (go_at_call 26; (with_reducible refine (Ring.within_in _ _ _ (by omega) (by omega) (by omega) (by omega) (by omega) (by omega) _).mono ?_); rintro e w' ⟨rfl, ⟨nd, rfl⟩⟩) | (go_at_call 26; (with_reducible refine (Ring.within_out _ _ _ (by omega) _).mono ?_); rintro e w' ⟨rfl, ⟨nd, rfl⟩⟩) | (go_at_call 28; (with_reducible refine (awake_ _).mono ?_); rintro e w' ⟨rfl, ⟨nd, rfl⟩⟩))
  go_ret
  exact ⟨by rw [← H5.out]; rfl, Drawn0.below (by repeat (first | exact Drawn0.refl _ | apply Drawn0.step))⟩

set_option maxHeartbeats 1000000 in
theorem rings (a x b : Int) (w : World) :
    Calls Try.prog 8 #[.int .i64 a, .int .i64 x, .int .i64 b] w fun e w' => e = .returned (.bool true) ∧ Below w.heap.size w w' := by
  rcases split a with ⟨a0, a1⟩ | ha
  · rcases split b with ⟨b0, b1⟩ | hb
    · rcases split x with ⟨x0, x1⟩ | hx
      · have t1 : ((b - a) % 256 == (b - a) % 256) = true := beq_self_eq_true _
        have t2 : (inB a x b == inB a x b) = true := beq_self_eq_true _
        go_enter Try.func8, Try.ntmps8
        go_wp2_with (first | (go_at_call 20; (with_reducible refine (Ring.num_any _ _).mono ?_); rintro e w' ⟨rfl, ⟨nd, rfl⟩⟩) | (go_at_call 24; (with_reducible refine (Ring.dist_in _ _ (by omega) (by omega) (by omega) (by omega) _).mono ?_); rintro e w' ⟨rfl, ⟨nd, rfl⟩⟩) | (go_at_call 24; (with_reducible refine (Ring.dist_out _ _ (by omega) _).mono ?_); rintro e w' ⟨rfl, ⟨nd, rfl⟩⟩) | (go_at_call 26; (with_reducible refine (Ring.within_in _ _ _ (by omega) (by omega) (by omega) (by omega) (by omega) (by omega) _).mono ?_); rintro e w' ⟨rfl, ⟨nd, rfl⟩⟩) | (go_at_call 26; (with_reducible refine (Ring.within_out _ _ _ (by omega) _).mono ?_); rintro e w' ⟨rfl, ⟨nd, rfl⟩⟩) | (go_at_call 28; (with_reducible refine (awake_ _).mono ?_); rintro e w' ⟨rfl, ⟨nd, rfl⟩⟩) | (go_at_call 25; (with_reducible refine (Ring.Ref.dist_in _ _ (by omega) (by omega) (by omega) (by omega) _).mono ?_); rintro e w' ⟨rfl, ⟨nd, rfl⟩⟩) | (go_at_call 25; (with_reducible refine (Ring.Ref.dist_out _ _ (by omega) _).mono ?_); rintro e w' ⟨rfl, ⟨nd, rfl⟩⟩) | (go_at_call 27; (with_reducible refine (Ring.Ref.within_in _ _ _ (by omega) (by omega) (by omega) (by omega) (by omega) (by omega) _).mono ?_); rintro e w' ⟨rfl, ⟨nd, rfl⟩⟩) | (go_at_call 27; (with_reducible refine (Ring.Ref.within_out _ _ _ (by omega) _).mono ?_); rintro e w' ⟨rfl, ⟨nd, rfl⟩⟩))
        go_ret
        exact ⟨rfl, Drawn0.below (by repeat (first | exact Drawn0.refl _ | apply Drawn0.step))⟩
      · have t1 : ((b - a) % 256 == (b - a) % 256) = true := beq_self_eq_true _
        go_enter Try.func8, Try.ntmps8
        go_wp2_with (first | (go_at_call 20; (with_reducible refine (Ring.num_any _ _).mono ?_); rintro e w' ⟨rfl, ⟨nd, rfl⟩⟩) | (go_at_call 24; (with_reducible refine (Ring.dist_in _ _ (by omega) (by omega) (by omega) (by omega) _).mono ?_); rintro e w' ⟨rfl, ⟨nd, rfl⟩⟩) | (go_at_call 24; (with_reducible refine (Ring.dist_out _ _ (by omega) _).mono ?_); rintro e w' ⟨rfl, ⟨nd, rfl⟩⟩) | (go_at_call 26; (with_reducible refine (Ring.within_in _ _ _ (by omega) (by omega) (by omega) (by omega) (by omega) (by omega) _).mono ?_); rintro e w' ⟨rfl, ⟨nd, rfl⟩⟩) | (go_at_call 26; (with_reducible refine (Ring.within_out _ _ _ (by omega) _).mono ?_); rintro e w' ⟨rfl, ⟨nd, rfl⟩⟩) | (go_at_call 28; (with_reducible refine (awake_ _).mono ?_); rintro e w' ⟨rfl, ⟨nd, rfl⟩⟩) | (go_at_call 25; (with_reducible refine (Ring.Ref.dist_in _ _ (by omega) (by omega) (by omega) (by omega) _).mono ?_); rintro e w' ⟨rfl, ⟨nd, rfl⟩⟩) | (go_at_call 25; (with_reducible refine (Ring.Ref.dist_out _ _ (by omega) _).mono ?_); rintro e w' ⟨rfl, ⟨nd, rfl⟩⟩) | (go_at_call 27; (with_reducible refine (Ring.Ref.within_in _ _ _ (by omega) (by omega) (by omega) (by omega) (by omega) (by omega) _).mono ?_); rintro e w' ⟨rfl, ⟨nd, rfl⟩⟩) | (go_at_call 27; (with_reducible refine (Ring.Ref.within_out _ _ _ (by omega) _).mono ?_); rintro e w' ⟨rfl, ⟨nd, rfl⟩⟩))
        go_ret
        exact ⟨rfl, Drawn0.below (by repeat (first | exact Drawn0.refl _ | apply Drawn0.step))⟩
    · go_enter Try.func8, Try.ntmps8
      go_wp2_with (first | (go_at_call 20; (with_reducible refine (Ring.num_any _ _).mono ?_); rintro e w' ⟨rfl, ⟨nd, rfl⟩⟩) | (go_at_call 24; (with_reducible refine (Ring.dist_in _ _ (by omega) (by omega) (by omega) (by omega) _).mono ?_); rintro e w' ⟨rfl, ⟨nd, rfl⟩⟩) | (go_at_call 24; (with_reducible refine (Ring.dist_out _ _ (by omega) _).mono ?_); rintro e w' ⟨rfl, ⟨nd, rfl⟩⟩) | (go_at_call 26; (with_reducible refine (Ring.within_in _ _ _ (by omega) (by omega) (by omega) (by omega) (by omega) (by omega) _).mono ?_); rintro e w' ⟨rfl, ⟨nd, rfl⟩⟩) | (go_at_call 26; (with_reducible refine (Ring.within_out _ _ _ (by omega) _).mono ?_); rintro e w' ⟨rfl, ⟨nd, rfl⟩⟩) | (go_at_call 28; (with_reducible refine (awake_ _).mono ?_); rintro e w' ⟨rfl, ⟨nd, rfl⟩⟩) | (go_at_call 25; (with_reducible refine (Ring.Ref.dist_in _ _ (by omega) (by omega) (by omega) (by omega) _).mono ?_); rintro e w' ⟨rfl, ⟨nd, rfl⟩⟩) | (go_at_call 25; (with_reducible refine (Ring.Ref.dist_out _ _ (by omega) _).mono ?_); rintro e w' ⟨rfl, ⟨nd, rfl⟩⟩) | (go_at_call 27; (with_reducible refine (Ring.Ref.within_in _ _ _ (by omega) (by omega) (by omega) (by omega) (by omega) (by omega) _).mono ?_); rintro e w' ⟨rfl, ⟨nd, rfl⟩⟩) | (go_at_call 27; (with_reducible refine (Ring.Ref.within_out _ _ _ (by omega) _).mono ?_); rintro e w' ⟨rfl, ⟨nd, rfl⟩⟩))
      go_ret
      exact ⟨rfl, Drawn0.below (by repeat (first | exact Drawn0.refl _ | apply Drawn0.step))⟩
  · go_enter Try.func8, Try.ntmps8
    go_wp2_with (first | (go_at_call 20; (with_reducible refine (Ring.num_any _ _).mono ?_); rintro e w' ⟨rfl, ⟨nd, rfl⟩⟩) | (go_at_call 24; (with_reducible refine (Ring.dist_in _ _ (by omega) (by omega) (by omega) (by omega) _).mono ?_); rintro e w' ⟨rfl, ⟨nd, rfl⟩⟩) | (go_at_call 24; (with_reducible refine (Ring.dist_out _ _ (by omega) _).mono ?_); rintro e w' ⟨rfl, ⟨nd, rfl⟩⟩) | (go_at_call 26; (with_reducible refine (Ring.within_in _ _ _ (by omega) (by omega) (by omega) (by omega) (by omega) (by omega) _).mono ?_); rintro e w' ⟨rfl, ⟨nd, rfl⟩⟩) | (go_at_call 26; (with_reducible refine (Ring.within_out _ _ _ (by omega) _).mono ?_); rintro e w' ⟨rfl, ⟨nd, rfl⟩⟩) | (go_at_call 28; (with_reducible refine (awake_ _).mono ?_); rintro e w' ⟨rfl, ⟨nd, rfl⟩⟩) | (go_at_call 25; (with_reducible refine (Ring.Ref.dist_in _ _ (by omega) (by omega) (by omega) (by omega) _).mono ?_); rintro e w' ⟨rfl, ⟨nd, rfl⟩⟩) | (go_at_call 25; (with_reducible refine (Ring.Ref.dist_out _ _ (by omega) _).mono ?_); rintro e w' ⟨rfl, ⟨nd, rfl⟩⟩) | (go_at_call 27; (with_reducible refine (Ring.Ref.within_in _ _ _ (by omega) (by omega) (by omega) (by omega) (by omega) (by omega) _).mono ?_); rintro e w' ⟨rfl, ⟨nd, rfl⟩⟩) | (go_at_call 27; (with_reducible refine (Ring.Ref.within_out _ _ _ (by omega) _).mono ?_); rintro e w' ⟨rfl, ⟨nd, rfl⟩⟩))
    go_ret
    exact ⟨rfl, Drawn0.below (by repeat (first | exact Drawn0.refl _ | apply Drawn0.step))⟩

set_option maxHeartbeats 1000000 in
theorem parts (a c b : Int) (w : World) :
    Calls Try.prog 11 #[.int .i64 a, .int .i64 c, .int .i64 b] w fun e w' => e = .returned (.bool true) ∧ Below w.heap.size w w' := by
  obtain ⟨p, hp⟩ : ∃ x, Go.bits .and .i64 a 255 = x := ⟨_, rfl⟩
  have p01 : 0 ≤ p ∧ p < 256 := by rw [← hp, and255]; omega
  obtain ⟨p0, p1⟩ := p01
  obtain ⟨y, hy⟩ : ∃ x, Go.bits .and .i64 c 255 = x := ⟨_, rfl⟩
  have y01 : 0 ≤ y ∧ y < 256 := by rw [← hy, and255]; omega
  obtain ⟨y0, y1⟩ := y01
  obtain ⟨q, hq⟩ : ∃ x, Go.bits .and .i64 b 255 = x := ⟨_, rfl⟩
  have q01 : 0 ≤ q ∧ q < 256 := by rw [← hq, and255]; omega
  obtain ⟨q0, q1⟩ := q01
  by_cases e : p = q
  · subst e
    have t1 : inB p y p = true := by unfold inB; simp
    go_enter Try.func11, Try.ntmps11
    go_wp2_with (first | (go_at_call 20; (with_reducible refine (Ring.num_any _ _).mono ?_); rintro e w' ⟨rfl, ⟨nd, rfl⟩⟩) | (go_at_call 24; (with_reducible refine (Ring.dist_in _ _ (by omega) (by omega) (by omega) (by omega) _).mono ?_); rintro e w' ⟨rfl, ⟨nd, rfl⟩⟩) | (go_at_call 24; (with_reducible refine (Ring.dist_out _ _ (by omega) _).mono ?_); rintro e w' ⟨rfl, ⟨nd, rfl⟩⟩) | (go_at_call 26; (with_reducible refine (Ring.within_in _ _ _ (by omega) (by omega) (by omega) (by omega) (by omega) (by omega) _).mono ?_); rintro e w' ⟨rfl, ⟨nd, rfl⟩⟩) | (go_at_call 26; (with_reducible refine (Ring.within_out _ _ _ (by omega) _).mono ?_); rintro e w' ⟨rfl, ⟨nd, rfl⟩⟩) | (go_at_call 28; (with_reducible refine (awake_ _).mono ?_); rintro e w' ⟨rfl, ⟨nd, rfl⟩⟩))
    go_ret
    exact ⟨rfl, Drawn0.below (by repeat (first | exact Drawn0.refl _ | apply Drawn0.step))⟩
  · have e1 : (p == q) = false := beq_eq_false_iff_ne.mpr e
    by_cases h1 : p = q ∨ 0 < (y - p) % 256 ∧ (y - p) % 256 ≤ (q - p) % 256
    · have h2 : ¬ (q = p ∨ 0 < (y - q) % 256 ∧ (y - q) % 256 ≤ (p - q) % 256) := by omega
      have t1 : inB p y q = true := decide_eq_true h1
      have t2 : inB q y p = false := decide_eq_false h2
      have t3 : (y == p) = false := beq_eq_false_iff_ne.mpr (by omega)
      have t4 : (y != p) = true := bne_iff_ne.mpr (by omega)
      clear h1 h2 e
      by_cases g : y = q
      · have g1 : (y == q) = true := beq_iff_eq.mpr g
        have g2 : (y != q) = false := by rw [bne, g1]; rfl
        clear g
        go_enter Try.func11, Try.ntmps11
        go_wp2_with (first | (go_at_call 20; (with_reducible refine (Ring.num_any _ _).mono ?_); rintro e w' ⟨rfl, ⟨nd, rfl⟩⟩) | (go_at_call 24; (with_reducible refine (Ring.dist_in _ _ (by omega) (by omega) (by omega) (by omega) _).mono ?_); rintro e w' ⟨rfl, ⟨nd, rfl⟩⟩) | (go_at_call 24; (with_reducible refine (Ring.dist_out _ _ (by omega) _).mono ?_); rintro e w' ⟨rfl, ⟨nd, rfl⟩⟩) | (go_at_call 26; (with_reducible refine (Ring.within_in _ _ _ (by omega) (by omega) (by omega) (by omega) (by omega) (by omega) _).mono ?_); rintro e w' ⟨rfl, ⟨nd, rfl⟩⟩) | (go_at_call 26; (with_reducible refine (Ring.within_out _ _ _ (by omega) _).mono ?_); rintro e w' ⟨rfl, ⟨nd, rfl⟩⟩) | (go_at_call 28; (with_reducible refine (awake_ _).mono ?_); rintro e w' ⟨rfl, ⟨nd, rfl⟩⟩))
        go_ret
        exact ⟨rfl, Drawn0.below (by repeat (first | exact Drawn0.refl _ | apply Drawn0.step))⟩
      · have g1 : (y == q) = false := beq_eq_false_iff_ne.mpr g
        have g2 : (y != q) = true := bne_iff_ne.mpr g
        clear g
        go_enter Try.func11, Try.ntmps11
        go_wp2_with (first | (go_at_call 20; (with_reducible refine (Ring.num_any _ _).mono ?_); rintro e w' ⟨rfl, ⟨nd, rfl⟩⟩) | (go_at_call 24; (with_reducible refine (Ring.dist_in _ _ (by omega) (by omega) (by omega) (by omega) _).mono ?_); rintro e w' ⟨rfl, ⟨nd, rfl⟩⟩) | (go_at_call 24; (with_reducible refine (Ring.dist_out _ _ (by omega) _).mono ?_); rintro e w' ⟨rfl, ⟨nd, rfl⟩⟩) | (go_at_call 26; (with_reducible refine (Ring.within_in _ _ _ (by omega) (by omega) (by omega) (by omega) (by omega) (by omega) _).mono ?_); rintro e w' ⟨rfl, ⟨nd, rfl⟩⟩) | (go_at_call 26; (with_reducible refine (Ring.within_out _ _ _ (by omega) _).mono ?_); rintro e w' ⟨rfl, ⟨nd, rfl⟩⟩) | (go_at_call 28; (with_reducible refine (awake_ _).mono ?_); rintro e w' ⟨rfl, ⟨nd, rfl⟩⟩))
        go_ret
        exact ⟨rfl, Drawn0.below (by repeat (first | exact Drawn0.refl _ | apply Drawn0.step))⟩
    · have h2 : (q = p ∨ 0 < (y - q) % 256 ∧ (y - q) % 256 ≤ (p - q) % 256) := by omega
      have t1 : inB p y q = false := decide_eq_false h1
      have t2 : inB q y p = true := decide_eq_true h2
      have t3 : (y == q) = false := beq_eq_false_iff_ne.mpr (by omega)
      have t4 : (y != q) = true := bne_iff_ne.mpr (by omega)
      clear h1 h2 e
      by_cases g : y = p
      · have g1 : (y == p) = true := beq_iff_eq.mpr g
        have g2 : (y != p) = false := by rw [bne, g1]; rfl
        clear g
        go_enter Try.func11, Try.ntmps11
        go_wp2_with (first | (go_at_call 20; (with_reducible refine (Ring.num_any _ _).mono ?_); rintro e w' ⟨rfl, ⟨nd, rfl⟩⟩) | (go_at_call 24; (with_reducible refine (Ring.dist_in _ _ (by omega) (by omega) (by omega) (by omega) _).mono ?_); rintro e w' ⟨rfl, ⟨nd, rfl⟩⟩) | (go_at_call 24; (with_reducible refine (Ring.dist_out _ _ (by omega) _).mono ?_); rintro e w' ⟨rfl, ⟨nd, rfl⟩⟩) | (go_at_call 26; (with_reducible refine (Ring.within_in _ _ _ (by omega) (by omega) (by omega) (by omega) (by omega) (by omega) _).mono ?_); rintro e w' ⟨rfl, ⟨nd, rfl⟩⟩) | (go_at_call 26; (with_reducible refine (Ring.within_out _ _ _ (by omega) _).mono ?_); rintro e w' ⟨rfl, ⟨nd, rfl⟩⟩) | (go_at_call 28; (with_reducible refine (awake_ _).mono ?_); rintro e w' ⟨rfl, ⟨nd, rfl⟩⟩))
        go_ret
        exact ⟨rfl, Drawn0.below (by repeat (first | exact Drawn0.refl _ | apply Drawn0.step))⟩
      · have g1 : (y == p) = false := beq_eq_false_iff_ne.mpr g
        have g2 : (y != p) = true := bne_iff_ne.mpr g
        clear g
        go_enter Try.func11, Try.ntmps11
        go_wp2_with (first | (go_at_call 20; (with_reducible refine (Ring.num_any _ _).mono ?_); rintro e w' ⟨rfl, ⟨nd, rfl⟩⟩) | (go_at_call 24; (with_reducible refine (Ring.dist_in _ _ (by omega) (by omega) (by omega) (by omega) _).mono ?_); rintro e w' ⟨rfl, ⟨nd, rfl⟩⟩) | (go_at_call 24; (with_reducible refine (Ring.dist_out _ _ (by omega) _).mono ?_); rintro e w' ⟨rfl, ⟨nd, rfl⟩⟩) | (go_at_call 26; (with_reducible refine (Ring.within_in _ _ _ (by omega) (by omega) (by omega) (by omega) (by omega) (by omega) _).mono ?_); rintro e w' ⟨rfl, ⟨nd, rfl⟩⟩) | (go_at_call 26; (with_reducible refine (Ring.within_out _ _ _ (by omega) _).mono ?_); rintro e w' ⟨rfl, ⟨nd, rfl⟩⟩) | (go_at_call 28; (with_reducible refine (awake_ _).mono ?_); rintro e w' ⟨rfl, ⟨nd, rfl⟩⟩))
        go_ret
        exact ⟨rfl, Drawn0.below (by repeat (first | exact Drawn0.refl _ | apply Drawn0.step))⟩

set_option maxHeartbeats 1000000 in
theorem forms (a c : Int) (w : World) :
    Calls Try.prog 10 #[.int .i64 a, .int .i64 c] w fun e w' => e = .returned (.bool true) ∧ Below w.heap.size w w' := by
  obtain ⟨d, hd⟩ : ∃ x, Go.bits .and .i64 c 1048575 = x := ⟨_, rfl⟩
  have d01 : 0 ≤ d ∧ d < 1048576 := by rw [← hd, and1048575]; omega
  obtain ⟨d0, d1⟩ := d01
  have hc0 : ∀ (n : Nat) (v0 v1 : Value), ((w.drewN n).alloc (.cells #[v0, v1] 3)).cell? ⟨w.heap.size, 0, none⟩ = some v0 :=
    fun n v0 v1 => World.cell?_alloc_at _ _ _ 0 (by simp)
  have hc1 : ∀ (n : Nat) (v0 v1 : Value), ((w.drewN n).alloc (.cells #[v0, v1] 3)).cell? ⟨w.heap.size, 1, none⟩ = some v1 :=
    fun n v0 v1 => World.cell?_alloc_at _ _ _ 1 (by simp)
  have hw : Go.bits .and .i64 a 1 = 0 ∨ Go.bits .and .i64 a 1 = 1 := by rw [and1]; omega
  have HB := Aside0.mk (Below.refl w.heap.size w)
  rcases hw with hw | hw
  · go_enter Try.func10, Try.ntmps10
    go_wp2_with (first | (go_at_call 20; (with_reducible refine (Ring.num_any _ _).mono ?_); rintro e w' ⟨rfl, ⟨nd, rfl⟩⟩) | (go_at_call 24; (with_reducible refine (Ring.dist_in _ _ (by omega) (by omega) (by omega) (by omega) _).mono ?_); rintro e w' ⟨rfl, ⟨nd, rfl⟩⟩) | (go_at_call 24; (with_reducible refine (Ring.dist_out _ _ (by omega) _).mono ?_); rintro e w' ⟨rfl, ⟨nd, rfl⟩⟩) | (go_at_call 26; (with_reducible refine (Ring.within_in _ _ _ (by omega) (by omega) (by omega) (by omega) (by omega) (by omega) _).mono ?_); rintro e w' ⟨rfl, ⟨nd, rfl⟩⟩) | (go_at_call 26; (with_reducible refine (Ring.within_out _ _ _ (by omega) _).mono ?_); rintro e w' ⟨rfl, ⟨nd, rfl⟩⟩) | (go_at_call 28; (with_reducible refine (awake_ _).mono ?_); rintro e w' ⟨rfl, ⟨nd, rfl⟩⟩))
    go_ret
    exact ⟨rfl, by repeat (first | (with_reducible first | exact HB.out | apply below_alloc | apply pw_below_drewN | apply below_drew1) | exact HB.out)⟩
  · go_enter Try.func10, Try.ntmps10
    go_wp2_with (first | (go_at_call 20; (with_reducible refine (Ring.num_any _ _).mono ?_); rintro e w' ⟨rfl, ⟨nd, rfl⟩⟩) | (go_at_call 24; (with_reducible refine (Ring.dist_in _ _ (by omega) (by omega) (by omega) (by omega) _).mono ?_); rintro e w' ⟨rfl, ⟨nd, rfl⟩⟩) | (go_at_call 24; (with_reducible refine (Ring.dist_out _ _ (by omega) _).mono ?_); rintro e w' ⟨rfl, ⟨nd, rfl⟩⟩) | (go_at_call 26; (with_reducible refine (Ring.within_in _ _ _ (by omega) (by omega) (by omega) (by omega) (by omega) (by omega) _).mono ?_); rintro e w' ⟨rfl, ⟨nd, rfl⟩⟩) | (go_at_call 26; (with_reducible refine (Ring.within_out _ _ _ (by omega) _).mono ?_); rintro e w' ⟨rfl, ⟨nd, rfl⟩⟩) | (go_at_call 28; (with_reducible refine (awake_ _).mono ?_); rintro e w' ⟨rfl, ⟨nd, rfl⟩⟩))
    go_ret
    exact ⟨rfl, by repeat (first | (with_reducible first | exact HB.out | apply below_alloc | apply pw_below_drewN | apply below_drew1) | exact HB.out)⟩

set_option maxHeartbeats 1000000 in
theorem turned (a c b d_ : Int) (w : World) :
    Calls Try.prog 12 #[.int .i64 a, .int .i64 c, .int .i64 b, .int .i64 d_] w fun e w' => e = .returned (.bool true) ∧ Below w.heap.size w w' := by
  obtain ⟨p, hp⟩ : ∃ x, Go.bits .and .i64 a 255 = x := ⟨_, rfl⟩
  have p01 : 0 ≤ p ∧ p < 256 := by rw [← hp, and255]; omega
  obtain ⟨p0, p1⟩ := p01
  obtain ⟨y, hy⟩ : ∃ x, Go.bits .and .i64 c 255 = x := ⟨_, rfl⟩
  have y01 : 0 ≤ y ∧ y < 256 := by rw [← hy, and255]; omega
  obtain ⟨y0, y1⟩ := y01
  obtain ⟨q, hq⟩ : ∃ x, Go.bits .and .i64 b 255 = x := ⟨_, rfl⟩
  have q01 : 0 ≤ q ∧ q < 256 := by rw [← hq, and255]; omega
  obtain ⟨q0, q1⟩ := q01
  obtain ⟨d, hd⟩ : ∃ x, Go.bits .and .i64 d_ 255 = x := ⟨_, rfl⟩
  have d01 : 0 ≤ d ∧ d < 256 := by rw [← hd, and255]; omega
  obtain ⟨d0, d1⟩ := d01
  have gp0 : 0 ≤ (p + d) % 256 := by omega
  have gp1 : (p + d) % 256 < 256 := by omega
  have gy0 : 0 ≤ (y + d) % 256 := by omega
  have gy1 : (y + d) % 256 < 256 := by omega
  have gq0 : 0 ≤ (q + d) % 256 := by omega
  have gq1 : (q + d) % 256 < 256 := by omega
  have t1 : ((q - p) % 256 == ((q + d) % 256 - (p + d) % 256) % 256) = true := by simp only [beq_iff_eq]; omega
  have h1 : ((y + d) % 256 - (p + d) % 256) % 256 = (y - p) % 256 := by omega
  have h2 : ((q + d) % 256 - (p + d) % 256) % 256 = (q - p) % 256 := by omega
  have h3 : ((p + d) % 256 = (q + d) % 256) ↔ p = q := by omega
  have t2 : inB ((p + d) % 256) ((y + d) % 256) ((q + d) % 256) = inB p y q := by
    unfold inB; rw [h1, h2]; simp only [h3]
  have T2 := Aside0.mk t2
  clear t2 h1 h2 h3
  go_enter Try.func12, Try.ntmps12
  go_wp2_with (first | (go_at_call 20; (with_reducible refine (Ring.num_any _ _).mono ?_); rintro e w' ⟨rfl, ⟨nd, rfl⟩⟩) | (go_at_call 24; (with_reducible refine (Ring.dist_in _ _ (by omega) (by omega) (by omega) (by omega) _).mono ?_); rintro e w' ⟨rfl, ⟨nd, rfl⟩⟩) | (go_at_call 24; (with_reducible refine (Ring.dist_out _ _ (by omega) _).mono ?_); rintro e w' ⟨rfl, ⟨nd, rfl⟩⟩) | (go_at_call 26; (with_reducible refine (Ring.within_in _ _ _ (by omega) (by omega) (by omega) (by omega) (by omega) (by omega) _).mono ?_); rintro e w' ⟨rfl, ⟨nd, rfl⟩⟩) | (go_at_call 26; (with_reducible refine (Ring.within_out _ _ _ (by omega) _).mono ?_); rintro e w' ⟨rfl, ⟨nd, rfl⟩⟩) | (go_at_call 28; (with_reducible refine (awake_ _).mono ?_); rintro e w' ⟨rfl, ⟨nd, rfl⟩⟩))
  go_ret
  exact ⟨by first | (rw [T2.out]; simp; done) | (simp [T2.out]; done), Drawn0.below (by repeat (first | exact Drawn0.refl _ | apply Drawn0.step))⟩
end Go.Proofs.Ytfhffalljkppkaa.RingLaws
