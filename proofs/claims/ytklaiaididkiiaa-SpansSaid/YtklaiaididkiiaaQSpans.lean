/- The walk of the law Spans: any items within the size bound, any places: span.Of is the reference's, and what was lent stays. -/
import Derived.Test.YtklaiaididkiiaaKept
namespace Go.Proofs.Ytklaiaididkiiaa.MS
open Go.RowKit Go.Proofs.YtklaiaididkiiaaW.PrintWords Go.Proofs.YtklaiaididkiiaaW.PrintLast Go.Proofs.YtklaiaididkiiaaW.PrintMore
set_option linter.unusedVariables false
set_option linter.unusedSimpArgs false

theorem rbyte (a : Int) : gimmalref1_byteMay.f a = item_Byte.f a := by
  unfold gimmalref1_byteMay.f item_Byte.f
  have : (decide (a ≤ 255)) = decide (a < 256) := by simp only [decide_eq_decide]; omega
  rw [this]
theorem rmay (k c x v : Int) (g : Bool) : gimmalref1_ItemMay.f k c x v g = item_May.f k c x v g := by
  unfold gimmalref1_ItemMay.f item_May.f
  rw [rbyte, rbyte]; rfl
theorem rwithin (k : Nat) (a x b : Int) : gimmalref1_Within.f (k + 1) a x b = ring_Within.f (k + 1) a x b := rfl
theorem rstore (xs : List S25) (k : Nat) : ∀ i : Int, 0 ≤ i → gimmalref1_StoreMay.l0 k xs i = store_May.l0 k xs xs xs.length i := by
  induction k with
  | zero => intro i _; rfl
  | succ k ih =>
    intro i h0
    simp only [gimmalref1_StoreMay.l0, store_May.l0]
    by_cases h1 : i < (xs.length : Int)
    · rw [if_pos h1, if_pos h1, if_pos h0, if_pos h0, if_pos h1, rmay]
      congr 1
      funext b
      by_cases hw : 0 ≤ wrap64 (i + 1)
      · rw [ih _ hw]
      · have hz : ∀ k, gimmalref1_StoreMay.l0 k xs (wrap64 (i + 1)) = store_May.l0 k xs xs xs.length (wrap64 (i + 1)) := by
          intro k
          cases k with
          | zero => rfl
          | succ k =>
            simp only [gimmalref1_StoreMay.l0, store_May.l0]
            rw [if_neg hw, if_neg hw]
        rw [hz]
    · rw [if_neg h1, if_neg h1]

theorem rspan_l0 (xs : List S25) (hn : xs.length ≤ 3518437208883) (x y : Int) (d : Nat) : ∀ (k i : Nat) (acc : List S25), i ≤ xs.length → xs.length - i = d → d + 1 < k →
    gimmalref1_Span.l0 k xs x y acc i = span_Of.l0 k x y acc xs xs.length i := by
  induction d with
  | zero =>
    intro k i acc h1 hd hk
    obtain ⟨k, rfl⟩ : ∃ m, k = m + 1 := ⟨k - 1, by omega⟩
    simp only [gimmalref1_Span.l0, span_Of.l0]; rw [if_neg (by omega), if_neg (by omega)]
  | succ d ih =>
    intro k i acc h1 hd hk
    obtain ⟨k, rfl⟩ : ∃ m, k = m + 1 := ⟨k - 1, by omega⟩
    obtain ⟨k', e'⟩ : ∃ m, k = m + 1 := ⟨k - 1, by omega⟩
    have hlt' : (i : Int) < (xs.length : Int) := by omega
    have i0 : (0 : Int) ≤ (i : Int) := by omega
    have hW := rwithin k' x (rd_T25 xs i).f0 y
    rw [← e'] at hW
    have hi1 : i + 1 ≤ xs.length := by omega
    have hd1 : xs.length - (i + 1) = d := by omega
    have hk1 : d + 1 < k := by omega
    have hw : wrap64 ((i : Int) + 1) = ((i + 1 : Nat) : Int) := by rw [wrap_next (by omega) hlt' hn]; omega
    simp only [gimmalref1_Span.l0, span_Of.l0]
    rw [if_pos hlt', if_pos hlt', if_pos i0, if_pos i0, if_pos hlt', hW, hw]
    congr 1
    funext b
    rw [ih k (i + 1) _ hi1 hd1 hk1, ih k (i + 1) _ hi1 hd1 hk1]

/-- The two tell the same, whatever is asked. -/
theorem both (k : Nat) (xs : List S25) (hn : xs.length ≤ 3518437208883) (hk : xs.length + 3 < k) (x y : Int) : ∃ r e, span_Of.f k xs x y = some (r, e) ∧ gimmalref1_Span.f k xs x y = some (r, e) ∧ r.length ≤ xs.length := by
  have heq : gimmalref1_Span.f k xs x y = span_Of.f k xs x y := by
    unfold gimmalref1_Span.f span_Of.f gimmalref1_StoreMay.f store_May.f
    rw [rstore xs k 0 (by omega)]
    have hp : ∀ a, gimmalref1_PlaceMay.f a = ring_Place.f a := fun _ => rfl
    rw [hp, hp]
    have hj : ∀ b, gimmalref1_Span.j0 k xs x y b = span_Of.j0 k xs x y b := by
      intro b
      obtain ⟨k, rfl⟩ : ∃ m, k = m + 1 := ⟨k - 1, by omega⟩
      simp only [gimmalref1_Span.j0, span_Of.j0]
      have := rspan_l0 xs hn x y xs.length k 0 [] (by omega) (by omega) (by omega)
      rw [show ((0 : Nat) : Int) = 0 from rfl] at this
      rw [this]
    congr 1; funext b
    congr 1
    · congr 1; funext b2
      congr 1
      · congr 1; funext b3; exact hj _
      · exact hj _
    · exact hj _
  rcases span_f k xs hn hk with h | ⟨h, _⟩
  · exact ⟨[], 600, h x y, by rw [heq]; exact h x y, by simp⟩
  · by_cases hx : 0 ≤ x ∧ x < 256
    · by_cases hy : 0 ≤ y ∧ y < 256
      · exact ⟨_, 0, h x y hx hy, by rw [heq]; exact h x y hx hy, List.length_filter_le _ _⟩
      · obtain ⟨b, hb, _⟩ := store_l0 xs hn xs.length k 0 (by omega) (by omega) (by omega) (by omega)
        have : span_Of.f k xs x y = some ([], 600) := by
          obtain ⟨k, rfl⟩ : ∃ m, k = m + 1 := ⟨k - 1, by omega⟩
          unfold span_Of.f store_May.f
          rw [hb, place_f, place_f, decide_eq_true hx, decide_eq_false hy]
          cases b <;> simp [span_Of.j0]
        exact ⟨[], 600, this, by rw [heq]; exact this, by simp⟩
    · obtain ⟨b, hb, _⟩ := store_l0 xs hn xs.length k 0 (by omega) (by omega) (by omega) (by omega)
      have : span_Of.f k xs x y = some ([], 600) := by
        obtain ⟨k, rfl⟩ : ∃ m, k = m + 1 := ⟨k - 1, by omega⟩
        unfold span_Of.f store_May.f
        rw [hb, place_f, place_f, decide_eq_false hx]
        cases b <;> simp [span_Of.j0]
      exact ⟨[], 600, this, by rw [heq]; exact this, by simp⟩

theorem spoil_l0 (n : Nat) (hn : n ≤ 3518437208883) (d : Nat) : ∀ (k : Nat) (i : Int) (xs : List S25), xs.length = n → 0 ≤ i → i ≤ n → (n : Int) - i = d → d < k → ∃ r, gimmallaw0_SpoilItems.l0 k xs i = some r := by
  induction d with
  | zero =>
    intro k i xs hl h0 h1 hd hk
    obtain ⟨k, rfl⟩ : ∃ m, k = m + 1 := ⟨k - 1, by omega⟩
    exact ⟨xs, by simp only [gimmallaw0_SpoilItems.l0]; rw [if_neg (by omega)]⟩
  | succ d ih =>
    intro k i xs hl h0 h1 hd hk
    obtain ⟨k, rfl⟩ : ∃ m, k = m + 1 := ⟨k - 1, by omega⟩
    have hlt : i < (xs.length : Int) := by omega
    simp only [gimmallaw0_SpoilItems.l0]
    rw [if_pos hlt, if_pos h0, wrap_next h0 hlt (by omega)]
    exact ih k (i + 1) _ (by rw [List.length_set]; exact hl) (by omega) (by omega) (by omega) (by omega)

theorem lend_some (xs : List S25) (hn : xs.length ≤ 3518437208780) : gimmallaw0_LendItems.f xs = some xs := by
  unfold gimmallaw0_LendItems.f gimmallaw0_CopyItems.f
  simp only [Option.bind_some, List.nil_append, List.length_nil]
  rw [if_pos (by omega)]
  simp only [Option.bind_some, List.length_cons, List.length_nil]
  rw [if_pos (by omega), if_pos (by omega), if_pos (by rw [List.length_append]; simp; omega)]
  rw [Int.toNat_natCast, List.take_left]

set_option maxHeartbeats 4000000 in
set_option maxRecDepth 100000 in
theorem Spans (A0 : Option Addr) (c0 : Nat) (l : List S25) (a1 a2 : Int) (w : World) (hr0 : Kd.C k25 w A0 l.length l) (hc0 : l.length ≤ c0) (hn : l.length ≤ 3518437208780) :
    Calls Try.prog 9 #[.slice A0 l.length c0, .int .i64 a1, .int .i64 a2] w fun e w' => e = .returned (.bool true) ∧ Below w.heap.size w w' := by
  obtain ⟨r, er, hs, hrf, hrl⟩ := both (l.length + 4) l (by omega) (by omega) a1 a2
  obtain ⟨r', hsp⟩ := spoil_l0 r.length (by omega) r.length (r.length + 1) 0 r rfl (by omega) (by omega) (by omega) (by omega)
  have HS := Aside0.mk hs
  have HRF := Aside0.mk hrf
  have HSP := Aside0.mk (show gimmallaw0_SpoilItems.f (r.length + 1) r = some r' from hsp)
  have HSM := Aside0.mk (same_f (r.length + 1) r (by omega) (by omega))
  have HLF := Aside0.mk (lend_some l hn)
  have HR0 := Aside0.mk hr0
  have HC0 := Aside0.mk hc0
  have HN := Aside0.mk hn
  have HAW := Aside0.mk (gimmallaw6_awake.is_true 0)
  have HB0 := Aside0.mk (Below.refl w.heap.size w)
  have hee : (er == er) = true := by simp
  have hne : (er != er) = false := by simp
  clear hs hrf hsp hr0 hc0 hrl hn
  go_enter Try.func9, Try.ntmps9
  go_wp2_with (first
    | (go_at_call 20; (with_reducible refine (lend_all A0 c0 l l _ HR0.out HC0.out HLF.out).mono ?_); rintro e w1 hL; obtain ⟨A, cA, rfl, ⟨y, hy, hR⟩, hb1⟩ := hL; obtain ⟨g, hg, hgb⟩ := R_head hR (by rw [hy]; simp); subst hg; have HF := Aside0.mk (Kd.R_reads' hR); have HB1 := Aside0.mk hb1; have HY := Aside0.mk hy; have HCR := Aside0.mk (show Kd.C k25 w1 (some ⟨g, 0, none⟩) (l.length + 2) (l ++ [mk, mk]) by have := (Kd.R_reads' hR).2.2; rw [hy, List.length_append] at this; exact this); have HCA := Aside0.mk (show l.length + 2 ≤ cA by have := (Kd.R_reads' hR).2.1; rw [hy] at this; simpa using this); have HA1 := Aside0.mk (Kd.C_below HR0.out hb1); clear hR hb1 hy hgb)
    | (go_at_call 21; (with_reducible refine (span_Of.calls (l.length + 4) _ _ l a1 a2 r er _ (C_head HCR.out rfl) (by have := HCA.out; omega) HS.out).mono ?_); rintro e w2 ⟨v8, rfl, hR2, hb2⟩; have HR2 := Aside0.mk hR2; have HB2 := Aside0.mk hb2; have HA2 := Aside0.mk (Kd.C_below HA1.out hb2); obtain ⟨A8, c8, e8⟩ := Kd.R_slice hR2; subst e8; clear hR2 hb2)
    | (go_at_call 22; (with_reducible refine (gimmalref1_Span.calls (l.length + 4) _ _ l a1 a2 r er _ HA2.out HC0.out HRF.out).mono ?_); rintro e w3 ⟨v10, rfl, hR3, hb3⟩; have HR3 := Aside0.mk (Kd.R_below HR2.out hb3); have HB3 := Aside0.mk hb3; have HX3 := Aside0.mk hR3; have HA3 := Aside0.mk (Kd.C_below HA2.out hb3); obtain ⟨A10, c10, e10⟩ := Kd.R_slice hR3; subst e10; clear hR3 hb3)
    | (go_at_call 23; (with_reducible refine (gimmallaw0_SameItems.calls (r.length + 1) _ _ r _ _ r true _ (Kd.R_reads' HR3.out).2.2 (Kd.R_reads' HR3.out).2.1 (Kd.R_reads' HX3.out).2.2 (Kd.R_reads' HX3.out).2.1 HSM.out).mono ?_); rintro e w' ⟨rfl, ⟨nd, rfl⟩⟩)
    | (go_at_call 15; (with_reducible refine (gimmallaw0_Num.calls er er _ rfl).mono ?_); rintro e w' ⟨rfl, ⟨nd, rfl⟩⟩)
    | (go_at_call 24; (with_reducible refine (gimmallaw0_SpoilItems.calls (r.length + 1) (fun _ => True) _ r r' w1 _ (pw_below_drewN (below_step HB2.out HB3.out) _) (Kd.R_drewN HR3.out _) HSP.out).mono ?_); rintro e w5 ⟨rfl, -, hb5, -⟩; have HB5 := Aside0.mk hb5; clear hb5)
    | (go_at_call 25; (with_reducible refine (kept_yes g cA c0 A0 l _ (Kd.C_below HCR.out HB5.out) HCA.out (Kd.C_below HA1.out HB5.out) HC0.out (by have := HN.out; omega)).mono ?_); rintro e w' ⟨rfl, ⟨nd, rfl⟩⟩)
    | (go_at_call 26; (with_reducible refine (gimmallaw6_awake.calls 20 true _ HAW.out).mono ?_); rintro e w6 ⟨rfl, hb6⟩; have HB6 := Aside0.mk hb6; clear hb6))
  go_ret
  exact ⟨by first | rfl | (simp; done), below_step (pw_below_drewN (below_step HB1.out HB5.out) _) HB6.out⟩
end Go.Proofs.Ytklaiaididkiiaa.MS
