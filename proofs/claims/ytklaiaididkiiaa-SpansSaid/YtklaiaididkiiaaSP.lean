/- Over numbers and lists alone: what span.Of answers, and a walk along two parts of a list at once. Conditions: as each says. -/
import Derived.Test.YtklaiaididkiiaaMSw
import Derived.Test.YtklaiaididkiiaaBits
namespace Go.Proofs.Ytklaiaididkiiaa.MS
open Go.RowKit Go.Proofs.YtklaiaididkiiaaW.PrintWords Go.Proofs.YtklaiaididkiiaaW.PrintLast

theorem place_f (a : Int) : ring_Place.f a = some (decide (0 ≤ a ∧ a < 256)) := by
  unfold ring_Place.f
  by_cases h : a ≥ 0
  · rw [if_pos h]; congr 1; simp only [decide_eq_decide]; omega
  · rw [if_neg h]; congr 1; symm; simp only [decide_eq_false_iff_not]; omega
theorem byte_f (a : Int) : item_Byte.f a = some (decide (0 ≤ a ∧ a < 256)) := place_f a
theorem vmay_f (c w : Int) : ∃ b, version_May.f c w = some b := by
  unfold version_May.f
  rw [place_f]
  split
  · split <;> exact ⟨_, rfl⟩
  · exact ⟨_, rfl⟩
theorem imay_f (k c x v : Int) (g : Bool) : ∃ b, item_May.f k c x v g = some b ∧ (b = true → 0 ≤ k ∧ k < 256) := by
  unfold item_May.f
  obtain ⟨b, hb⟩ := vmay_f c x
  rw [byte_f, byte_f, hb]
  simp only [Option.bind_some]
  by_cases h : 0 ≤ k ∧ k < 256
  · rw [decide_eq_true h, if_pos rfl]
    by_cases h2 : 0 ≤ v ∧ v < 256
    · rw [decide_eq_true h2, if_pos rfl]
      cases b
      · exact ⟨_, rfl, fun _ => h⟩
      · cases g <;> exact ⟨_, rfl, fun _ => h⟩
    · rw [decide_eq_false h2]
      exact ⟨_, rfl, fun _ => h⟩
  · rw [decide_eq_false h]
    exact ⟨_, rfl, fun e => by cases e⟩

theorem far_f (a b : Int) (ha : 0 ≤ a ∧ a < 256) (hb : 0 ≤ b ∧ b < 256) : ring_Far.f a b = some ((b - a) % 256) := by
  unfold ring_Far.f wrap64
  rw [Int.tmod_eq_emod_of_nonneg (by omega)]
  congr 1; omega
/-- Is a place behind another one, and not behind a third one? -/
def inB (a x b : Int) : Bool := decide (a = b ∨ 0 < (x - a) % 256 ∧ (x - a) % 256 ≤ (b - a) % 256)
theorem within_f (k : Nat) (a x b : Int) (ha : 0 ≤ a ∧ a < 256) (hx : 0 ≤ x ∧ x < 256) (hb : 0 ≤ b ∧ b < 256) :
    ring_Within.f (k + 1) a x b = some (inB a x b, 0) := by
  unfold ring_Within.f inB
  rw [place_f, place_f, place_f]; simp only [ha, hb, hx, and_self, decide_true, Option.bind_some, if_true, ring_Within.j0]
  rw [far_f a x ha hx, far_f a b ha hb]
  by_cases e : a = b
  · simp [e]
  · by_cases p : 0 < (x - a) % 256
    · simp [e, p]
    · simp [e, p]

theorem wrap_next {i : Int} {n : Nat} (h0 : 0 ≤ i) (h : i < (n : Int)) (hn : n ≤ 3518437208883) : wrap64 (i + 1) = i + 1 := by
  unfold wrap64; omega

/-- store.May tells whether; if so, all keys are places. -/
theorem store_l0 (xs : List S25) (hn : xs.length ≤ 3518437208883) (d : Nat) : ∀ (k : Nat) (i : Int), 0 ≤ i → i ≤ xs.length → (xs.length : Int) - i = d → d < k →
    ∃ b, store_May.l0 k xs xs xs.length i = some b ∧ (b = true → ∀ j : Nat, i ≤ j → j < xs.length → 0 ≤ (rd_T25 xs j).f0 ∧ (rd_T25 xs j).f0 < 256) := by
  induction d with
  | zero =>
    intro k i h0 h1 hd hk
    obtain ⟨k, rfl⟩ : ∃ m, k = m + 1 := ⟨k - 1, by omega⟩
    refine ⟨decide ((xs.length : Int) ≤ 16), ?_, fun _ j hj hj' => by omega⟩
    simp only [store_May.l0]; rw [if_neg (by omega)]
  | succ d ih =>
    intro k i h0 h1 hd hk
    obtain ⟨k, rfl⟩ : ∃ m, k = m + 1 := ⟨k - 1, by omega⟩
    have hlt : i < (xs.length : Int) := by omega
    obtain ⟨b, hb, hkey⟩ := imay_f (rd_T25 xs i).f0 (rd_T25 xs i).f1.f0 (rd_T25 xs i).f1.f1 (rd_T25 xs i).f2 (rd_T25 xs i).f3
    simp only [store_May.l0]
    rw [if_pos hlt, if_pos h0, if_pos hlt, hb]
    simp only [Option.bind_some]
    cases b with
    | false => exact ⟨false, rfl, fun e => by cases e⟩
    | true =>
      rw [if_pos rfl]
      have hw : wrap64 (i + 1) = i + 1 := wrap_next h0 hlt hn
      rw [hw]
      obtain ⟨b', hb', hks⟩ := ih k (i + 1) (by omega) (by omega) (by omega) (by omega)
      have fin : b' = true → ∀ j : Nat, i ≤ j → j < xs.length → 0 ≤ (rd_T25 xs j).f0 ∧ (rd_T25 xs j).f0 < 256 := by
        intro e j hj hj'
        by_cases ej : (j : Int) = i
        · rw [ej]; exact hkey rfl
        · exact hks e j (by omega) hj'
      by_cases hi : i > 0
      · rw [if_pos hi]
        have hw1 : wrap64 (i - 1) = i - 1 := by unfold wrap64; omega
        rw [hw1, if_pos (by omega), if_pos (by omega)]
        by_cases hg : (rd_T25 xs (i - 1)).f0 ≥ (rd_T25 xs i).f0
        · rw [if_pos hg]; exact ⟨false, rfl, fun e => by cases e⟩
        · rw [if_neg hg]; exact ⟨b', hb', fin⟩
      · rw [if_neg hi]; exact ⟨b', hb', fin⟩

theorem rd_get (xs : List S25) (j : Nat) (h : j < xs.length) : rd_T25 xs j = xs[j] := by
  unfold rd_T25
  rw [Int.toNat_natCast, List.getD_eq_getElem?_getD, List.getElem?_eq_getElem h]; rfl

theorem span_l0 (xs : List S25) (hn : xs.length ≤ 3518437208883) (x y : Int) (hx : 0 ≤ x ∧ x < 256) (hy : 0 ≤ y ∧ y < 256)
    (hkeys : ∀ j : Nat, j < xs.length → 0 ≤ (rd_T25 xs j).f0 ∧ (rd_T25 xs j).f0 < 256) (d : Nat) : ∀ (k i : Nat) (acc : List S25), i ≤ xs.length → xs.length - i = d → d + 1 < k → acc.length ≤ i →
    span_Of.l0 k x y acc xs xs.length i = some (acc ++ (xs.drop i).filter (fun e => inB x e.f0 y), 0) := by
  induction d with
  | zero =>
    intro k i acc h1 hd hk ha
    obtain ⟨k, rfl⟩ : ∃ m, k = m + 1 := ⟨k - 1, by omega⟩
    simp only [span_Of.l0]; rw [if_neg (by omega), List.drop_of_length_le (by omega)]; simp
  | succ d ih =>
    intro k i acc h1 hd hk ha
    obtain ⟨k, rfl⟩ : ∃ m, k = m + 1 := ⟨k - 1, by omega⟩
    obtain ⟨k', e'⟩ : ∃ m, k = m + 1 := ⟨k - 1, by omega⟩
    have hlt : i < xs.length := by omega
    have hlt' : (i : Int) < (xs.length : Int) := by omega
    have hk' := hkeys i hlt
    have hW := within_f k' _ _ _ hx hk' hy
    rw [← e'] at hW
    simp only [span_Of.l0]
    rw [if_pos hlt', if_pos (by omega), if_pos hlt', hW]
    simp only [Option.bind_some]
    have hw : wrap64 ((i : Int) + 1) = ((i + 1 : Nat) : Int) := by rw [wrap_next (by omega) hlt' hn]; omega
    rw [hw, List.drop_eq_getElem_cons hlt, List.filter_cons, ← rd_get xs i hlt]
    clear hw
    by_cases e : inB x (rd_T25 xs i).f0 y = true
    · have hac : acc.length < 3518437208883 := Nat.lt_of_le_of_lt ha (Nat.lt_of_lt_of_le hlt hn)
      rw [if_pos e, if_pos hac, if_pos e]
      have hl : (acc ++ [rd_T25 xs (i : Int)]).length ≤ i + 1 := by rw [List.length_append]; simp only [List.length_cons, List.length_nil]; omega
      refine (ih k (i + 1) (acc ++ [rd_T25 xs (i : Int)]) (by omega) (by omega) (by omega) hl).trans ?_
      rw [List.append_assoc]; rfl
    · rw [if_neg e, if_neg e]
      exact ih k (i + 1) acc (by omega) (by omega) (by omega) (by omega)

/-- span.Of: refused; or the items whose keys lie in the part. One answer of store.May decides, whatever places are asked. -/
theorem span_f (k : Nat) (xs : List S25) (hn : xs.length ≤ 3518437208883) (hk : xs.length + 3 < k) :
    (∀ x y, span_Of.f k xs x y = some ([], 600)) ∨
    (∀ x y : Int, 0 ≤ x ∧ x < 256 → 0 ≤ y ∧ y < 256 → span_Of.f k xs x y = some (xs.filter (fun e => inB x e.f0 y), 0)) ∧ (∀ e ∈ xs, 0 ≤ e.f0 ∧ e.f0 < 256) := by
  obtain ⟨b, hb, hkeys⟩ := store_l0 xs hn xs.length k 0 (by omega) (by omega) (by omega) (by omega)
  obtain ⟨k, rfl⟩ : ∃ m, k = m + 1 := ⟨k - 1, by omega⟩
  cases b with
  | false =>
    left
    intro x y
    unfold span_Of.f store_May.f
    rw [hb]; simp only [Option.bind_some]
    rw [if_neg (by decide)]
    simp only [span_Of.j0, if_true]
  | true =>
    right
    constructor
    · intro x y hx hy
      unfold span_Of.f store_May.f
      rw [hb, place_f, place_f, decide_eq_true hx, decide_eq_true hy]; simp only [Option.bind_some, if_true, Bool.not_true]
      simp only [span_Of.j0, Bool.false_eq_true, if_false]
      have := span_l0 xs hn x y hx hy (fun j hj => hkeys rfl j (by omega) hj) xs.length k 0 [] (by omega) (by omega) (by omega) (by simp)
      simpa using this
    · intro e he
      obtain ⟨j, hj, rfl⟩ := List.getElem_of_mem he
      rw [← rd_get xs j hj]
      exact hkeys rfl j (by omega) hj

/-- Items are equal where all their parts are. -/
def eqB (a b : S25) : Bool := a.f0 == b.f0 && ((a.f1.f0 == b.f1.f0 && (a.f1.f1 == b.f1.f1)) && (a.f2 == b.f2 && (a.f3 == b.f3)))
theorem eqB_iff (a b : S25) : eqB a b = true ↔ a = b := by
  obtain ⟨a0, ⟨a1, a2⟩, a3, a4⟩ := a
  obtain ⟨b0, ⟨b1, b2⟩, b3, b4⟩ := b
  unfold eqB
  simp only [Bool.and_eq_true, beq_iff_eq, S25.mk.injEq, S23.mk.injEq]

theorem u64_w (n : Int) : IntKind.u64.wrap n = n % 18446744073709551616 := by simp [IntKind.wrap, IntKind.bits, IntKind.signed]

theorem same_l0 (xs : List S25) (hn : xs.length ≤ 3518437208883) (d : Nat) : ∀ (k : Nat) (i : Int), 0 ≤ i → i ≤ xs.length → (xs.length : Int) - i = d → d < k → gimmallaw0_SameItems.l0 k xs xs i = some true := by
  induction d with
  | zero =>
    intro k i h0 h1 hd hk
    obtain ⟨k, rfl⟩ : ∃ m, k = m + 1 := ⟨k - 1, by omega⟩
    simp only [gimmallaw0_SameItems.l0]; rw [if_neg (by omega)]
  | succ d ih =>
    intro k i h0 h1 hd hk
    obtain ⟨k, rfl⟩ : ∃ m, k = m + 1 := ⟨k - 1, by omega⟩
    have hlt : i < (xs.length : Int) := by omega
    simp only [gimmallaw0_SameItems.l0]
    rw [if_pos hlt, if_pos h0, if_pos hlt, wrap_next h0 hlt hn, ih k (i + 1) (by omega) (by omega) (by omega) (by omega)]
    simp
theorem same_f (k : Nat) (xs : List S25) (hn : xs.length ≤ 3518437208883) (hk : xs.length < k) : gimmallaw0_SameItems.f k xs xs = some true := by
  unfold gimmallaw0_SameItems.f
  rw [if_pos rfl]
  exact same_l0 xs hn xs.length k 0 (by omega) (by omega) (by omega) hk

theorem rd_append (A B : List S25) (x : S25) : rd_T25 (A ++ x :: B) (A.length : Int) = x := by
  unfold rd_T25
  rw [Int.toNat_natCast, List.getD_eq_getElem?_getD]
  simp
theorem filter_none {p : S25 → Bool} {xs : List S25} (a : S25) (h : a ∈ xs.filter p) : p a = true := (List.mem_filter.1 h).2

end Go.Proofs.Ytklaiaididkiiaa.MS
