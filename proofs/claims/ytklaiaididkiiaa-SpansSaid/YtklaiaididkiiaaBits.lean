/- Plain arithmetic: x & (2^i - 1) of Go's int is x modulo 2^i, for every x. -/
import Derived.Laws.BitsLemmas
import Derived.RowKit
namespace Go.Proofs.Ytklaiaididkiiaa.Plain
open Go Go.RowKit

theorem and_mask (x : Int) (i : Nat) (hi : i ≤ 63) : Go.bits .and .i64 x (2 ^ i - 1) = x % 2 ^ i := by
  have hp : (0:Nat) < 2 ^ i := Nat.two_pow_pos i
  have hc : ((2 : Int) ^ i - 1) = ((2 ^ i - 1 : Nat) : Int) := by
    rw [Int.natCast_sub hp]; simp
  have h64 : (2:Nat)^i ≤ 2^63 := Nat.pow_le_pow_right (by decide) hi
  simp only [bits]
  have e1 : (BitVec.ofInt 64 (2^i - 1 : Int)).toNat = 2^i - 1 := by
    rw [hc, BitVec.ofInt_natCast, BitVec.toNat_ofNat]
    exact Nat.mod_eq_of_lt (by omega)
  have e2 : ((BitVec.ofInt 64 x).toNat : Int) = x % 2^64 := by
    rw [BitVec.toNat_ofInt]
    simp; omega
  have e3 : (((BitVec.ofInt 64 x).toNat &&& (2^i - 1) : Nat) : Int) = x % 2^i := by
    rw [Nat.and_two_pow_sub_one_eq_mod]
    have : (((BitVec.ofInt 64 x).toNat % 2^i : Nat) : Int) = ((BitVec.ofInt 64 x).toNat : Int) % ((2:Int)^i) := by simp
    rw [this, e2]
    have hd : ((2:Int)^i) ∣ 2^64 := by
      refine ⟨2^(64-i), ?_⟩
      rw [← Int.pow_add]; congr 1; omega
    exact Int.emod_emod_of_dvd x hd
  show IntKind.i64.wrap _ = _
  have : (BitVec.ofInt IntKind.i64.bits x &&& BitVec.ofInt IntKind.i64.bits (2 ^ i - 1)).toNat = (BitVec.ofInt 64 x).toNat &&& (2^i - 1) := by
    rw [BitVec.toNat_and]
    show (BitVec.ofInt 64 x).toNat &&& (BitVec.ofInt 64 (2 ^ i - 1)).toNat = _
    rw [e1]
  rw [this, e3, IntKind.wrap_i64]
  have hpi : (0:Int) < 2 ^ i := by exact_mod_cast hp
  have h1 : 0 ≤ x % 2^i := Int.emod_nonneg _ (Int.ne_of_gt hpi)
  have h2 : x % 2^i < 2^i := Int.emod_lt_of_pos _ hpi
  have h3 : ((2:Int) ^ i) ≤ 2 ^ 63 := by
    have e : ((2 ^ i : Nat) : Int) ≤ ((2 ^ 63 : Nat) : Int) := Int.ofNat_le.mpr h64
    rwa [Int.natCast_pow, Int.natCast_pow] at e
  have h4 : x % 2^i < 2 ^ 63 := Int.lt_of_lt_of_le h2 h3
  generalize x % 2^i = y at h1 h4 ⊢
  clear h2 h3 e3 hc h64 hpi
  have h5 : y < 9223372036854775808 := h4
  clear h4
  omega

theorem and1 (x : Int) : Go.bits .and .i64 x 1 = x % 2 := and_mask x 1 (by decide)
theorem and3 (x : Int) : Go.bits .and .i64 x 3 = x % 4 := and_mask x 2 (by decide)
theorem and255 (x : Int) : Go.bits .and .i64 x 255 = x % 256 := and_mask x 8 (by decide)
theorem and1023 (x : Int) : Go.bits .and .i64 x 1023 = x % 1024 := and_mask x 10 (by decide)
theorem and1048575 (x : Int) : Go.bits .and .i64 x 1048575 = x % 1048576 := and_mask x 20 (by decide)


theorem and7 (x : Int) : Go.bits .and .i64 x 7 = x % 8 := and_mask x 3 (by decide)
theorem and254 (x : Int) : 0 ≤ Go.bits .and .i64 x 254 ∧ Go.bits .and .i64 x 254 ≤ 254 := by
  have h : ∀ n : Nat, n ≤ 254 → IntKind.i64.wrap ((n : Nat) : Int) = (n : Int) := by
    intro n hn
    rw [IntKind.wrap_i64]
    omega
  simp only [bits]
  have e : (BitVec.ofInt IntKind.i64.bits x &&& BitVec.ofInt IntKind.i64.bits 254).toNat ≤ 254 := by
    rw [BitVec.toNat_and]
    exact Nat.le_trans Nat.and_le_right (by decide)
  rw [h _ e]
  omega

end Go.Proofs.Ytklaiaididkiiaa.Plain
