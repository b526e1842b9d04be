/- The walk of half.Put: a word with another field. -/
import Derived.Test.YtkkhoiahjmfibaaHalf
import Derived.Test.YtkkhoiahjmfibaaCells
namespace Go.Proofs.Ytkkhoiahjmfibaa
open Go.RowKit
set_option linter.unusedVariables false

/-- A word with another field. -/
def putN (a at_ width v : Nat) : Nat := 2 ^ at_ * (2 ^ width * (a / 2 ^ (at_ + width)) + v) + a % 2 ^ at_

theorem putBits (a at_ width v : Nat) (ha : a < 18446744073709551616) (hv : v < 2 ^ width) (h : at_ + width ≤ 64) :
    (a &&& (18446744073709551615 - (2 ^ width - 1) * 2 ^ at_)) ||| (v * 2 ^ at_) = putN a at_ width v := by
  apply Nat.eq_of_testBit_eq
  intro j
  have e0 : 18446744073709551615 - (2 ^ width - 1) * 2 ^ at_ = 2 ^ 64 - ((2 ^ width - 1) * 2 ^ at_ + 1) := by omega
  have hm : (2 ^ width - 1) * 2 ^ at_ < 2 ^ 64 := by
    have h1 := pow_mono h
    have h2 := pow_pos' at_
    have h3 := pow_pos' width
    rw [Nat.add_comm, Nat.pow_add] at h1
    rw [Nat.sub_mul, Nat.one_mul]
    omega
  have hmb : ((2 ^ width - 1) * 2 ^ at_).testBit j = decide (at_ ≤ j ∧ j < at_ + width) := by
    rw [Nat.testBit_mul_two_pow, Nat.testBit_two_pow_sub_one]
    by_cases h1 : at_ ≤ j
    · simp [h1]; omega
    · simp [h1]
  rw [Nat.testBit_or, Nat.testBit_and, e0, Nat.testBit_two_pow_sub_succ hm, hmb, Nat.testBit_mul_two_pow, putN, Nat.testBit_two_pow_mul_add _ (Nat.mod_lt _ (by have := pow_pos' at_; omega))]
  by_cases h1 : j < at_
  · have h2 : ¬ at_ ≤ j := by omega
    have h3 : j < 64 := by omega
    simp [h1, h2, h3, Nat.testBit_mod_two_pow]
  · have h2 : at_ ≤ j := by omega
    rw [if_neg h1, Nat.testBit_two_pow_mul_add _ hv]
    by_cases h4 : j - at_ < width
    · have h5 : j < at_ + width := by omega
      simp [h2, h4, h5]
    · have h5 : ¬ j < at_ + width := by omega
      have h6 : v.testBit (j - at_) = false := Nat.testBit_lt_two_pow (Nat.lt_of_lt_of_le hv (pow_mono (by omega)))
      rw [if_neg h4, Nat.testBit_div_two_pow, show j - at_ - width + (at_ + width) = j from by omega, h6]
      by_cases h7 : j < 64
      · simp [h2, h5, h7]
      · have h8 : a.testBit j = false := Nat.testBit_lt_two_pow (Nat.lt_of_lt_of_le ha (pow_mono (a := 64) (by omega)))
        simp [h8]

theorem putVal (a at_ width v : Nat) (ha : a < 18446744073709551616) (hv : v < 2 ^ width) (h : at_ + width ≤ 64) :
    bits .or .u64 (bits .andNot .u64 (a : Int) (IntKind.u64.wrap (((2 ^ width - 1 : Nat) : Int) * 2 ^ at_))) (IntKind.u64.wrap ((v : Int) * 2 ^ at_)) = ((putN a at_ width v : Nat) : Int) := by
  have h1 := pow_mono h
  have e64 : (2 : Nat) ^ 64 = 18446744073709551616 := rfl
  have h2 := pow_pos' at_
  have h3 := pow_pos' width
  rw [Nat.pow_add] at h1
  have hm : (2 ^ width - 1) * 2 ^ at_ < 18446744073709551616 := by
    rw [Nat.sub_mul, Nat.one_mul, Nat.mul_comm]
    omega
  have hv2 : v * 2 ^ at_ < 18446744073709551616 := by
    have := Nat.mul_le_mul_right (2 ^ at_) (show v ≤ 2 ^ width - 1 by omega)
    omega
  have w1 : IntKind.u64.wrap (((2 ^ width - 1 : Nat) : Int) * 2 ^ at_) = (((2 ^ width - 1) * 2 ^ at_ : Nat) : Int) := by
    rw [show (2 : Int) ^ at_ = ((2 ^ at_ : Nat) : Int) from by rw [Int.natCast_pow]; rfl, ← Int.natCast_mul]
    exact IntWalk.u64_in _ (by omega)
  have w2 : IntKind.u64.wrap ((v : Int) * 2 ^ at_) = ((v * 2 ^ at_ : Nat) : Int) := by
    rw [show (2 : Int) ^ at_ = ((2 ^ at_ : Nat) : Int) from by rw [Int.natCast_pow]; rfl, ← Int.natCast_mul]
    exact IntWalk.u64_in _ (by omega)
  have h4 : a &&& (18446744073709551615 - (2 ^ width - 1) * 2 ^ at_) < 18446744073709551616 := Nat.lt_of_le_of_lt Nat.and_le_left ha
  rw [w1, w2, u64_andNot_nat a _ ha hm, u64_or_nat _ _ h4 hv2, putBits a at_ width v ha hv h]

theorem halfPut (a at_ width v : Nat) (w : World) (ha : a < 18446744073709551616) (h0 : 1 ≤ width) (h1 : at_ + width ≤ 64) (hv : v < 2 ^ width) :
    Calls Try.prog 89 #[.int .u64 a, .int .i64 at_, .int .i64 width, .int .u64 v] w fun e w' => e = .returned (.tuple #[.int .u64 (putN a at_ width v : Nat), .bool true]) ∧ ∃ n, w' = w.drewN n := by
  have d : decide (((2 ^ width - 1 : Nat) : Int) < (v : Int)) = false := by simp; omega
  have H := hid (putVal a at_ width v ha hv h1)
  go_enter Try.func89, Try.ntmps89
  go_wp2_with (first
    | (go_at_call 112; refine (halfField _ _ _ (by omega) (by omega) (by omega)).mono ?_; rintro e w' ⟨rfl, rfl⟩)
    | (go_at_call 113; refine (halfMask _ _ (by omega) (by omega)).mono ?_; rintro e w' ⟨rfl, rfl⟩))
  go_quiet ((go_at_call 113; exact quietEq (halfMask _ _ (by omega) (by omega))))
  go_wp2
  go_ret2
  exact ⟨by rw [← H.out]; rfl, _, rfl⟩

/-- .. at integers that are not below 0. -/
theorem halfPutI (a v : Int) (at_ width : Nat) (w : World) (a0 : 0 ≤ a) (ha : a < 18446744073709551616) (h0 : 1 ≤ width) (h1 : at_ + width ≤ 64) (v0 : 0 ≤ v) (hv : v < ((2 ^ width : Nat) : Int)) :
    Calls Try.prog 89 #[.int .u64 a, .int .i64 at_, .int .i64 width, .int .u64 v] w fun e w' => e = .returned (.tuple #[.int .u64 (putN a.toNat at_ width v.toNat : Nat), .bool true]) ∧ ∃ n, w' = w.drewN n := by
  obtain ⟨a, rfl⟩ := Int.eq_ofNat_of_zero_le a0
  obtain ⟨v, rfl⟩ := Int.eq_ofNat_of_zero_le v0
  rw [Int.toNat_natCast, Int.toNat_natCast]
  exact halfPut a at_ width v w (by omega) h0 h1 (by omega)
end Go.Proofs.Ytkkhoiahjmfibaa
