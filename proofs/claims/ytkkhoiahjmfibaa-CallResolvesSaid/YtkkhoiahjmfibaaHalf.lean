/- The walks of package half, and of the reference's first layer. -/
import Derived.Test.YtkkhoiahjmfibaaChecked
import Derived.Test.YtkkhoiahjmfibaaPlain
import Derived.WalkSpells
import Derived.WalkLawsBesides
import Derived.Deep.QuietTactic
import Derived.BigQuiet
namespace Go.Proofs.Ytkkhoiahjmfibaa
open Go.RowKit
set_option linter.unusedVariables false

theorem refJoin (a b : Int) (w : World) (h0 : 0 ≤ a) (h1 : a < 4294967296) (h2 : 0 ≤ b) (h3 : b < 4294967296) :
    Calls Try.prog 52 #[.int .u32 a, .int .u32 b] w fun e w' => e = .returned (.int .u64 (a * 4294967296 + b)) ∧ w = w' := by
  go_enter Try.func52, Try.ntmps52
  go_wp2
  go_ret
  exact ⟨rfl, rfl⟩

theorem refHi (a : Int) (w : World) (h0 : 0 ≤ a) (h1 : a < 18446744073709551616)  :
    Calls Try.prog 75 #[.int .u64 a] w fun e w' => e = .returned (.int .u32 (a / 4294967296)) ∧ w = w' := by
  go_enter Try.func75, Try.ntmps75
  go_wp2
  go_ret
  exact ⟨rfl, rfl⟩

theorem refLo (a : Int) (w : World) (h0 : 0 ≤ a) (h1 : a < 18446744073709551616)  :
    Calls Try.prog 23 #[.int .u64 a] w fun e w' => e = .returned (.int .u32 (a % 4294967296)) ∧ w = w' := by
  go_enter Try.func23, Try.ntmps23
  go_wp2
  go_ret
  exact ⟨rfl, rfl⟩

theorem refBitAt (v : Int) (k : Nat) (w : World) (hv : 0 ≤ v) (hk : k < 32) :
    Calls Try.prog 122 #[.int .u32 v, .int .i64 k] w fun e w' => e = .returned (.bool (v.toNat / 2 ^ k % 2 == 1)) ∧ w = w' := by
  obtain ⟨v, rfl⟩ := Int.eq_ofNat_of_zero_le hv
  rw [Int.toNat_natCast]
  have hb : (((v : Int) / 2 ^ k).tmod 2 == 1) = (v / 2 ^ k % 2 == 1) := by
    have e : (v : Int) / 2 ^ k = ((v / 2 ^ k : Nat) : Int) := by push_cast; rfl
    rw [e]
    generalize v / 2 ^ k = q
    rw [Int.tmod_eq_emod_of_nonneg (Int.natCast_nonneg _), Bool.eq_iff_iff]
    simp
    omega
  have H := hid hb; clear hb
  go_enter Try.func122, Try.ntmps122
  go_wp2
  go_ret
  exact ⟨ret_bool H.out, rfl⟩

theorem halfJoin (a b : Int) (w : World) (h0 : 0 ≤ a) (h1 : a < 4294967296) (h2 : 0 ≤ b) (h3 : b < 4294967296) :
    Calls Try.prog 88 #[.int .u32 a, .int .u32 b] w fun e w' => e = .returned (.int .u64 (a * 4294967296 + b)) ∧ w = w' := by
  obtain ⟨a, rfl⟩ := Int.eq_ofNat_of_zero_le h0
  obtain ⟨b, rfl⟩ := Int.eq_ofNat_of_zero_le h2
  have hj : bits .or .u64 ((a : Int) * 4294967296) (b : Int) = (a : Int) * 4294967296 + (b : Int) := by
    have h := u64_or_nat (a * 4294967296) b (by omega) (by omega)
    rw [nat_join 32 (a * 4294967296) b (by omega) (by omega)] at h
    simpa using h
  have H := hid hj; clear hj
  go_enter Try.func88, Try.ntmps88
  go_wp2
  go_ret
  exact ⟨ret_int H.out, rfl⟩

theorem halfHi (a : Int) (w : World) (h0 : 0 ≤ a) (h1 : a < 18446744073709551616)  :
    Calls Try.prog 84 #[.int .u64 a] w fun e w' => e = .returned (.int .u32 (a / 4294967296)) ∧ w = w' := by
  go_enter Try.func84, Try.ntmps84
  go_wp2
  go_ret
  exact ⟨rfl, rfl⟩

theorem halfLo (a : Int) (w : World) (h0 : 0 ≤ a) (h1 : a < 18446744073709551616) :
    Calls Try.prog 96 #[.int .u64 a] w fun e w' => e = .returned (.int .u32 (a % 4294967296)) ∧ w = w' := by
  go_enter Try.func96, Try.ntmps96
  go_wp2
  go_ret
  exact ⟨rfl, rfl⟩

theorem halfField (at_ width : Int) (w : World) (h2 : 0 ≤ at_) (h0 : 1 ≤ width) (h1 : at_ + width ≤ 64) :
    Calls Try.prog 112 #[.int .i64 at_, .int .i64 width] w fun e w' => e = .returned (.bool true) ∧ w = w' := by
  have h3 : decide (at_ ≤ 64 - width) = true := by simp; omega
  go_enter Try.func112, Try.ntmps112
  go_wp2
  go_ret
  exact ⟨rfl, rfl⟩

theorem halfMask (width : Nat) (w : World) (h0 : 1 ≤ width) (h1 : width ≤ 64) :
    Calls Try.prog 113 #[.int .i64 width] w fun e w' => e = .returned (.int .u64 ((2 ^ width - 1 : Nat) : Int)) ∧ w = w' := by
  have H := hid (maskVal width h1)
  go_enter Try.func113, Try.ntmps113
  go_wp2
  go_ret
  exact ⟨ret_int H.out, rfl⟩

theorem halfGet (a at_ width : Nat) (w : World) (ha : a < 18446744073709551616) (h0 : 1 ≤ width) (h1 : at_ + width ≤ 64) :
    Calls Try.prog 83 #[.int .u64 a, .int .i64 at_, .int .i64 width] w fun e w' => e = .returned (.int .u64 ((a / 2 ^ at_ % 2 ^ width : Nat) : Int)) ∧ ∃ n, w' = w.drewN n := by
  have H := hid (getVal a at_ width ha (by omega))
  go_enter Try.func83, Try.ntmps83
  go_wp2_with (first | (go_at_call 112; refine (halfField _ _ _ (by omega) (by omega) (by omega)).mono ?_; rintro e w' ⟨rfl, rfl⟩))
  go_quiet ((go_at_call 113; exact quietEq (halfMask _ _ (by omega) (by omega))))
  go_wp2
  go_ret
  exact ⟨ret_int H.out, _, rfl⟩
end Go.Proofs.Ytkkhoiahjmfibaa
