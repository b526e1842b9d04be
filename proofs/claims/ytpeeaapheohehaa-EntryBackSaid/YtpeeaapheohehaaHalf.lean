/- The walks of package half, and of the reference's first layer. -/
import Derived.Test.YtpeeaapheohehaaChecked
import Derived.Test.YtpeeaapheohehaaPlain
import Derived.WalkSpells
import Derived.WalkLawsBesides
import Derived.Deep.QuietTactic
import Derived.BigQuiet
namespace Go.Proofs.Ytpeeaapheohehaa
open Go.RowKit
set_option linter.unusedVariables false


theorem refHi (a : Int) (w : World) (h0 : 0 ≤ a) (h1 : a < 18446744073709551616)  :
    Calls Try.prog 119 #[.int .u64 a] w fun e w' => e = .returned (.int .u32 (a / 4294967296)) ∧ w = w' := by
  go_enter Try.func119, Try.ntmps119
  go_wp2
  go_ret
  exact ⟨rfl, rfl⟩

theorem refLo (a : Int) (w : World) (h0 : 0 ≤ a) (h1 : a < 18446744073709551616)  :
    Calls Try.prog 118 #[.int .u64 a] w fun e w' => e = .returned (.int .u32 (a % 4294967296)) ∧ w = w' := by
  go_enter Try.func118, Try.ntmps118
  go_wp2
  go_ret
  exact ⟨rfl, rfl⟩

theorem refBitAt (v : Int) (k : Nat) (w : World) (hv : 0 ≤ v) (hk : k < 32) :
    Calls Try.prog 117 #[.int .u32 v, .int .i64 k] w fun e w' => e = .returned (.bool (v.toNat / 2 ^ k % 2 == 1)) ∧ w = w' := by
  obtain ⟨v, rfl⟩ := Int.eq_ofNat_of_zero_le hv
  rw [Int.toNat_natCast]
  have hb : (((v : Int) / 2 ^ k).tmod 2 == 1) = (v / 2 ^ k % 2 == 1) := by
    have e : (v : Int) / 2 ^ k = ((v / 2 ^ k : Nat) : Int) := by push_cast; rfl
    rw [e]
    generalize v / 2 ^ k = q
    rw [Int.tmod_eq_emod_of_nonneg (Int.natCast_nonneg _), Bool.eq_iff_iff]
    simp
    omega
  have H := hid hb; clear hb
  go_enter Try.func117, Try.ntmps117
  go_wp2
  go_ret
  exact ⟨ret_bool H.out, rfl⟩

theorem halfField (at_ width : Int) (w : World) (h2 : 0 ≤ at_) (h0 : 1 ≤ width) (h1 : at_ + width ≤ 64) :
    Calls Try.prog 114 #[.int .i64 at_, .int .i64 width] w fun e w' => e = .returned (.bool true) ∧ w = w' := by
  have h3 : decide (at_ ≤ 64 - width) = true := by simp; omega
  go_enter Try.func114, Try.ntmps114
  go_wp2
  go_ret
  exact ⟨rfl, rfl⟩

theorem halfMask (width : Nat) (w : World) (h0 : 1 ≤ width) (h1 : width ≤ 64) :
    Calls Try.prog 115 #[.int .i64 width] w fun e w' => e = .returned (.int .u64 ((2 ^ width - 1 : Nat) : Int)) ∧ w = w' := by
  have H := hid (maskVal width h1)
  go_enter Try.func115, Try.ntmps115
  go_wp2
  go_ret
  exact ⟨ret_int H.out, rfl⟩

theorem halfGet (a at_ width : Nat) (w : World) (ha : a < 18446744073709551616) (h0 : 1 ≤ width) (h1 : at_ + width ≤ 64) :
    Calls Try.prog 110 #[.int .u64 a, .int .i64 at_, .int .i64 width] w fun e w' => e = .returned (.int .u64 ((a / 2 ^ at_ % 2 ^ width : Nat) : Int)) ∧ ∃ n, w' = w.drewN n := by
  have H := hid (getVal a at_ width ha (by omega))
  go_enter Try.func110, Try.ntmps110
  go_wp2_with (first | (go_at_call 114; refine (halfField _ _ _ (by omega) (by omega) (by omega)).mono ?_; rintro e w' ⟨rfl, rfl⟩))
  go_quiet ((go_at_call 115; exact quietEq (halfMask _ _ (by omega) (by omega))))
  go_wp2
  go_ret
  exact ⟨ret_int H.out, _, rfl⟩
end Go.Proofs.Ytpeeaapheohehaa
