/- The walk of the reference's numbers as bytes. -/
import Derived.Test.YtpeeaapheohehaaEnPut
namespace Go.Proofs.Ytpeeaapheohehaa
open Go.RowKit
set_option linter.unusedVariables false
set_option linter.unusedSimpArgs false

theorem be_cons (k : Nat) : ∀ N, be (k + 1) N = (N / 256 ^ k % 256) :: be k N := by
  induction k with
  | zero => intro N; simp [be]
  | succ k ih =>
    intro N
    rw [be, ih, be, Nat.div_div_eq_div_mul, Nat.pow_succ, Nat.mul_comm 256, List.cons_append]

set_option maxRecDepth 100000 in
set_option maxHeartbeats 3200000 in
theorem refPut32 (N sz : Nat) (w : World) (hs : sz ≤ 8) (hN : N < 18446744073709551616) :
    Calls Try.prog 77 #[.int .u64 N, .int .i64 sz] w fun e w' => ∃ v, e = .returned v ∧ Own 5 .u8 w' w.heap.size v (be sz N) ∧ Below w.heap.size w w' := by
  go_enter Try.func77, Try.ntmps77
  go_wp2_with fail
  go_loopw [0, 5, 6] (fun n u i wr => ∃ k : Nat, k ≤ sz ∧ n = .int .u64 ((N / 256 ^ k : Nat) : Int) ∧ i = .int .i64 (k : Int) ∧ Own 5 .u8 wr w.heap.size u (be k N) ∧ Below w.heap.size w wr) (fun _ _ i _ => sz - (intOf i).toNat)
  case atStart => exact ⟨0, by omega, by rw [Nat.pow_zero, Nat.div_one], rfl, Own.built 5 .u8 w w.heap.size [] #[] 0 (Nat.le_refl _) rfl (by decide) rfl, bel⟩
  case round =>
    obtain ⟨k, hk, rfl, rfl, ho, hB⟩ := hrel
    obtain ⟨a1, c1, hv⟩ := ho.anyForm
    subst hv
    have hlen := hid (be_length k N)
    rw [be_length k N] at ho ⊢
    have hz := hB.size
    by_cases hlt : k < sz
    · have hM : N / 256 ^ k < 18446744073709551616 := Nat.lt_of_le_of_lt (Nat.div_le_self _ _) hN
      have HC := hid (be_cons k N)
      have HD := hid (show N / 256 ^ k / 256 = N / 256 ^ (k + 1) by rw [Nat.div_div_eq_div_mul, Nat.pow_succ])
      generalize hm : N / 256 ^ k = M at hM HC HD ⊢
      clear hm
      go_wp2_with (at_builtin; refine wpAppend rfl (.tmp 16) (.tmp 17) 33 5 rfl .u8 (.int .u8 0) 1 Try.underlying33 infoU8 rfl _ w.heap.size _ [M % 256] rfl (Own.built 5 .u8 wr w.heap.size [M % 256] _ 1 hz rfl (by decide) (by simp)) a1 k c1 (be k N) rfl ((ho.kept ((Below.refl _ _).alloc (Nat.le_refl _) _) (Nat.le_refl _)).seen) (by simp [maxLen]; omega) (by simp; omega) (by simp; omega) ?_; intro v' w4 hown hgrow)
      have hB1 : Below w.heap.size w w4 := (hB.alloc (by omega) _).grown hgrow (by simp; omega) (by intro q hq; cases hq; omega)
      have hown1 : Own 5 .u8 w4 w.heap.size v' (be (k + 1) N) := by rw [HC.out]; exact hown
      clear hown hgrow
      go_roundw
      case rel => exact ⟨k + 1, by omega, by rw [← HD.out]; go_num, by go_num, hown1, hB1⟩
      case measure => simp [intOf]; omega
    · obtain rfl : k = sz := by omega
      go_wp2_with fail
      go_ret
      exact ⟨_, rfl, ho, hB⟩
end Go.Proofs.Ytpeeaapheohehaa
