/- The walks of package sum, and of the reference's sum: the register behind a word, and behind words. -/
import Derived.Test.YtkkhoiahjmfibaaChecked
import Derived.Test.YtkkhoiahjmfibaaHalf
import Derived.Test.YtkkhoiahjmfibaaMem
import Derived.WalkSpells
import Derived.WalkLawsBesides
namespace Go.Proofs.Ytkkhoiahjmfibaa
open Go.RowKit
set_option linter.unusedVariables false

theorem refBitR (r : Nat) (b : Bool) (w : World) (hr : r < 4294967296) :
    Calls Try.prog 121 #[.int .u32 r, .bool b] w fun e w' => e = .returned (.int .u32 (crcBit r b : Nat)) ∧ w = w' := by
  have hv : bits .xor .u32 ((r : Int) / 2) 2197175160 = (((r / 2) ^^^ 2197175160 : Nat) : Int) := u32_xor_nat (r / 2) 2197175160 (by omega) (by omega)
  have hq := crcBit_eq r b
  by_cases h : (r % 2 == 1) = b
  · have ht : ((r : Int) % 2 == 1) = b := by rw [← h, Bool.eq_iff_iff]; simp; omega
    have hc : crcBit r b = r / 2 := by rw [hq, if_neg (by simpa using h)]
    clear hq
    have H := hid hc; clear hc
    go_enter Try.func121, Try.ntmps121
    go_wp2
    go_ret
    exact ⟨by rw [H.out]; rfl, rfl⟩
  · have ht : ((r : Int) % 2 == 1) = !b := by
      have : (r % 2 == 1) = !b := by revert h; cases (r % 2 == 1) <;> cases b <;> simp
      rw [← this, Bool.eq_iff_iff]; simp; omega
    have hc : crcBit r b = (r / 2) ^^^ 2197175160 := by rw [hq, if_pos (by simpa using h)]
    clear hq
    have H := hid hc; clear hc
    go_enter Try.func121, Try.ntmps121
    go_wp2
    go_ret
    exact ⟨by rw [H.out]; rfl, rfl⟩

set_option maxHeartbeats 400000 in
theorem refNext (r x : Nat) (w : World) (hr : r < 4294967296) (hx : x < 18446744073709551616) :
    Calls Try.prog 116 #[.int .u32 r, .int .u64 x] w fun e w' => e = .returned (.int .u32 (crcN 64 r x : Nat)) ∧ w = w' := by
  go_enter Try.func116, Try.ntmps116
  go_wp2
  go_loop [0, 5] (fun a i => ∃ k rr : Nat, k ≤ 32 ∧ rr < 4294967296 ∧ a = .int .u32 rr ∧ i = .int .i64 k ∧ Hid (crcN (64 - k) rr (x / 2 ^ k) = crcN 64 r x)) (fun _ i => 32 - (intOf i).toNat)
  case atStart => exact ⟨0, r, by omega, hr, rfl, rfl, hid (by simp)⟩
  case round =>
    obtain ⟨k, rr, hk, hrr, rfl, rfl, H⟩ := hrel
    by_cases hlt : k < 32
    · go_wp2_with (first
        | (go_at_call 23; refine (refLo _ _ (by omega) (by omega)).mono ?_; rintro e w' ⟨rfl, rfl⟩)
        | (go_at_call 122; refine (refBitAt _ _ _ (by omega) (by omega)).mono ?_; rintro e w' ⟨rfl, rfl⟩)
        | (go_at_call 121; refine (refBitR _ _ _ (by omega)).mono ?_; rintro e w' ⟨rfl, rfl⟩))
      go_round
      case rel => exact ⟨k + 1, _, by omega, crcBit_lt hrr _, rfl, by go_num, hid ((crcLo k rr x hlt).symm.trans H.out)⟩
      case measure => simp [intOf]; omega
    · obtain rfl : k = 32 := by omega
      go_wp2
      go_loop [0, 6] (fun a i => ∃ k rr : Nat, k ≤ 32 ∧ rr < 4294967296 ∧ a = .int .u32 rr ∧ i = .int .i64 k ∧ Hid (crcN (32 - k) rr (x / 4294967296 / 2 ^ k) = crcN 64 r x)) (fun _ i => 32 - (intOf i).toNat)
      case atStart => exact ⟨0, rr, by omega, hrr, rfl, rfl, hid (by simpa using H.out)⟩
      case round =>
        obtain ⟨k, rr, hk, hrr, rfl, rfl, H⟩ := hrel
        by_cases hlt : k < 32
        · go_wp2_with (first
            | (go_at_call 75; refine (refHi _ _ (by omega) (by omega)).mono ?_; rintro e w' ⟨rfl, rfl⟩)
            | (go_at_call 122; refine (refBitAt _ _ _ (by omega) (by omega)).mono ?_; rintro e w' ⟨rfl, rfl⟩)
            | (go_at_call 121; refine (refBitR _ _ _ (by omega)).mono ?_; rintro e w' ⟨rfl, rfl⟩))
          go_round
          case rel => exact ⟨k + 1, _, by omega, crcBit_lt hrr _, rfl, by go_num, hid ((crcHi k rr _ hlt).symm.trans H.out)⟩
          case measure => simp [intOf]; omega
        · obtain rfl : k = 32 := by omega
          go_wp2
          go_ret
          have hs := H.out
          rw [show 32 - 32 = 0 from rfl, crcN_zero] at hs
          exact ⟨by rw [← hs]; rfl, rfl⟩

set_option maxHeartbeats 400000 in
theorem refOf (w : World) (a : Option Addr) (len cap : Nat) (xs : List Nat) (hs : Seen .u64 w a len cap xs) (hf : Fit 18446744073709551616 xs) :
    Calls Try.prog 107 #[.slice a len cap] w fun e w' => e = .returned (.int .u32 (crcOf xs : Nat)) ∧ w = w' := by
  obtain ⟨h1, h2, h3, h4⟩ := hs
  have hall := hidAll (fun k => crcAll_lt (xs.take k) (r := 4294967295) (by omega))
  have hget := hidAll (fun i => hf.getD (by omega) i)
  have L := hid h1; clear h1
  go_enter Try.func107, Try.ntmps107
  go_wp2_with fail
  go_loop [3, 4] (fun r i => ∃ k : Nat, k ≤ len ∧ i = .int .i64 k ∧ r = .int .u32 (crcAll 4294967295 (xs.take k) : Nat)) (fun _ i => len - (intOf i).toNat)
  case atStart => exact ⟨0, by omega, rfl, rfl⟩
  case round =>
    obtain ⟨k, hk, rfl, rfl⟩ := hrel
    have hb := hall.out k
    by_cases hlt : k < len
    · rcases h4 with ⟨rfl, _⟩ | ⟨b, off, rfl, hc⟩
      · omega
      · have hcell := hc k hlt
        have hx := hget.out k
        have hn := hid (crcAll_take 4294967295 xs k (by rw [L.out]; exact hlt))
        clear hc
        go_wp2_with (first
          | (go_at_call 116; refine (refNext _ _ _ (by omega) (by omega)).mono ?_; rintro e w' ⟨rfl, rfl⟩))
        go_round
        case rel => exact ⟨k + 1, by omega, by go_num, by rw [hn.out]⟩
        case measure => simp [intOf]; omega
    · obtain rfl : k = len := by omega
      go_wp2
      go_ret
      have ht : xs.take k = xs := List.take_of_length_le (by rw [L.out]; omega)
      rw [ht] at hb
      exact ⟨ret_int (by rw [crcOf, ht]; omega), rfl⟩

end Go.Proofs.Ytkkhoiahjmfibaa
