/- The walks of the statements on sums: each answers true. -/
import Derived.Test.YtdobepeeenjeeaaSum
namespace Go.Proofs.Ytdobepeeenjeeaa
open Go.RowKit
set_option linter.unusedVariables false

theorem crc0 : crcOf [] = 0 := by decide +kernel
theorem crc4 : crcOf [0, 0, 0, 0] = 2324772522 := by decide +kernel

set_option maxHeartbeats 400000 in
theorem liveSum (w : World) : Calls Try.prog 15 #[] w fun e w' => e = .returned (.bool true) ∧ Below w.heap.size w w' := by
  have c0 := crc0
  have c4 := crc4
  go_enter Try.func15, Try.ntmps15
  go_wp2_with fail
  refine (sumOf _ _ _ _ [] (Seen.empty _ _ _ _ (by omega) (fun _ => rfl)) (by intro x hx; cases hx)).mono ?_
  rintro e w' ⟨rfl, rfl⟩
  go_wp2_with fail
  refine (sumOf _ _ _ _ [0, 0, 0, 0] (Seen.built _ _ _ _ _ 4 rfl (by decide) rfl) (by intro x hx; simp at hx; omega)).mono ?_
  rintro e w' ⟨rfl, rfl⟩
  go_wp2_with (go_at_call 21; refine (sumFirst _).mono ?_; rintro e w' ⟨rfl, rfl⟩)
  go_ret
  exact ⟨rfl, (Below.refl _ _).alloc (Nat.le_refl _) _⟩

set_option maxHeartbeats 400000 in
theorem lawSumOf (w : World) (a : Option Addr) (len cap : Nat) (xs : List Nat) (r : Nat) (hs : Seen .u64 w a len cap xs) (hf : Fit 18446744073709551616 xs) (hr : r < 4294967296) :
    Calls Try.prog 3 #[.slice a len cap, .int .u32 r] w fun e w' => e = .returned (.bool true) ∧ Below w.heap.size w w' := by
  have hs' := hs
  obtain ⟨h1, h2, h3, h4⟩ := hs'
  by_cases hlong : 200 < len
  · go_enter Try.func3, Try.ntmps3
    go_wp2_with (go_at_call 15; refine (liveSum _).mono ?_; rintro e w' ⟨rfl, hb⟩)
    go_ret
    exact ⟨rfl, hb⟩
  · by_cases h0 : len = 0
    · subst h0
      go_enter Try.func3, Try.ntmps3
      go_wp2_with (first
        | (go_at_call 16; refine (sumOf _ _ _ _ _ hs hf).mono ?_; rintro e w' ⟨rfl, rfl⟩)
        | (go_at_call 17; refine (refOf _ _ _ _ _ hs hf).mono ?_; rintro e w' ⟨rfl, rfl⟩)
        | (go_at_call 18; refine (sumNext _ _ _ (by omega) (by omega)).mono ?_; rintro e w' ⟨rfl, rfl⟩)
        | (go_at_call 19; refine (refNext _ _ _ (by omega) (by omega)).mono ?_; rintro e w' ⟨rfl, rfl⟩)
        | (go_at_call 20; refine (sumLast _ _ (by omega)).mono ?_; rintro e w' ⟨rfl, rfl⟩)
        | (go_at_call 15; refine (liveSum _).mono ?_; rintro e w' ⟨rfl, hb⟩))
      go_ret
      exact ⟨rfl, hb⟩
    · rcases h4 with h4 | ⟨b, off, rfl, hc⟩
      · omega
      have hc0 : w.cell? ⟨b, off, none⟩ = some (.int .u64 (xs[0]?.getD 0 : Nat)) := hc 0 (by omega)
      have hx := hf.getD (by omega) 0
      generalize xs[0]?.getD 0 = x0 at hc0 hx
      clear hc h1
      go_enter Try.func3, Try.ntmps3
      go_wp2_with (first
        | (go_at_call 16; refine (sumOf _ _ _ _ _ hs hf).mono ?_; rintro e w' ⟨rfl, rfl⟩)
        | (go_at_call 17; refine (refOf _ _ _ _ _ hs hf).mono ?_; rintro e w' ⟨rfl, rfl⟩)
        | (go_at_call 18; refine (sumNext _ _ _ (by omega) (by omega)).mono ?_; rintro e w' ⟨rfl, rfl⟩)
        | (go_at_call 19; refine (refNext _ _ _ (by omega) (by omega)).mono ?_; rintro e w' ⟨rfl, rfl⟩)
        | (go_at_call 20; refine (sumLast _ _ (by omega)).mono ?_; rintro e w' ⟨rfl, rfl⟩)
        | (go_at_call 15; refine (liveSum _).mono ?_; rintro e w' ⟨rfl, hb⟩))
      go_ret
      exact ⟨rfl, hb⟩

set_option maxHeartbeats 800000 in
theorem lawSumPieces (w : World) (a : Option Addr) (len cap : Nat) (xs : List Nat) (hs : Seen .u64 w a len cap xs) (hf : Fit 18446744073709551616 xs) :
    Calls Try.prog 4 #[.slice a len cap] w fun e w' => e = .returned (.bool true) ∧ Below w.heap.size w w' := by
  by_cases hlong : 200 < len
  · go_enter Try.func4, Try.ntmps4
    go_wp2_with (go_at_call 15; refine (liveSum _).mono ?_; rintro e w' ⟨rfl, hb⟩)
    go_ret
    exact ⟨rfl, hb⟩
  · obtain ⟨h1, h2, h3, _⟩ := id hs
    have hall := hidAll (fun k => crcAll_lt (xs.take k) (r := 4294967295) (by omega))
    have hget := hidAll (fun i => hf.getD (by omega) i)
    have L := hid h1; clear h1
    go_enter Try.func4, Try.ntmps4
    go_wp2_with (go_at_call 21; refine (sumFirst _).mono ?_; rintro e w' ⟨rfl, rfl⟩)
    go_loopw [3, 4] (fun r i wr => ∃ (k : Nat), k ≤ len ∧ Below w.heap.size w wr ∧ i = .int .i64 k ∧ r = .int .u32 (crcAll 4294967295 (xs.take k) : Nat)) (fun _ i _ => len - (intOf i).toNat)
    case atStart => exact ⟨0, by omega, Below.refl _ _, rfl, rfl⟩
    case round =>
      obtain ⟨k, hk, hB, rfl, rfl⟩ := hrel
      have hs := hs.below hB
      have h4 := hs.2.2.2
      have hb := hall.out k
      by_cases hlt : k < len
      · rcases h4 with ⟨rfl, _⟩ | ⟨b, off, rfl, hc⟩
        · omega
        · have hcell := hc k hlt
          have hx := hget.out k
          have hb1 := hall.out (k + 1)
          have hn := hid (crcAll_take 4294967295 xs k (by rw [L.out]; exact hlt))
          clear hc
          go_wp2_with (first
            | (go_at_call 18; refine (sumNext _ _ _ (by omega) (by omega)).mono ?_; rintro e w' ⟨rfl, rfl⟩))
          have E := hid (show 4294967295 - crcN 64 (crcAll 4294967295 (xs.take k)) (xs[k]?.getD 0) = crcOf (xs.take (k + 1)) by rw [← hn.out]; rfl)
          have hb2 : crcN 64 (crcAll 4294967295 (xs.take k)) (xs[k]?.getD 0) < 4294967296 := by rw [← hn.out]; exact hb1
          go_quiet ((first
            | (go_at_call 20; exact quietEq (v := .int .u32 (crcOf (xs.take (k + 1)) : Nat)) (by rw [← E.out]; exact sumLast _ _ hb2))
            | (go_at_call 16; exact quietEq (sumOf _ _ _ _ (xs.take (k + 1)) ((hs.take (k + 1) (by omega)).drewN _) (hf.take _)))))
          go_wp2
          go_roundw
          case rel => exact ⟨k + 1, by omega, belowDrewN hB _, by go_num, by rw [hn.out]⟩
          case measure => simp [intOf]; omega
      · obtain rfl : k = len := by omega
        have E := hid (show 4294967295 - crcAll 4294967295 (xs.take k) = crcOf xs by rw [crcOf, List.take_of_length_le (by rw [L.out]; omega)])
        go_wp2_with (first
          | (go_at_call 20; refine (sumLast _ _ hb).mono ?_; rw [E.out]; rintro e w' ⟨rfl, rfl⟩)
          | (go_at_call 16; refine (sumOf _ _ _ _ xs hs hf).mono ?_; rintro e w' ⟨rfl, rfl⟩)
          | (go_at_call 15; refine (liveSum _).mono ?_; rintro e w' ⟨rfl, hb⟩))
        go_ret
        exact ⟨rfl, hB.trans (hb.mono hB.size)⟩

end Go.Proofs.Ytdobepeeenjeeaa
