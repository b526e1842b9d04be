/- The walk of the statement SumTells: it answers true. -/
import Derived.Test.YtdobepeeenjeeaaSumLaws
import Derived.Test.YtdobepeeenjeeaaCrc
namespace Go.Proofs.Ytdobepeeenjeeaa
open Go.RowKit
set_option linter.unusedVariables false

theorem infoU64 : (Try.prog.info? 25).map (fun i => (i.zero, i.size, i.bytes)) = some (some (.int .u64 0), 1, 8) := by kernel_rfl

set_option maxHeartbeats 800000 in
theorem lawSumTells (w : World) (a : Option Addr) (len cap : Nat) (xs : List Nat) (at_ : Int) (turn : Nat) (hs : Seen .u64 w a len cap xs) (hf : Fit 18446744073709551616 xs)
    (ha1 : -9223372036854775808 ≤ at_) (ha2 : at_ ≤ 9223372036854775807) (ht : turn < 4294967296) :
    Calls Try.prog 5 #[.slice a len cap, .int .i64 at_, .int .u32 turn] w fun e w' => e = .returned (.bool true) ∧ Below w.heap.size w w' := by
  by_cases hlong : 200 < len
  · go_enter Try.func5, Try.ntmps5
    go_wp2_with (go_at_call 15; refine (liveSum _).mono ?_; rintro e w' ⟨rfl, hb⟩)
    go_ret
    exact ⟨rfl, hb⟩
  by_cases h0 : turn = 0
  · subst h0
    go_enter Try.func5, Try.ntmps5
    go_wp2_with (go_at_call 15; refine (liveSum _).mono ?_; rintro e w' ⟨rfl, hb⟩)
    go_ret
    exact ⟨rfl, hb⟩
  have ht0 : ((turn : Int) == 0) = false := by simpa using h0
  by_cases hn : at_ < 0
  · go_enter Try.func5, Try.ntmps5
    go_wp2_with (go_at_call 15; refine (liveSum _).mono ?_; rintro e w' ⟨rfl, hb⟩)
    go_ret
    exact ⟨rfl, hb⟩
  by_cases hm : 64 * (len : Int) - 32 < at_
  · go_enter Try.func5, Try.ntmps5
    go_wp2_with (go_at_call 15; refine (liveSum _).mono ?_; rintro e w' ⟨rfl, hb⟩)
    go_ret
    exact ⟨rfl, hb⟩
  obtain ⟨p, rfl⟩ := Int.eq_ofNat_of_zero_le (Int.not_lt.1 hn)
  have hd1 : decide (200 < (len : Int)) = false := by simp; omega
  have hd2 : decide ((p : Int) < 0) = false := by simp
  have hd3 : decide (64 * (len : Int) - 32 < (p : Int)) = false := by simp; omega
  go_enter Try.func5, Try.ntmps5
  go_wp2_with (at_builtin; refine wpAppend rfl (.tmp 29) (.tmp 30) 22 25 rfl .u64 (.int .u64 0) 8 Try.underlying22 infoU64 rfl _ w.heap.size _ [] rfl (Own.built _ _ _ _ [] _ 0 (Nat.le_refl _) rfl (by decide) rfl) _ _ _ xs rfl (hs.below ((Below.refl _ _).alloc (Nat.le_refl _) _)) (by simp [maxLen]; omega) (by simp; omega) (by simp) ?_; intro v' w1 hown hgrow)
  rw [List.nil_append] at hown
  have hlen : xs.length = len := hs.1
  obtain ⟨g, cap', hv, hg, hgs, _⟩ := hown.form (by omega)
  have hB1 : Below w.heap.size w w1 := ((Below.refl _ _).alloc (Nat.le_refl _) _).grown hgrow (by simp) (by intro k hk; cases hk; exact Nat.le_refl _)
  rw [hlen] at hv
  rw [hv] at hown ⊢
  clear hv hgrow
  have L := hid hlen; clear hlen
  have T := hid (show p + 32 ≤ 64 * len by omega)
  clear hd1 hd2 hd3 ht0
  go_loopw [8] (fun i wr => ∃ k : Nat, k ≤ 32 ∧ i = .int .i64 k ∧ Own 25 .u64 wr w.heap.size (.slice (some ⟨g, 0, none⟩) len cap') (turned xs p turn k) ∧ Below w.heap.size w wr) (fun i _ => 32 - (intOf i).toNat)
  case atStart => exact ⟨0, by omega, rfl, hown, hB1⟩
  case round =>
    clear hown hB1 hgs
    obtain ⟨k, hk, rfl, hown, hB⟩ := hrel
    have hlk : (turned xs p turn k).length = len := by rw [turned_length]; exact L.out
    have hfk : Fit 18446744073709551616 (turned xs p turn k) := turned_fit hf p turn k
    have hsucc := hid (show turned xs p turn (k + 1) = if turn / 2 ^ k % 2 = 1 then turnBit (turned xs p turn k) (p + k) else turned xs p turn k from rfl)
    have Lk := hid hlk; clear hlk
    by_cases hlt : k < 32
    · have hj : (p + k) / 64 < len := by have := T.out; omega
      have hcell := hown.cell Lk.out _ hj
      have hfro := hown.unfrozen Lk.out ((p + k) / 64)
      have hx := hfk.getD (by omega) ((p + k) / 64)
      generalize hy : (turned xs p turn k)[(p + k) / 64]?.getD 0 = y at hcell hx
      have Hy := hid hy; clear hy
      go_wp2_with fail
      · have ht := WalkArith.int_eq (by assumption : ((((turn : Int) / 2 ^ k).tmod 2) == 1) = true)
        have hv : bits .xor .u64 (y : Int) (IntKind.u64.wrap (2 ^ ((p + k) % 64))) = ((y ^^^ 2 ^ ((p + k) % 64) : Nat) : Int) := xorShl y _ hx (by omega)
        rw [hv]
        go_roundw
        case rel =>
          refine ⟨k + 1, by omega, by go_num, ?_, hB.setCell hg _⟩
          have h1 := hown.stored Lk.out ((p + k) / 64) (y ^^^ 2 ^ ((p + k) % 64))
          rw [hsucc.out, if_pos (tmodYes ht), turnBit, Hy.out]
          exact h1
        case measure => simp [intOf]; omega
      · have ht := WalkArith.int_ne (by assumption : ((((turn : Int) / 2 ^ k).tmod 2) == 1) = false)
        go_roundw
        case rel =>
          refine ⟨k + 1, by omega, by go_num, ?_, hB⟩
          rw [hsucc.out, if_neg (tmodNo ht)]
          exact hown
        case measure => simp [intOf]; omega
    · obtain rfl : k = 32 := by omega
      have hne := crc_tells xs p turn (by have := T.out; have := L.out; omega) ht h0
      have hN : (((crcOf (turned xs p turn 32) : Nat) : Int) != ((crcOf xs : Nat) : Int)) = true := by simp; omega
      have hs' := hs.below hB
      clear hne
      go_wp2_with fail
      refine (sumOf _ _ _ _ _ hown.seen hfk).mono ?_
      rintro e w' ⟨rfl, rfl⟩
      go_wp2_with fail
      refine (sumOf _ _ _ _ _ hs' hf).mono ?_
      rintro e w' ⟨rfl, rfl⟩
      go_wp2_with (go_at_call 15; refine (liveSum _).mono ?_; rintro e w' ⟨rfl, hb⟩)
      go_ret
      exact ⟨rfl, hB.trans (hb.mono hB.size)⟩
end Go.Proofs.Ytdobepeeenjeeaa
