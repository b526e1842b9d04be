/- The walk of the statement on torn heads: it answers true. -/
import Derived.Test.YtpeeaapheohehaaHeadTorn
namespace Go.Proofs.Ytpeeaapheohehaa
open Go.RowKit
set_option linter.unusedVariables false
set_option linter.unusedSimpArgs false

theorem lawHeadTornNo (w : World) (t p s at_ : Int) (turn : Nat) (hr : rightC t p s = false) (ht : turn < 4294967296) :
    Calls Try.prog 11 #[.agg #[.int .i64 t, .int .i64 p, .int .i64 s], .int .i64 at_, .int .u32 turn] w fun e w' => e = .returned (.bool true) ∧ Below w.heap.size w w' := by
  have R := hid hr; clear hr
  go_enter Try.func11, Try.ntmps11
  go_wp2_with fail
  refine (headEncNo t p s _ R.out).mono ?_
  rintro e w1 ⟨rfl, hb1⟩
  have z1 : w.heap.size < w1.heap.size := by have := hb1.size; simp at this; omega
  go_wp2_with fail
  refine (liveHead _).mono ?_
  rintro e w2 ⟨rfl, hb2⟩
  go_wp2
  go_ret
  exact ⟨rfl, bel⟩

theorem lawHeadTornOut (w : World) (t p s at_ : Int) (turn : Nat) (hr : rightC t p s = true) (ht : turn < 4294967296) (h : turn = 0 ∨ at_ < 0 ∨ 480 < at_) :
    Calls Try.prog 11 #[.agg #[.int .i64 t, .int .i64 p, .int .i64 s], .int .i64 at_, .int .u32 turn] w fun e w' => e = .returned (.bool true) ∧ Below w.heap.size w w' := by
  have R := hid hr; clear hr
  by_cases h0 : turn = 0
  · subst h0
    clear h
    go_enter Try.func11, Try.ntmps11
    go_wp2_with fail
    refine (headEncYes t p s _ R.out).mono ?_
    rintro e w1 ⟨g, cap, rfl, hg, hgs, hown, hb1⟩
    have z1 : w.heap.size < w1.heap.size := by have := hb1.size; simp at this; omega
    go_wp2_with fail
    refine (liveHead _).mono ?_
    rintro e w2 ⟨rfl, hb2⟩
    go_wp2
    go_ret
    exact ⟨rfl, bel⟩
  have d0 : ((turn : Int) == 0) = false := by rw [beq_eq_false_iff_ne]; omega
  by_cases hn : at_ < 0
  · clear h h0
    go_enter Try.func11, Try.ntmps11
    go_wp2_with fail
    refine (headEncYes t p s _ R.out).mono ?_
    rintro e w1 ⟨g, cap, rfl, hg, hgs, hown, hb1⟩
    have z1 : w.heap.size < w1.heap.size := by have := hb1.size; simp at this; omega
    go_wp2_with fail
    refine (liveHead _).mono ?_
    rintro e w2 ⟨rfl, hb2⟩
    go_wp2
    go_ret
    exact ⟨rfl, bel⟩
  · have hm : 480 < at_ := by omega
    clear h h0
    go_enter Try.func11, Try.ntmps11
    go_wp2_with fail
    refine (headEncYes t p s _ R.out).mono ?_
    rintro e w1 ⟨g, cap, rfl, hg, hgs, hown, hb1⟩
    have z1 : w.heap.size < w1.heap.size := by have := hb1.size; simp at this; omega
    go_wp2_with fail
    refine (liveHead _).mono ?_
    rintro e w2 ⟨rfl, hb2⟩
    go_wp2
    go_ret
    exact ⟨rfl, bel⟩

set_option maxHeartbeats 1600000 in
theorem lawHeadTornIn (w : World) (t p s : Int) (q turn : Nat) (hr : rightC t p s = true) (ht : turn < 4294967296) (h0 : turn ≠ 0) (hq : q ≤ 480) :
    Calls Try.prog 11 #[.agg #[.int .i64 t, .int .i64 p, .int .i64 s], .int .i64 q, .int .u32 turn] w fun e w' => e = .returned (.bool true) ∧ Below w.heap.size w w' := by
  have R := hid hr
  have hnone := hid (torn_none hr q turn hq ht h0)
  have hfit := hid (headN_fit hr)
  have hlen := hid (headN_length t p s)
  have d0 : ((turn : Int) == 0) = false := by rw [beq_eq_false_iff_ne]; omega
  clear hr
  go_enter Try.func11, Try.ntmps11
  go_wp2_with fail
  refine (headEncYes t p s _ R.out).mono ?_
  rintro e w1 ⟨g0, cap0, rfl, hg0, hgs0, hown0, hb1⟩
  generalize headN t p s = xs at *
  have z1 : w.heap.size < w1.heap.size := by have := hb1.size; simp at this; omega
  have hB1 : Below w.heap.size w w1 := bel
  have hs0 := hown0.seen
  clear hown0
  go_wp2_with (at_builtin; refine wpAppend rfl (.tmp 40) (.tmp 41) 25 58 rfl .u64 (.int .u64 0) 8 Try.underlying25 infoU64 rfl _ w1.heap.size _ [] rfl (Own.built _ _ _ _ [] _ 0 (Nat.le_refl _) rfl (by decide) rfl) _ _ _ xs rfl (hs0.below ((Below.refl _ _).alloc (Nat.le_refl _) _)) (by simp [maxLen]) (by simp) (by simp) ?_; intro v' w2 hown hgrow)
  rw [List.nil_append] at hown
  have hl8 := hlen.out
  obtain ⟨g, cap', hv, hg, hgs, _⟩ := hown.form (by omega)
  have hB2 : Below w.heap.size w w2 := (hB1.alloc (by omega) _).grown hgrow (by simp; omega) (by intro k hk; cases hk; show w.heap.size ≤ w1.heap.size; omega)
  rw [hl8] at hv
  rw [hv] at hown ⊢
  clear hv hgrow hl8 d0
  go_wp2_with fail
  go_loopw [9] (fun i wr => ∃ k : Nat, k ≤ 32 ∧ i = .int .i64 k ∧ Own 58 .u64 wr w1.heap.size (.slice (some ⟨g, 0, none⟩) 8 cap') (turned xs q turn k) ∧ Below w.heap.size w wr) (fun i _ => 32 - (intOf i).toNat)
  case atStart => exact ⟨0, by omega, rfl, hown, hB2⟩
  case round =>
    clear hown hB2 hgs
    obtain ⟨k, hk, rfl, hown, hB⟩ := hrel
    have hlk : (turned xs q turn k).length = 8 := by rw [turned_length]; exact hlen.out
    have hfk : Fit 18446744073709551616 (turned xs q turn k) := turned_fit hfit.out q turn k
    have hsucc := hid (show turned xs q turn (k + 1) = if turn / 2 ^ k % 2 = 1 then turnBit (turned xs q turn k) (q + k) else turned xs q turn k from rfl)
    have Lk := hid hlk; clear hlk
    by_cases hlt : k < 32
    · have hj : (q + k) / 64 < 8 := by omega
      have hcell := hown.cell Lk.out _ hj
      have hfro := hown.unfrozen Lk.out ((q + k) / 64)
      have hx := hfk.getD (by omega) ((q + k) / 64)
      generalize hy : (turned xs q turn k)[(q + k) / 64]?.getD 0 = y at hcell hx
      have Hy := hid hy; clear hy
      go_wp2_with fail
      · have ht := WalkArith.int_eq (by assumption : ((((turn : Int) / 2 ^ k).tmod 2) == 1) = true)
        have hv : bits .xor .u64 (y : Int) (IntKind.u64.wrap (2 ^ ((q + k) % 64))) = ((y ^^^ 2 ^ ((q + k) % 64) : Nat) : Int) := xorShl y _ hx (by omega)
        rw [hv]
        go_roundw
        case rel =>
          refine ⟨k + 1, by omega, by go_num, ?_, hB.setCell (by show w.heap.size ≤ g; omega) _⟩
          have h1 := hown.stored Lk.out ((q + k) / 64) (y ^^^ 2 ^ ((q + k) % 64))
          rw [hsucc.out, if_pos (tmodYes ht), turnBit, Hy.out]
          exact h1
        case measure => simp [intOf]; omega
      · have ht := WalkArith.int_ne (by assumption : ((((turn : Int) / 2 ^ k).tmod 2) == 1) = false)
        go_roundw
        case rel =>
          refine ⟨k + 1, by omega, by go_num, ?_, hB⟩
          rw [hsucc.out, if_neg (tmodNo ht)]
          exact hown
        case measure => simp [intOf]; omega
    · obtain rfl : k = 32 := by omega
      have hd := hid (show decV (turned xs q turn 32) = .tuple #[.agg #[.int .i64 0, .int .i64 0, .int .i64 0], .int .i64 9] by rw [decV, hnone.out]; rfl)
      go_wp2_with fail
      refine (headDec _ _ _ _ _ hown.seen hfk).mono ?_
      rw [hd.out]
      rintro e w3 ⟨rfl, hb3⟩
      have z3 : wr.heap.size ≤ w3.heap.size := hb3.size
      have zr := hB.size
      go_wp2_with fail
      refine (headNum 9 _ (.inr rfl)).mono ?_
      rintro e w4 ⟨rfl, rfl⟩
      go_wp2_with fail
      refine (liveHead _).mono ?_
      rintro e w5 ⟨rfl, hb5⟩
      go_wp2
      go_ret
      exact ⟨rfl, bel⟩

theorem lawHeadTorn (w : World) (t p s at_ : Int) (turn : Nat) (t1 : -9223372036854775808 ≤ t) (t2 : t ≤ 9223372036854775807) (p1 : -9223372036854775808 ≤ p) (p2 : p ≤ 9223372036854775807) (s1 : -9223372036854775808 ≤ s) (s2 : s ≤ 9223372036854775807) (a1 : -9223372036854775808 ≤ at_) (a2 : at_ ≤ 9223372036854775807) (ht : turn < 4294967296) :
    Calls Try.prog 11 #[.agg #[.int .i64 t, .int .i64 p, .int .i64 s], .int .i64 at_, .int .u32 turn] w fun e w' => e = .returned (.bool true) ∧ Below w.heap.size w w' := by
  have hr : ∃ c, rightC t p s = c := ⟨_, rfl⟩
  obtain ⟨c, hr⟩ := hr
  cases c
  · exact lawHeadTornNo w t p s at_ turn hr ht
  · by_cases h : turn = 0 ∨ at_ < 0 ∨ 480 < at_
    · exact lawHeadTornOut w t p s at_ turn hr ht h
    · obtain ⟨q, rfl⟩ := Int.eq_ofNat_of_zero_le (show 0 ≤ at_ by omega)
      exact lawHeadTornIn w t p s q turn hr ht (by omega) (by omega)
end Go.Proofs.Ytpeeaapheohehaa
