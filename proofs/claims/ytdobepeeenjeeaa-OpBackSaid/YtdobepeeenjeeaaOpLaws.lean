/- The walks of the statements on operations: each answers true. -/
import Derived.Test.YtdobepeeenjeeaaOpVals
import Derived.Test.YtdobepeeenjeeaaEq
namespace Go.Proofs.Ytdobepeeenjeeaa
open Go.RowKit
set_option linter.unusedVariables false

theorem wordsLive (w : World) : Calls Try.prog 26 #[.agg #[.int .i64 2, .int .i64 (-1), .int .i64 0]] w fun e w' => e = .returned (.agg #[.int .u64 2, .int .u64 18446744073709551615, .int .u64 0]) ∧ Below w.heap.size w w' :=
  opWords 2 (-1) 0 w

set_option maxRecDepth 100000 in
set_option maxHeartbeats 800000 in
theorem liveOp (w : World) : Calls Try.prog 28 #[] w fun e w' => e = .returned (.bool true) ∧ Below w.heap.size w w' := by
  have r1 : rightB 2 (-1) 0 = true := by decide
  have r2 : rightB 8 1 0 = false := by decide
  have e3 := eqArr3
  go_enter Try.func28, Try.ntmps28
  go_wp2_with fail
  refine (wordsLive _).mono ?_
  rintro e w' ⟨rfl, hb⟩
  have hz1 := hb.size
  go_wp2_with fail
  refine (opRight _ _ _ _).mono ?_
  rintro e w2 ⟨rfl, hb2⟩
  obtain ⟨hc, hf, hz⟩ := after hb2
  simp at hz
  go_wp2_with fail
  refine (opRight _ _ _ _).mono ?_
  rintro e w3 ⟨rfl, hb3⟩
  go_wp2_with fail
  go_ret
  exact ⟨rfl, bel⟩

set_option maxHeartbeats 1600000 in
theorem lawOpWords (w : World) (k a b : Int) (x y z : Nat) (k1 : -9223372036854775808 ≤ k) (k2 : k ≤ 9223372036854775807) (a1 : -9223372036854775808 ≤ a) (a2 : a ≤ 9223372036854775807) (b1 : -9223372036854775808 ≤ b) (b2 : b ≤ 9223372036854775807) (hx : x < 18446744073709551616) (hy : y < 18446744073709551616) (hz : z < 18446744073709551616) :
    Calls Try.prog 6 #[.agg #[.int .i64 k, .int .i64 a, .int .i64 b], .agg #[.int .u64 x, .int .u64 y, .int .u64 z]] w fun e w' => e = .returned (.bool true) ∧ Below w.heap.size w w' := by
  have hof : ∃ p q r c, ofWords x y z = .tuple #[.agg #[.int .i64 p, .int .i64 q, .int .i64 r], .bool c] := by
    unfold ofWords
    split
    · exact ⟨_, _, _, _, rfl⟩
    · exact ⟨_, _, _, _, rfl⟩
  clear a1 a2 b1 b2 hy hz
  obtain ⟨p, q, r, c, hof⟩ := hof
  have H := hid hof; clear hof
  go_enter Try.func6, Try.ntmps6
  go_wp2_with fail
  refine (opOf x y z _).mono ?_
  rw [H.out]
  rintro e w1 ⟨rfl, hb1⟩
  obtain ⟨hc1, hf1, hz1⟩ := after hb1
  have hz1 : w.heap.size + 1 < w1.heap.size := by simp at hz1; omega
  go_wp2_with fail
  refine (refOfWords x y z _ (by omega) (by omega)).mono ?_
  rw [H.out]
  rintro e w2 ⟨rfl, hb2⟩
  obtain ⟨hc2, hf2, hz2⟩ := after hb2
  have hz2 : w1.heap.size < w2.heap.size := by simp at hz2; omega
  have hz3 : w.heap.size + 1 < w2.heap.size := by omega
  have e3 := eqArr3
  go_wp2_with fail
  have q1 : w.heap.size < w1.heap.size := by omega
  have q2 : w.heap.size ≤ w1.heap.size := by omega
  have q3 : w.heap.size < w2.heap.size := by omega
  have q4 : w.heap.size ≤ w2.heap.size := by omega
  have q5 : w1.heap.size ≤ w2.heap.size := by omega
  have hx := extCell
  refine regionBelow (by kernel_rfl) (by kernel_rfl) ?_
  repeat (go_big_quiet_step ((first
    | (go_at_call 24; exact quietBelow (opRight _ _ _ _))
    | (go_at_call 25; exact quietBelow (refRight _ _ _ _))
    | (go_at_call 26; exact quietBelow (opWords _ _ _ _))
    | (go_at_call 27; exact quietBelow (refWords _ _ _ _ k1 k2))
    | (go_at_call 28; exact quietBelow (liveOp _)))))
  refine wpQuiet_nil ?_
  intro _ hw'
  obtain ⟨nq, hw''⟩ := hw'
  subst hw''
  go_wp2
  go_ret
  have hn := nq.below
  exact ⟨rfl, bel⟩

theorem valsForm (num e o a : Int) : ∃ p q r s c, valsOf num e o a = .tuple #[.agg #[.int .u32 p, .int .u32 q, .int .u32 r, .int .u32 s], .bool c] := by
  unfold valsOf
  split
  · exact ⟨_, _, _, _, _, rfl⟩
  · exact ⟨_, _, _, _, _, rfl⟩

set_option maxHeartbeats 1600000 in
theorem lawOpVals (w : World) (num e o a : Int) (v0 v1 v2 v3 : Nat) (n1 : -9223372036854775808 ≤ num) (n2 : num ≤ 9223372036854775807) (ee1 : -9223372036854775808 ≤ e) (ee2 : e ≤ 9223372036854775807) (o1 : -9223372036854775808 ≤ o) (o2 : o ≤ 9223372036854775807) (a1 : -9223372036854775808 ≤ a) (a2 : a ≤ 9223372036854775807) (h0 : v0 < 4294967296) (h1 : v1 < 4294967296) (h2 : v2 < 4294967296) (h3 : v3 < 4294967296) :
    Calls Try.prog 7 #[.int .i64 num, .agg #[.int .i64 e, .int .i64 o, .int .i64 a], .agg #[.int .u32 v0, .int .u32 v1, .int .u32 v2, .int .u32 v3]] w fun e w' => e = .returned (.bool true) ∧ Below w.heap.size w w' := by
  obtain ⟨p, q, r, s, c, hof⟩ := valsForm num e o a
  have H := hid hof; clear hof
  clear n1 n2 ee1 ee2 o1 o2 a1 a2
  have e4 := eqArr4
  go_enter Try.func7, Try.ntmps7
  go_wp2_with fail
  refine (opVals num e o a _).mono ?_
  rw [H.out]
  rintro e w1 ⟨rfl, hb1⟩
  obtain ⟨hc1, hf1, hz1⟩ := after hb1
  have hz1 : w.heap.size + 1 < w1.heap.size := by simp at hz1; omega
  have q1 : w.heap.size < w1.heap.size := by omega
  go_wp2_with fail
  refine (refVals num _ o a _).mono ?_
  rw [H.out]
  rintro e w2 ⟨rfl, hb2⟩
  obtain ⟨hc2, hf2, hz2⟩ := after hb2
  have hz2 : w1.heap.size < w2.heap.size := by simp at hz2; omega
  have hz3 : w.heap.size + 1 < w2.heap.size := by omega
  have q2 : w.heap.size < w2.heap.size := by omega
  go_wp2_with fail
  refine (opOfVals v0 v1 v2 v3 _ h0 h1 h2 h3).mono ?_
  rintro e w3 ⟨rfl, hb3⟩
  obtain ⟨hc3, hf3, hz4⟩ := after hb3
  have hz4 : w2.heap.size < w3.heap.size := by simp at hz4; omega
  have hz5 : w1.heap.size < w3.heap.size := by omega
  have hz6 : w.heap.size + 1 < w3.heap.size := by omega
  have q3 : w.heap.size < w3.heap.size := by omega
  go_wp2_with (go_at_call 28; refine (liveOp _).mono ?_; rintro e w4 ⟨rfl, hb4⟩)
  go_ret
  exact ⟨rfl, bel⟩

theorem back64 (k : Int) (h1 : -9223372036854775808 ≤ k) (h2 : k ≤ 9223372036854775807) : wrap64 (IntKind.u64.wrap k) = k := by
  rw [IntKind.wrap_u64]
  unfold wrap64
  omega
theorem ofWordsBack (k a b : Int) (k1 : -9223372036854775808 ≤ k) (k2 : k ≤ 9223372036854775807) (a1 : -9223372036854775808 ≤ a) (a2 : a ≤ 9223372036854775807) (b1 : -9223372036854775808 ≤ b) (b2 : b ≤ 9223372036854775807) :
    ofWords (IntKind.u64.wrap k) (IntKind.u64.wrap a) (IntKind.u64.wrap b) = if rightB k a b then .tuple #[.agg #[.int .i64 k, .int .i64 a, .int .i64 b], .bool true] else .tuple #[.agg #[.int .i64 0, .int .i64 0, .int .i64 0], .bool false] := by
  unfold ofWords
  rw [back64 k k1 k2, back64 a a1 a2, back64 b b1 b2]

set_option maxHeartbeats 3200000 in
theorem lawOpBack (w : World) (k a b num e o u : Int) (k1 : -9223372036854775808 ≤ k) (k2 : k ≤ 9223372036854775807) (a1 : -9223372036854775808 ≤ a) (a2 : a ≤ 9223372036854775807) (b1 : -9223372036854775808 ≤ b) (b2 : b ≤ 9223372036854775807) (n1 : -9223372036854775808 ≤ num) (n2 : num ≤ 9223372036854775807) (e1 : -9223372036854775808 ≤ e) (e2 : e ≤ 9223372036854775807) (o1 : -9223372036854775808 ≤ o) (o2 : o ≤ 9223372036854775807) (u1 : -9223372036854775808 ≤ u) (u2 : u ≤ 9223372036854775807) :
    Calls Try.prog 8 #[.agg #[.int .i64 k, .int .i64 a, .int .i64 b], .int .i64 num, .agg #[.int .i64 e, .int .i64 o, .int .i64 u]] w fun e w' => e = .returned (.bool true) ∧ Below w.heap.size w w' := by
  have hb := ofWordsBack k a b k1 k2 a1 a2 b1 b2
  have e4 := eqArr4
  have hr : ∃ c, rightB k a b = c := ⟨_, rfl⟩
  obtain ⟨c, hr⟩ := hr
  have hv : ((0 ≤ num ∧ num ≤ 2147483647) ∧ (0 ≤ e ∧ e ≤ 4294967295) ∧ (0 ≤ o ∧ o ≤ 4294967295) ∧ (0 ≤ u ∧ u ≤ 4294967295)) ∨ ¬ ((0 ≤ num ∧ num ≤ 2147483647) ∧ (0 ≤ e ∧ e ≤ 4294967295) ∧ (0 ≤ o ∧ o ≤ 4294967295) ∧ (0 ≤ u ∧ u ≤ 4294967295)) := by omega
  cases c <;> rcases hv with hv | hv
  all_goals
    rw [hr] at hb
    simp only [Bool.false_eq_true, if_false, if_true] at hb
    have HB := hid hb; clear hb
    have HR := hid hr; clear hr
    clear k1 k2 a1 a2 b1 b2 n1 n2 e1 e2 o1 o2 u1 u2
  all_goals first
    | (have HV := hid (valsYes num e o u hv)
       obtain ⟨⟨c1, c2⟩, ⟨c3, c4⟩, ⟨c5, c6⟩, c7, c8⟩ := hv
       obtain ⟨num, rfl⟩ := Int.eq_ofNat_of_zero_le c1
       obtain ⟨e, rfl⟩ := Int.eq_ofNat_of_zero_le c3
       obtain ⟨o, rfl⟩ := Int.eq_ofNat_of_zero_le c5
       obtain ⟨u, rfl⟩ := Int.eq_ofNat_of_zero_le c7)
    | (have HV := hid (valsNo num e o u hv); clear hv)
  all_goals
    go_enter Try.func8, Try.ntmps8
    go_wp2_with fail
    refine (opWords k a b _).mono ?_
    rintro e w1 ⟨rfl, hb1⟩
    obtain ⟨hc1, hf1, hz1⟩ := after hb1
    have hz1 : w.heap.size + 1 < w1.heap.size := by simp at hz1; omega
    have q1 : w.heap.size < w1.heap.size := by omega
    go_wp2_with fail
    refine (opOf _ _ _ _).mono ?_
    rw [HB.out]
    rintro e w2 ⟨rfl, hb2⟩
    obtain ⟨hc2, hf2, hz2⟩ := after hb2
    have hz3 : w.heap.size + 1 < w2.heap.size := by omega
    have q2 : w.heap.size < w2.heap.size := by omega
    go_wp2_with fail
    refine (opRight _ _ _ _).mono ?_
    rw [HR.out]
    rintro e w3 ⟨rfl, hb3⟩
    obtain ⟨hc3, hf3, hz4⟩ := after hb3
    have hz4 : w2.heap.size < w3.heap.size := by simp at hz4; omega
    have hz6 : w.heap.size + 1 < w3.heap.size := by omega
    have q3 : w.heap.size < w3.heap.size := by omega
    go_wp2_with fail
    refine (opVals _ _ _ _ _).mono ?_
    rw [HV.out]
    rintro e w4 ⟨rfl, hb4⟩
    obtain ⟨hc4, hf4, hz7⟩ := after hb4
    have hz8 : w2.heap.size < w4.heap.size := by omega
    have hz9 : w.heap.size + 1 < w4.heap.size := by omega
    have q4 : w.heap.size < w4.heap.size := by omega
    go_wp2_with fail
  all_goals first
    | (refine (liveOp _).mono ?_
       rintro e w5 ⟨rfl, hb5⟩
       go_wp2
       go_ret
       exact ⟨rfl, bel⟩)
    | (refine (opOfVals _ _ _ _ _ (by omega) (by omega) (by omega) (by omega)).mono ?_
       rintro e w5 ⟨rfl, hb5⟩
       obtain ⟨hc5, hf5, hz10⟩ := after hb5
       have hz11 : w4.heap.size < w5.heap.size := by simp at hz10; omega
       have hz12 : w2.heap.size < w5.heap.size := by omega
       have hz13 : w.heap.size + 1 < w5.heap.size := by omega
       have q5 : w.heap.size < w5.heap.size := by omega
       go_wp2_with fail
       refine (liveOp _).mono ?_
       rintro e w6 ⟨rfl, hb6⟩
       go_wp2
       go_ret
       exact ⟨rfl, bel⟩)

end Go.Proofs.Ytdobepeeenjeeaa
