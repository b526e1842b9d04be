/- The walks of the tests on numbers of acts and lines: package entry's steps, the reference's numbered. -/
import Derived.Test.YtpeeaapheohehaaEnUses
import Derived.Test.YtpeeaapheohehaaPlaceRef
import Derived.Test.YtpeeaapheohehaaBlk
import Derived.BigQuiet
namespace Go.Proofs.Ytpeeaapheohehaa
open Go.RowKit
set_option linter.unusedVariables false
set_option linter.unusedSimpArgs false

/-- The number of acts, or the line and its mask. -/
def stepsB (t p s : Int) (e : En) : Bool :=
  if e.k = 2 then decide (1 ≤ e.n ∧ e.n ≤ 256) else if e.k = 5 then decide (1 ≤ e.n ∧ e.n ≤ 4096) else if e.k = 3 then decide ((0 ≤ e.n ∧ 8 * e.n < wordsC t p s) ∧ (1 ≤ e.m ∧ e.m ≤ 255)) else true
set_option maxRecDepth 100000 in
set_option maxHeartbeats 6400000 in
theorem enSteps (ct cp cs k t num ok oa ob n m : Int) (w : World) (bn : -9223372036854775808 ≤ n ∧ n ≤ 9223372036854775807) :
    Calls Try.prog 98 #[.agg #[.int .i64 ct, .int .i64 cp, .int .i64 cs], .agg #[.int .i64 k, .int .i64 t, .int .i64 num, .int .i64 ok, .int .i64 oa, .int .i64 ob, .int .i64 n, .int .i64 m]] w fun e w' => e = .returned (.bool (stepsB ct cp cs ⟨k, t, num, ok, oa, ob, n, m⟩)) ∧ Below w.heap.size w w' := by
  have hx := extCell
  have WD := hidAll fun w => placeWords ct cp cs w
  have wb := @words_bd ct cp cs
  rcases enKinds k with rfl | rfl | rfl | rfl | rfl | ⟨h1, h2, h3, h5, h6⟩
  · skip
    have HB := hid (show stepsB ct cp cs ⟨1, t, num, ok, oa, ob, n, m⟩ = true by simp [stepsB])
    rw [HB.out]
    go_enter Try.func98, Try.ntmps98
    go_wp2_with fail
    go_ret
    exact ⟨ret_bool (by first | rfl | (simp; omega) | (simp [*]; done)), bel⟩
  · by_cases g1 : 1 ≤ n
    · by_cases g2 : n ≤ 256
      · skip
        have HB := hid (show stepsB ct cp cs ⟨2, t, num, ok, oa, ob, n, m⟩ = true by simp [stepsB, g1, g2])
        rw [HB.out]
        go_enter Try.func98, Try.ntmps98
        go_wp2_with fail
        go_ret
        exact ⟨ret_bool (by first | rfl | (simp; omega) | (simp [*]; done)), bel⟩
      · skip
        have HB := hid (show stepsB ct cp cs ⟨2, t, num, ok, oa, ob, n, m⟩ = false by simp [stepsB]; omega)
        rw [HB.out]
        go_enter Try.func98, Try.ntmps98
        go_wp2_with fail
        go_ret
        exact ⟨ret_bool (by first | rfl | (simp; omega) | (simp [*]; done)), bel⟩
    · skip
      have HB := hid (show stepsB ct cp cs ⟨2, t, num, ok, oa, ob, n, m⟩ = false by simp [stepsB]; omega)
      rw [HB.out]
      go_enter Try.func98, Try.ntmps98
      go_wp2_with fail
      go_ret
      exact ⟨ret_bool (by first | rfl | (simp; omega) | (simp [*]; done)), bel⟩
  · generalize hW : wordsC ct cp cs = W at WD wb
    by_cases g1 : 0 ≤ n
    · by_cases g2 : 8 * n < W
      · have g2d : n < W / 8 := by omega
        by_cases g3 : 1 ≤ m
        · by_cases g4 : m ≤ 255
          · skip
            have HB := hid (show stepsB ct cp cs ⟨3, t, num, ok, oa, ob, n, m⟩ = true by simp [stepsB, hW, g1, g2, g3, g4])
            have q : W.tdiv 8 = W / 8 := by rw [Int.tdiv_eq_ediv_of_nonneg wb.1]
            have WW := hid hW
            clear hW
            have d2 : decide (n < W / 8) = true := decide_eq_true g2d
            rw [HB.out]
            go_enter Try.func98, Try.ntmps98
            go_wp2_with fail
            refine regionBelow (by kernel_rfl) (by kernel_rfl) ?_
            repeat (go_big_quiet_step ((go_at_call 24; exact quietBelow (WD.out _))))
            refine wpQuiet_nil ?_
            intro _ hw'
            obtain ⟨nq, hw''⟩ := hw'
            subst hw''
            have hn := nq.below
            go_wp2_with fail
            go_ret
            exact ⟨ret_bool (by first | rfl | (simp; omega) | (simp [*]; done)), bel⟩
          · skip
            have HB := hid (show stepsB ct cp cs ⟨3, t, num, ok, oa, ob, n, m⟩ = false by simp [stepsB, hW]; omega)
            have q : W.tdiv 8 = W / 8 := by rw [Int.tdiv_eq_ediv_of_nonneg wb.1]
            have WW := hid hW
            clear hW
            have d2 : decide (n < W / 8) = true := decide_eq_true g2d
            have d4 : decide (m ≤ 255) = false := decide_eq_false g4
            rw [HB.out]
            go_enter Try.func98, Try.ntmps98
            go_wp2_with fail
            refine regionBelow (by kernel_rfl) (by kernel_rfl) ?_
            repeat (go_big_quiet_step ((go_at_call 24; exact quietBelow (WD.out _))))
            refine wpQuiet_nil ?_
            intro _ hw'
            obtain ⟨nq, hw''⟩ := hw'
            subst hw''
            have hn := nq.below
            go_wp2_with fail
            go_ret
            exact ⟨ret_bool (by first | rfl | (simp; omega) | (simp [*]; done)), bel⟩
        · skip
          have HB := hid (show stepsB ct cp cs ⟨3, t, num, ok, oa, ob, n, m⟩ = false by simp [stepsB, hW]; omega)
          have q : W.tdiv 8 = W / 8 := by rw [Int.tdiv_eq_ediv_of_nonneg wb.1]
          have WW := hid hW
          clear hW
          have d2 : decide (n < W / 8) = true := decide_eq_true g2d
          have d3 : decide (1 ≤ m) = false := decide_eq_false g3
          rw [HB.out]
          go_enter Try.func98, Try.ntmps98
          go_wp2_with fail
          refine regionBelow (by kernel_rfl) (by kernel_rfl) ?_
          repeat (go_big_quiet_step ((go_at_call 24; exact quietBelow (WD.out _))))
          refine wpQuiet_nil ?_
          intro _ hw'
          obtain ⟨nq, hw''⟩ := hw'
          subst hw''
          have hn := nq.below
          go_wp2_with fail
          go_ret
          exact ⟨ret_bool (by first | rfl | (simp; omega) | (simp [*]; done)), bel⟩
      · skip
        have HB := hid (show stepsB ct cp cs ⟨3, t, num, ok, oa, ob, n, m⟩ = false by simp [stepsB, hW]; omega)
        have g2d : ¬ n < W / 8 := by omega
        have q : W.tdiv 8 = W / 8 := by rw [Int.tdiv_eq_ediv_of_nonneg wb.1]
        have WW := hid hW
        clear hW
        have d2 : decide (n < W / 8) = false := decide_eq_false g2d
        rw [HB.out]
        go_enter Try.func98, Try.ntmps98
        go_wp2_with fail
        refine regionBelow (by kernel_rfl) (by kernel_rfl) ?_
        repeat (go_big_quiet_step ((go_at_call 24; exact quietBelow (WD.out _))))
        refine wpQuiet_nil ?_
        intro _ hw'
        obtain ⟨nq, hw''⟩ := hw'
        subst hw''
        have hn := nq.below
        go_wp2_with fail
        go_ret
        exact ⟨ret_bool (by first | rfl | (simp; omega) | (simp [*]; done)), bel⟩
    · skip
      have HB := hid (show stepsB ct cp cs ⟨3, t, num, ok, oa, ob, n, m⟩ = false by simp [stepsB, hW]; omega)
      have WW := hid hW
      clear hW
      have d1 : decide (0 ≤ n) = false := decide_eq_false g1
      rw [HB.out]
      go_enter Try.func98, Try.ntmps98
      go_wp2_with fail
      refine regionBelow (by kernel_rfl) (by kernel_rfl) ?_
      repeat (go_big_quiet_step ((go_at_call 24; exact quietBelow (WD.out _))))
      refine wpQuiet_nil ?_
      intro _ hw'
      obtain ⟨nq, hw''⟩ := hw'
      subst hw''
      have hn := nq.below
      go_wp2_with fail
      go_ret
      exact ⟨ret_bool (by first | rfl | (simp; omega) | (simp [*]; done)), bel⟩
  · by_cases g1 : 1 ≤ n
    · by_cases g2 : n ≤ 4096
      · skip
        have HB := hid (show stepsB ct cp cs ⟨5, t, num, ok, oa, ob, n, m⟩ = true by simp [stepsB, g1, g2])
        rw [HB.out]
        go_enter Try.func98, Try.ntmps98
        go_wp2_with fail
        go_ret
        exact ⟨ret_bool (by first | rfl | (simp; omega) | (simp [*]; done)), bel⟩
      · skip
        have HB := hid (show stepsB ct cp cs ⟨5, t, num, ok, oa, ob, n, m⟩ = false by simp [stepsB]; omega)
        rw [HB.out]
        go_enter Try.func98, Try.ntmps98
        go_wp2_with fail
        go_ret
        exact ⟨ret_bool (by first | rfl | (simp; omega) | (simp [*]; done)), bel⟩
    · skip
      have HB := hid (show stepsB ct cp cs ⟨5, t, num, ok, oa, ob, n, m⟩ = false by simp [stepsB]; omega)
      rw [HB.out]
      go_enter Try.func98, Try.ntmps98
      go_wp2_with fail
      go_ret
      exact ⟨ret_bool (by first | rfl | (simp; omega) | (simp [*]; done)), bel⟩
  · skip
    have HB := hid (show stepsB ct cp cs ⟨6, t, num, ok, oa, ob, n, m⟩ = true by simp [stepsB])
    rw [HB.out]
    go_enter Try.func98, Try.ntmps98
    go_wp2_with fail
    go_ret
    exact ⟨ret_bool (by first | rfl | (simp; omega) | (simp [*]; done)), bel⟩
  · skip
    have HB := hid (show stepsB ct cp cs ⟨k, t, num, ok, oa, ob, n, m⟩ = true by simp [stepsB, h2, h3, h5])
    replace h1 := beq_eq_false_iff_ne.2 h1; replace h2 := beq_eq_false_iff_ne.2 h2; replace h3 := beq_eq_false_iff_ne.2 h3; replace h5 := beq_eq_false_iff_ne.2 h5; replace h6 := beq_eq_false_iff_ne.2 h6
    rw [HB.out]
    go_enter Try.func98, Try.ntmps98
    go_wp2_with fail
    go_ret
    exact ⟨ret_bool (by first | rfl | (simp; omega) | (simp [*]; done)), bel⟩

set_option maxRecDepth 100000 in
set_option maxHeartbeats 6400000 in
theorem ref32numbered (ct cp cs k t num ok oa ob n m : Int) (w : World) (bn : -9223372036854775808 ≤ n ∧ n ≤ 9223372036854775807) :
    Calls Try.prog 100 #[.agg #[.int .i64 ct, .int .i64 cp, .int .i64 cs], .agg #[.int .i64 k, .int .i64 t, .int .i64 num, .int .i64 ok, .int .i64 oa, .int .i64 ob, .int .i64 n, .int .i64 m]] w fun e w' => e = .returned (.bool (numbB ct cp cs ⟨k, t, num, ok, oa, ob, n, m⟩)) ∧ Below w.heap.size w w' := by
  have hx := extCell
  have WD := hidAll fun w => refWords ct cp cs w
  have wb := @words_bd ct cp cs
  rcases enKinds k with rfl | rfl | rfl | rfl | rfl | ⟨h1, h2, h3, h5, h6⟩
  · skip
    have HB := hid (show numbB ct cp cs ⟨1, t, num, ok, oa, ob, n, m⟩ = true by simp [numbB])
    rw [HB.out]
    go_enter Try.func100, Try.ntmps100
    go_wp2_with fail
    go_ret
    exact ⟨ret_bool (by first | rfl | (simp; omega) | (simp [*]; done)), bel⟩
  · by_cases g1 : 1 ≤ n
    · by_cases g2 : n ≤ 256
      · skip
        have HB := hid (show numbB ct cp cs ⟨2, t, num, ok, oa, ob, n, m⟩ = true by simp [numbB, g1, g2])
        rw [HB.out]
        go_enter Try.func100, Try.ntmps100
        go_wp2_with fail
        go_ret
        exact ⟨ret_bool (by first | rfl | (simp; omega) | (simp [*]; done)), bel⟩
      · skip
        have HB := hid (show numbB ct cp cs ⟨2, t, num, ok, oa, ob, n, m⟩ = false by simp [numbB]; omega)
        rw [HB.out]
        go_enter Try.func100, Try.ntmps100
        go_wp2_with fail
        go_ret
        exact ⟨ret_bool (by first | rfl | (simp; omega) | (simp [*]; done)), bel⟩
    · skip
      have HB := hid (show numbB ct cp cs ⟨2, t, num, ok, oa, ob, n, m⟩ = false by simp [numbB]; omega)
      rw [HB.out]
      go_enter Try.func100, Try.ntmps100
      go_wp2_with fail
      go_ret
      exact ⟨ret_bool (by first | rfl | (simp; omega) | (simp [*]; done)), bel⟩
  · generalize hW : wordsC ct cp cs = W at WD wb
    by_cases g1 : 0 ≤ n
    · by_cases g2 : 8 * n < W
      · have g2d : n < 65536 := by omega
        have m8 : IntKind.i64.wrap (8 * n) = 8 * n := by rw [IntKind.wrap_i64]; omega
        have HB := hid (show numbB ct cp cs ⟨3, t, num, ok, oa, ob, n, m⟩ = true by simp [numbB, hW, g1, g2])
        have WW := hid hW
        clear hW
        rw [HB.out]
        go_enter Try.func100, Try.ntmps100
        go_wp2_with fail
        refine regionBelow (by kernel_rfl) (by kernel_rfl) ?_
        repeat (go_big_quiet_step ((go_at_call 27; exact quietBelow (WD.out _))))
        refine wpQuiet_nil ?_
        intro _ hw'
        obtain ⟨nq, hw''⟩ := hw'
        subst hw''
        have hn := nq.below
        go_wp2_with fail
        go_ret
        exact ⟨ret_bool (by first | rfl | (simp; omega) | (simp [*]; done)), bel⟩
      · by_cases g5 : n ≤ 1152921504606846975
        · have m8 : IntKind.i64.wrap (8 * n) = 8 * n := by rw [IntKind.wrap_i64]; omega
          have HB := hid (show numbB ct cp cs ⟨3, t, num, ok, oa, ob, n, m⟩ = false by simp [numbB, hW]; omega)
          have WW := hid hW
          clear hW
          have d2 : decide (8 * n < W) = false := decide_eq_false g2
          rw [HB.out]
          go_enter Try.func100, Try.ntmps100
          go_wp2_with fail
          refine regionBelow (by kernel_rfl) (by kernel_rfl) ?_
          repeat (go_big_quiet_step ((go_at_call 27; exact quietBelow (WD.out _))))
          refine wpQuiet_nil ?_
          intro _ hw'
          obtain ⟨nq, hw''⟩ := hw'
          subst hw''
          have hn := nq.below
          go_wp2_with fail
          go_ret
          exact ⟨ret_bool (by first | rfl | (simp; omega) | (simp [*]; done)), bel⟩
        · have g6 : ¬ n < 65536 := by omega
          by_cases g7 : wrap64 (8 * n) < W
          · skip
            have HB := hid (show numbB ct cp cs ⟨3, t, num, ok, oa, ob, n, m⟩ = false by simp [numbB, hW]; omega)
            have WW := hid hW
            clear hW
            have d7 : decide (wrap64 (8 * n) < W) = true := decide_eq_true g7
            have d6 : decide (n < 65536) = false := decide_eq_false g6
            rw [HB.out]
            go_enter Try.func100, Try.ntmps100
            go_wp2_with fail
            refine regionBelow (by kernel_rfl) (by kernel_rfl) ?_
            repeat (go_big_quiet_step ((go_at_call 27; exact quietBelow (WD.out _))))
            refine wpQuiet_nil ?_
            intro _ hw'
            obtain ⟨nq, hw''⟩ := hw'
            subst hw''
            have hn := nq.below
            go_wp2_with fail
            go_ret
            exact ⟨ret_bool (by first | rfl | (simp; omega) | (simp [*]; done)), bel⟩
          · skip
            have HB := hid (show numbB ct cp cs ⟨3, t, num, ok, oa, ob, n, m⟩ = false by simp [numbB, hW]; omega)
            have WW := hid hW
            clear hW
            have d7 : decide (wrap64 (8 * n) < W) = false := decide_eq_false g7
            rw [HB.out]
            go_enter Try.func100, Try.ntmps100
            go_wp2_with fail
            refine regionBelow (by kernel_rfl) (by kernel_rfl) ?_
            repeat (go_big_quiet_step ((go_at_call 27; exact quietBelow (WD.out _))))
            refine wpQuiet_nil ?_
            intro _ hw'
            obtain ⟨nq, hw''⟩ := hw'
            subst hw''
            have hn := nq.below
            go_wp2_with fail
            go_ret
            exact ⟨ret_bool (by first | rfl | (simp; omega) | (simp [*]; done)), bel⟩
    · skip
      have HB := hid (show numbB ct cp cs ⟨3, t, num, ok, oa, ob, n, m⟩ = false by simp [numbB, hW]; omega)
      have WW := hid hW
      clear hW
      have d1 : decide (0 ≤ n) = false := decide_eq_false g1
      rw [HB.out]
      go_enter Try.func100, Try.ntmps100
      go_wp2_with fail
      refine regionBelow (by kernel_rfl) (by kernel_rfl) ?_
      repeat (go_big_quiet_step ((go_at_call 27; exact quietBelow (WD.out _))))
      refine wpQuiet_nil ?_
      intro _ hw'
      obtain ⟨nq, hw''⟩ := hw'
      subst hw''
      have hn := nq.below
      go_wp2_with fail
      go_ret
      exact ⟨ret_bool (by first | rfl | (simp; omega) | (simp [*]; done)), bel⟩
  · by_cases g1 : 1 ≤ n
    · by_cases g2 : n ≤ 4096
      · skip
        have HB := hid (show numbB ct cp cs ⟨5, t, num, ok, oa, ob, n, m⟩ = true by simp [numbB, g1, g2])
        rw [HB.out]
        go_enter Try.func100, Try.ntmps100
        go_wp2_with fail
        go_ret
        exact ⟨ret_bool (by first | rfl | (simp; omega) | (simp [*]; done)), bel⟩
      · skip
        have HB := hid (show numbB ct cp cs ⟨5, t, num, ok, oa, ob, n, m⟩ = false by simp [numbB]; omega)
        rw [HB.out]
        go_enter Try.func100, Try.ntmps100
        go_wp2_with fail
        go_ret
        exact ⟨ret_bool (by first | rfl | (simp; omega) | (simp [*]; done)), bel⟩
    · skip
      have HB := hid (show numbB ct cp cs ⟨5, t, num, ok, oa, ob, n, m⟩ = false by simp [numbB]; omega)
      rw [HB.out]
      go_enter Try.func100, Try.ntmps100
      go_wp2_with fail
      go_ret
      exact ⟨ret_bool (by first | rfl | (simp; omega) | (simp [*]; done)), bel⟩
  · skip
    have HB := hid (show numbB ct cp cs ⟨6, t, num, ok, oa, ob, n, m⟩ = true by simp [numbB])
    rw [HB.out]
    go_enter Try.func100, Try.ntmps100
    go_wp2_with fail
    go_ret
    exact ⟨ret_bool (by first | rfl | (simp; omega) | (simp [*]; done)), bel⟩
  · skip
    have HB := hid (show numbB ct cp cs ⟨k, t, num, ok, oa, ob, n, m⟩ = true by simp [numbB, h2, h3, h5])
    replace h1 := beq_eq_false_iff_ne.2 h1; replace h2 := beq_eq_false_iff_ne.2 h2; replace h3 := beq_eq_false_iff_ne.2 h3; replace h5 := beq_eq_false_iff_ne.2 h5; replace h6 := beq_eq_false_iff_ne.2 h6
    rw [HB.out]
    go_enter Try.func100, Try.ntmps100
    go_wp2_with fail
    go_ret
    exact ⟨ret_bool (by first | rfl | (simp; omega) | (simp [*]; done)), bel⟩

end Go.Proofs.Ytpeeaapheohehaa
