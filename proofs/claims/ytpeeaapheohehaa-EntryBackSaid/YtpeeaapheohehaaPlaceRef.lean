/- The walks of the reference's places: cells, words. -/
import Derived.Test.YtpeeaapheohehaaPlace2
namespace Go.Proofs.Ytpeeaapheohehaa
open Go.RowKit
set_option linter.unusedVariables false
set_option linter.unusedSimpArgs false


set_option maxHeartbeats 800000 in
theorem refCells (t p s : Int) (w : World) :
    Calls Try.prog 46 #[.agg #[.int .i64 t, .int .i64 p, .int .i64 s]] w fun e w' => e = .returned (.int .i64 (cellsC t p s)) ∧ Below w.heap.size w w' := by
  have hr : ∃ c, rightC t p s = c := ⟨_, rfl⟩
  obtain ⟨c, hr⟩ := hr
  cases c
  · have H := hid (show cellsC t p s = 0 by simp [cellsC, hr])
    have R := hid hr
    clear hr
    go_enter Try.func46, Try.ntmps46
    go_wp2_with (first
      | (go_at_call 87; refine (refRightC _ _ _ _).mono ?_; rw [R.out]; rintro e w1 ⟨rfl, hb1⟩; obtain ⟨hc1, hf1, hz1⟩ := after hb1; (try simp at hz1)))
    all_goals go_ret
    all_goals exact ⟨ret_int (by rw [H.out]), bel⟩
  · have R := hid hr
    obtain ⟨⟨h1, h2⟩, ⟨h3, h4⟩, h5, h6⟩ := rightC_of hr
    have mb := makers_bd ⟨⟨h1, h2⟩, h3, h4⟩
    have cb : 58 ≤ cellsN t p ∧ cellsN t p ≤ 6238 := by unfold cellsN; omega
    have H := hid (show cellsC t p s = 30 + 4 * t + 6 * p by rw [cellsC, hr]; rfl)
    have RR := hid hr
    clear hr
    go_enter Try.func46, Try.ntmps46
    go_wp2_with (first
      | (go_at_call 87; refine (refRightC _ _ _ _).mono ?_; rw [R.out]; rintro e w1 ⟨rfl, hb1⟩; obtain ⟨hc1, hf1, hz1⟩ := after hb1; (try simp at hz1)))
    all_goals go_ret
    all_goals exact ⟨ret_int (by rw [H.out]), bel⟩

set_option maxHeartbeats 800000 in
theorem refFirst (t p s : Int) (w : World) (hr : rightC t p s = true) :
    Calls Try.prog 88 #[.agg #[.int .i64 t, .int .i64 p, .int .i64 s]] w fun e w' => e = .returned (.int .i64 (makersN t p)) ∧ Below w.heap.size w w' := by
  obtain ⟨⟨h1, h2⟩, ⟨h3, h4⟩, h5, h6⟩ := rightC_of hr
  have mb := makers_bd ⟨⟨h1, h2⟩, h3, h4⟩
  have cb : 58 ≤ cellsN t p ∧ cellsN t p ≤ 6238 := by unfold cellsN; omega
  have C := hid (show cellsC t p s = cellsN t p by rw [cellsC, hr]; rfl)
  clear hr
  go_enter Try.func88, Try.ntmps88
  go_wp2_with fail
  refine (refCells _ _ _ _).mono ?_
  rw [C.out]
  rintro e w2 ⟨rfl, hb2⟩
  go_wp2_with fail
  go_loop [3] (fun v => ∃ k : Int, 16 + cellsN t p ≤ k ∧ k ≤ makersN t p ∧ v = .int .i64 k) (fun v => (makersN t p - intOf v).toNat)
  case atStart => exact ⟨_, Int.le_refl _, by omega, rfl⟩
  case round =>
    obtain ⟨k, k1, k2, rfl⟩ := hrel
    by_cases hk : k = makersN t p
    · have d : (k % 8 != 0) = false := by rw [bne_eq_false_iff_eq]; omega
      have d' : k % 8 = 0 := by omega
      have K := hid hk; clear hk
      go_wp2
      go_ret
      exact ⟨ret_int K.out, bel⟩
    · have d : (k % 8 != 0) = true := by rw [bne_iff_ne]; omega
      have k3 : k < makersN t p := by omega
      clear hk
      go_wp2
      go_round
      case rel => exact ⟨k + 1, by omega, by omega, rfl⟩
      case measure => simp [intOf]; omega


set_option maxHeartbeats 800000 in
theorem refWords (t p s : Int) (w : World) :
    Calls Try.prog 27 #[.agg #[.int .i64 t, .int .i64 p, .int .i64 s]] w fun e w' => e = .returned (.int .i64 (wordsC t p s)) ∧ Below w.heap.size w w' := by
  have hr : ∃ c, rightC t p s = c := ⟨_, rfl⟩
  obtain ⟨c, hr⟩ := hr
  cases c
  · have H := hid (show wordsC t p s = 0 by simp [wordsC, hr])
    have R := hid hr
    clear hr
    go_enter Try.func27, Try.ntmps27
    go_wp2_with (first
      | (go_at_call 87; refine (refRightC _ _ _ _).mono ?_; rw [R.out]; rintro e w1 ⟨rfl, hb1⟩; obtain ⟨hc1, hf1, hz1⟩ := after hb1; (try simp at hz1))
      | (go_at_call 88; refine (refFirst _ _ _ _ RR.out).mono ?_; rintro e w3 ⟨rfl, hb3⟩; obtain ⟨hc3, hf3, hz3⟩ := after hb3; (try simp at hz3)))
    all_goals go_ret
    all_goals exact ⟨ret_int (by rw [H.out]), bel⟩
  · have R := hid hr
    obtain ⟨⟨h1, h2⟩, ⟨h3, h4⟩, h5, h6⟩ := rightC_of hr
    have mb := makers_bd ⟨⟨h1, h2⟩, h3, h4⟩
    have cb : 58 ≤ cellsN t p ∧ cellsN t p ≤ 6238 := by unfold cellsN; omega
    have H := hid (show wordsC t p s = makersN t p + 120 * (t + 1) by rw [wordsC, hr]; rfl)
    have RR := hid hr; have hx := extCell
    clear hr
    go_enter Try.func27, Try.ntmps27
    go_wp2_with (go_at_call 87; refine (refRightC _ _ _ _).mono ?_; rw [R.out]; rintro e w1 ⟨rfl, hb1⟩; obtain ⟨hc1, hf1, hz1⟩ := after hb1; (try simp at hz1); have z1 : w.heap.size < w1.heap.size := by omega)
    refine regionBelow (by kernel_rfl) (by kernel_rfl) ?_
    repeat (go_big_quiet_step ((first
      | (go_at_call 88; exact quietBelow (refFirst _ _ _ _ RR.out)))))
    refine wpQuiet_nil ?_
    intro _ hw'
    obtain ⟨nq, hw''⟩ := hw'
    subst hw''
    have hn := nq.below
    go_wp2
    go_ret
    exact ⟨ret_int (by rw [H.out]), bel⟩

set_option maxHeartbeats 800000 in
theorem refDone (t p s : Int) (i f : Int) (w : World) :
    Calls Try.prog 44 #[.agg #[.int .i64 t, .int .i64 p, .int .i64 s], .int .i64 i, .int .i64 f] w fun e w' => e = .returned (.int .i64 (doneV t p s i f)) ∧ Below w.heap.size w w' := by
  have hr : ∃ c, rightC t p s = c := ⟨_, rfl⟩
  obtain ⟨c, hr⟩ := hr
  cases c
  · have H := hid (show doneV t p s i f = -1 by simp [doneV, hr])
    have R := hid hr
    clear hr
    go_enter Try.func44, Try.ntmps44
    go_wp2_with (first
      | (go_at_call 87; refine (refRightC _ _ _ _).mono ?_; rw [R.out]; rintro e w1 ⟨rfl, hb1⟩; obtain ⟨hc1, hf1, hz1⟩ := after hb1; (try simp at hz1)))
    all_goals go_ret
    all_goals exact ⟨ret_int (by rw [H.out]), bel⟩
  · have R := hid hr
    obtain ⟨⟨h1, h2⟩, ⟨h3, h4⟩, h5, h6⟩ := rightC_of hr
    have mb := makers_bd ⟨⟨h1, h2⟩, h3, h4⟩
    have cb : 58 ≤ cellsN t p ∧ cellsN t p ≤ 6238 := by unfold cellsN; omega
    by_cases c1 : 0 ≤ i
    · skip
      by_cases c2 : i < t
      · skip
        by_cases c3 : 0 ≤ f
        · skip
          by_cases c4 : f ≤ 3
          · skip
            have H := hid (show doneV t p s i f = 30 + 4 * i + f by rw [doneV, hr]; simp [c1, c2, c3]; omega)
            have RR := hid hr
            clear hr
            go_enter Try.func44, Try.ntmps44
            go_wp2_with (first
              | (go_at_call 87; refine (refRightC _ _ _ _).mono ?_; rw [R.out]; rintro e w1 ⟨rfl, hb1⟩; obtain ⟨hc1, hf1, hz1⟩ := after hb1; (try simp at hz1)))
            all_goals go_ret
            all_goals exact ⟨ret_int (by rw [H.out]), bel⟩
          · have H := hid (show doneV t p s i f = -1 by rw [doneV, if_neg (by intro h; omega)])
            clear hr
            go_enter Try.func44, Try.ntmps44
            go_wp2_with (first
              | (go_at_call 87; refine (refRightC _ _ _ _).mono ?_; rw [R.out]; rintro e w1 ⟨rfl, hb1⟩; obtain ⟨hc1, hf1, hz1⟩ := after hb1; (try simp at hz1)))
            all_goals go_ret
            all_goals exact ⟨ret_int (by rw [H.out]), bel⟩
        · have H := hid (show doneV t p s i f = -1 by rw [doneV, if_neg (by intro h; omega)])
          clear hr
          go_enter Try.func44, Try.ntmps44
          go_wp2_with (first
            | (go_at_call 87; refine (refRightC _ _ _ _).mono ?_; rw [R.out]; rintro e w1 ⟨rfl, hb1⟩; obtain ⟨hc1, hf1, hz1⟩ := after hb1; (try simp at hz1)))
          all_goals go_ret
          all_goals exact ⟨ret_int (by rw [H.out]), bel⟩
      · have H := hid (show doneV t p s i f = -1 by rw [doneV, if_neg (by intro h; omega)])
        clear hr
        go_enter Try.func44, Try.ntmps44
        go_wp2_with (first
          | (go_at_call 87; refine (refRightC _ _ _ _).mono ?_; rw [R.out]; rintro e w1 ⟨rfl, hb1⟩; obtain ⟨hc1, hf1, hz1⟩ := after hb1; (try simp at hz1)))
        all_goals go_ret
        all_goals exact ⟨ret_int (by rw [H.out]), bel⟩
    · have H := hid (show doneV t p s i f = -1 by rw [doneV, if_neg (by intro h; omega)])
      clear hr
      go_enter Try.func44, Try.ntmps44
      go_wp2_with (first
        | (go_at_call 87; refine (refRightC _ _ _ _).mono ?_; rw [R.out]; rintro e w1 ⟨rfl, hb1⟩; obtain ⟨hc1, hf1, hz1⟩ := after hb1; (try simp at hz1)))
      all_goals go_ret
      all_goals exact ⟨ret_int (by rw [H.out]), bel⟩

set_option maxHeartbeats 800000 in
theorem refPageC (t p s : Int) (i k : Int) (w : World) (k0 : 0 ≤ k) (k1 : k ≤ 5) :
    Calls Try.prog 93 #[.agg #[.int .i64 t, .int .i64 p, .int .i64 s], .int .i64 i, .int .i64 k] w fun e w' => e = .returned (.int .i64 (pageV t p s i k)) ∧ Below w.heap.size w w' := by
  have hr : ∃ c, rightC t p s = c := ⟨_, rfl⟩
  obtain ⟨c, hr⟩ := hr
  cases c
  · have H := hid (show pageV t p s i k = -1 by simp [pageV, hr])
    have R := hid hr
    clear hr
    go_enter Try.func93, Try.ntmps93
    go_wp2_with (first
      | (go_at_call 87; refine (refRightC _ _ _ _).mono ?_; rw [R.out]; rintro e w1 ⟨rfl, hb1⟩; obtain ⟨hc1, hf1, hz1⟩ := after hb1; (try simp at hz1)))
    all_goals go_ret
    all_goals exact ⟨ret_int (by rw [H.out]), bel⟩
  · have R := hid hr
    obtain ⟨⟨h1, h2⟩, ⟨h3, h4⟩, h5, h6⟩ := rightC_of hr
    have mb := makers_bd ⟨⟨h1, h2⟩, h3, h4⟩
    have cb : 58 ≤ cellsN t p ∧ cellsN t p ≤ 6238 := by unfold cellsN; omega
    by_cases c1 : 0 ≤ i
    · skip
      by_cases c2 : i < p
      · skip
        have H := hid (show pageV t p s i k = 30 + 4 * t + 6 * i + k by rw [pageV, hr]; simp [c1, c2])
        have RR := hid hr
        clear hr
        go_enter Try.func93, Try.ntmps93
        go_wp2_with (first
          | (go_at_call 87; refine (refRightC _ _ _ _).mono ?_; rw [R.out]; rintro e w1 ⟨rfl, hb1⟩; obtain ⟨hc1, hf1, hz1⟩ := after hb1; (try simp at hz1)))
        all_goals go_ret
        all_goals exact ⟨ret_int (by rw [H.out]), bel⟩
      · have H := hid (show pageV t p s i k = -1 by rw [pageV, if_neg (by intro h; omega)])
        clear hr
        go_enter Try.func93, Try.ntmps93
        go_wp2_with (first
          | (go_at_call 87; refine (refRightC _ _ _ _).mono ?_; rw [R.out]; rintro e w1 ⟨rfl, hb1⟩; obtain ⟨hc1, hf1, hz1⟩ := after hb1; (try simp at hz1)))
        all_goals go_ret
        all_goals exact ⟨ret_int (by rw [H.out]), bel⟩
    · have H := hid (show pageV t p s i k = -1 by rw [pageV, if_neg (by intro h; omega)])
      clear hr
      go_enter Try.func93, Try.ntmps93
      go_wp2_with (first
        | (go_at_call 87; refine (refRightC _ _ _ _).mono ?_; rw [R.out]; rintro e w1 ⟨rfl, hb1⟩; obtain ⟨hc1, hf1, hz1⟩ := after hb1; (try simp at hz1)))
      all_goals go_ret
      all_goals exact ⟨ret_int (by rw [H.out]), bel⟩

set_option maxHeartbeats 800000 in
theorem refCellW (t p s : Int) (i : Int) (w : World) :
    Calls Try.prog 29 #[.agg #[.int .i64 t, .int .i64 p, .int .i64 s], .int .i64 i] w fun e w' => e = .returned (.int .i64 (cellW t p s i)) ∧ Below w.heap.size w w' := by
  have hr : ∃ c, rightC t p s = c := ⟨_, rfl⟩
  obtain ⟨c, hr⟩ := hr
  cases c
  · have H := hid (show cellW t p s i = -1 by simp [cellW, hr])
    have R := hid hr
    have C := hid (show cellsC t p s = 0 by rw [cellsC, hr]; rfl)
    clear hr
    go_enter Try.func29, Try.ntmps29
    go_wp2_with (first
      | (go_at_call 87; refine (refRightC _ _ _ _).mono ?_; rw [R.out]; rintro e w1 ⟨rfl, hb1⟩; obtain ⟨hc1, hf1, hz1⟩ := after hb1; (try simp at hz1))
      | (go_at_call 46; refine (refCells _ _ _ _).mono ?_; rw [C.out]; rintro e w2 ⟨rfl, hb2⟩; obtain ⟨hc2, hf2, hz2⟩ := after hb2; (try simp at hz2)))
    all_goals go_ret
    all_goals exact ⟨ret_int (by rw [H.out]), bel⟩
  · have R := hid hr
    have C := hid (show cellsC t p s = cellsN t p by rw [cellsC, hr]; rfl)
    obtain ⟨⟨h1, h2⟩, ⟨h3, h4⟩, h5, h6⟩ := rightC_of hr
    have mb := makers_bd ⟨⟨h1, h2⟩, h3, h4⟩
    have cb : 58 ≤ cellsN t p ∧ cellsN t p ≤ 6238 := by unfold cellsN; omega
    by_cases c1 : 0 ≤ i
    · skip
      by_cases c2 : i < cellsN t p
      · skip
        have H := hid (show cellW t p s i = 16 + i by rw [cellW, hr]; simp [c1, c2])
        have RR := hid hr
        clear hr
        go_enter Try.func29, Try.ntmps29
        go_wp2_with (first
          | (go_at_call 87; refine (refRightC _ _ _ _).mono ?_; rw [R.out]; rintro e w1 ⟨rfl, hb1⟩; obtain ⟨hc1, hf1, hz1⟩ := after hb1; (try simp at hz1))
          | (go_at_call 46; refine (refCells _ _ _ _).mono ?_; rw [C.out]; rintro e w2 ⟨rfl, hb2⟩; obtain ⟨hc2, hf2, hz2⟩ := after hb2; (try simp at hz2)))
        all_goals go_ret
        all_goals exact ⟨ret_int (by rw [H.out]), bel⟩
      · have H := hid (show cellW t p s i = -1 by rw [cellW, if_neg (by intro h; omega)])
        clear hr
        go_enter Try.func29, Try.ntmps29
        go_wp2_with (first
          | (go_at_call 87; refine (refRightC _ _ _ _).mono ?_; rw [R.out]; rintro e w1 ⟨rfl, hb1⟩; obtain ⟨hc1, hf1, hz1⟩ := after hb1; (try simp at hz1))
          | (go_at_call 46; refine (refCells _ _ _ _).mono ?_; rw [C.out]; rintro e w2 ⟨rfl, hb2⟩; obtain ⟨hc2, hf2, hz2⟩ := after hb2; (try simp at hz2)))
        all_goals go_ret
        all_goals exact ⟨ret_int (by rw [H.out]), bel⟩
    · have H := hid (show cellW t p s i = -1 by rw [cellW, if_neg (by intro h; omega)])
      clear hr
      go_enter Try.func29, Try.ntmps29
      go_wp2_with (first
        | (go_at_call 87; refine (refRightC _ _ _ _).mono ?_; rw [R.out]; rintro e w1 ⟨rfl, hb1⟩; obtain ⟨hc1, hf1, hz1⟩ := after hb1; (try simp at hz1))
        | (go_at_call 46; refine (refCells _ _ _ _).mono ?_; rw [C.out]; rintro e w2 ⟨rfl, hb2⟩; obtain ⟨hc2, hf2, hz2⟩ := after hb2; (try simp at hz2)))
      all_goals go_ret
      all_goals exact ⟨ret_int (by rw [H.out]), bel⟩

set_option maxHeartbeats 800000 in
theorem refMaker (t p s : Int) (i : Int) (w : World) :
    Calls Try.prog 91 #[.agg #[.int .i64 t, .int .i64 p, .int .i64 s], .int .i64 i] w fun e w' => e = .returned (.int .i64 (makerV t p s i)) ∧ Below w.heap.size w w' := by
  have hr : ∃ c, rightC t p s = c := ⟨_, rfl⟩
  obtain ⟨c, hr⟩ := hr
  cases c
  · have H := hid (show makerV t p s i = -1 by simp [makerV, hr])
    have R := hid hr
    clear hr
    go_enter Try.func91, Try.ntmps91
    go_wp2_with (first
      | (go_at_call 87; refine (refRightC _ _ _ _).mono ?_; rw [R.out]; rintro e w1 ⟨rfl, hb1⟩; obtain ⟨hc1, hf1, hz1⟩ := after hb1; (try simp at hz1))
      | (go_at_call 88; refine (refFirst _ _ _ _ RR.out).mono ?_; rintro e w3 ⟨rfl, hb3⟩; obtain ⟨hc3, hf3, hz3⟩ := after hb3; (try simp at hz3)))
    all_goals go_ret
    all_goals exact ⟨ret_int (by rw [H.out]), bel⟩
  · have R := hid hr
    obtain ⟨⟨h1, h2⟩, ⟨h3, h4⟩, h5, h6⟩ := rightC_of hr
    have mb := makers_bd ⟨⟨h1, h2⟩, h3, h4⟩
    have cb : 58 ≤ cellsN t p ∧ cellsN t p ≤ 6238 := by unfold cellsN; omega
    by_cases c1 : 0 ≤ i
    · skip
      by_cases c2 : i ≤ t
      · skip
        have H := hid (show makerV t p s i = makersN t p + 120 * i by rw [makerV, hr]; simp [c1, c2])
        have RR := hid hr
        clear hr
        go_enter Try.func91, Try.ntmps91
        go_wp2_with (first
          | (go_at_call 87; refine (refRightC _ _ _ _).mono ?_; rw [R.out]; rintro e w1 ⟨rfl, hb1⟩; obtain ⟨hc1, hf1, hz1⟩ := after hb1; (try simp at hz1))
          | (go_at_call 88; refine (refFirst _ _ _ _ RR.out).mono ?_; rintro e w3 ⟨rfl, hb3⟩; obtain ⟨hc3, hf3, hz3⟩ := after hb3; (try simp at hz3)))
        all_goals go_ret
        all_goals exact ⟨ret_int (by rw [H.out]), bel⟩
      · have H := hid (show makerV t p s i = -1 by rw [makerV, if_neg (by intro h; omega)])
        clear hr
        go_enter Try.func91, Try.ntmps91
        go_wp2_with (first
          | (go_at_call 87; refine (refRightC _ _ _ _).mono ?_; rw [R.out]; rintro e w1 ⟨rfl, hb1⟩; obtain ⟨hc1, hf1, hz1⟩ := after hb1; (try simp at hz1))
          | (go_at_call 88; refine (refFirst _ _ _ _ RR.out).mono ?_; rintro e w3 ⟨rfl, hb3⟩; obtain ⟨hc3, hf3, hz3⟩ := after hb3; (try simp at hz3)))
        all_goals go_ret
        all_goals exact ⟨ret_int (by rw [H.out]), bel⟩
    · have H := hid (show makerV t p s i = -1 by rw [makerV, if_neg (by intro h; omega)])
      clear hr
      go_enter Try.func91, Try.ntmps91
      go_wp2_with (first
        | (go_at_call 87; refine (refRightC _ _ _ _).mono ?_; rw [R.out]; rintro e w1 ⟨rfl, hb1⟩; obtain ⟨hc1, hf1, hz1⟩ := after hb1; (try simp at hz1))
        | (go_at_call 88; refine (refFirst _ _ _ _ RR.out).mono ?_; rintro e w3 ⟨rfl, hb3⟩; obtain ⟨hc3, hf3, hz3⟩ := after hb3; (try simp at hz3)))
      all_goals go_ret
      all_goals exact ⟨ret_int (by rw [H.out]), bel⟩

theorem rpInfo (t p s i : Int) (w : World) :
    Calls Try.prog 48 #[.agg #[.int .i64 t, .int .i64 p, .int .i64 s], .int .i64 i] w fun e w' => e = .returned (.int .i64 (pageV t p s i 0)) ∧ Below w.heap.size w w' := by
  go_enter Try.func48, Try.ntmps48
  go_wp2_with (go_at_call 93; refine (refPageC _ _ _ _ _ _ (by omega) (by omega)).mono ?_; rintro e w1 ⟨rfl, hb1⟩)
  go_ret
  exact ⟨rfl, bel⟩

theorem rpFoot (t p s i : Int) (w : World) :
    Calls Try.prog 50 #[.agg #[.int .i64 t, .int .i64 p, .int .i64 s], .int .i64 i] w fun e w' => e = .returned (.int .i64 (pageV t p s i 1)) ∧ Below w.heap.size w w' := by
  go_enter Try.func50, Try.ntmps50
  go_wp2_with (go_at_call 93; refine (refPageC _ _ _ _ _ _ (by omega) (by omega)).mono ?_; rintro e w1 ⟨rfl, hb1⟩)
  go_ret
  exact ⟨rfl, bel⟩

theorem rpNext (t p s i : Int) (w : World) :
    Calls Try.prog 52 #[.agg #[.int .i64 t, .int .i64 p, .int .i64 s], .int .i64 i] w fun e w' => e = .returned (.int .i64 (pageV t p s i 2)) ∧ Below w.heap.size w w' := by
  go_enter Try.func52, Try.ntmps52
  go_wp2_with (go_at_call 93; refine (refPageC _ _ _ _ _ _ (by omega) (by omega)).mono ?_; rintro e w1 ⟨rfl, hb1⟩)
  go_ret
  exact ⟨rfl, bel⟩

theorem rpPrev (t p s i : Int) (w : World) :
    Calls Try.prog 54 #[.agg #[.int .i64 t, .int .i64 p, .int .i64 s], .int .i64 i] w fun e w' => e = .returned (.int .i64 (pageV t p s i 3)) ∧ Below w.heap.size w w' := by
  go_enter Try.func54, Try.ntmps54
  go_wp2_with (go_at_call 93; refine (refPageC _ _ _ _ _ _ (by omega) (by omega)).mono ?_; rintro e w1 ⟨rfl, hb1⟩)
  go_ret
  exact ⟨rfl, bel⟩

theorem rpSlots (t p s i : Int) (w : World) :
    Calls Try.prog 56 #[.agg #[.int .i64 t, .int .i64 p, .int .i64 s], .int .i64 i] w fun e w' => e = .returned (.int .i64 (pageV t p s i 4)) ∧ Below w.heap.size w w' := by
  go_enter Try.func56, Try.ntmps56
  go_wp2_with (go_at_call 93; refine (refPageC _ _ _ _ _ _ (by omega) (by omega)).mono ?_; rintro e w1 ⟨rfl, hb1⟩)
  go_ret
  exact ⟨rfl, bel⟩

theorem rpTaken (t p s i : Int) (w : World) :
    Calls Try.prog 58 #[.agg #[.int .i64 t, .int .i64 p, .int .i64 s], .int .i64 i] w fun e w' => e = .returned (.int .i64 (pageV t p s i 5)) ∧ Below w.heap.size w w' := by
  go_enter Try.func58, Try.ntmps58
  go_wp2_with (go_at_call 93; refine (refPageC _ _ _ _ _ _ (by omega) (by omega)).mono ?_; rintro e w1 ⟨rfl, hb1⟩)
  go_ret
  exact ⟨rfl, bel⟩

theorem rpBin (i : Int) (w : World) :
    Calls Try.prog 38 #[.int .i64 i] w fun e w' => e = .returned (.int .i64 (withinV 2 i 11)) ∧ w = w' := by
  by_cases h1 : 0 ≤ i
  · by_cases h2 : i < 11
    · have H := hid (show withinV 2 i 11 = 2 + i by rw [withinV, if_pos ⟨h1, h2⟩])
      go_enter Try.func38, Try.ntmps38
      go_wp2
      go_ret
      exact ⟨ret_int (by rw [H.out]), rfl⟩
    · have H := hid (show withinV 2 i 11 = -1 by rw [withinV, if_neg (fun h => h2 h.2)])
      go_enter Try.func38, Try.ntmps38
      go_wp2
      go_ret
      exact ⟨ret_int (by rw [H.out]), rfl⟩
  · have H := hid (show withinV 2 i 11 = -1 by rw [withinV, if_neg (fun h => h1 h.1)])
    go_enter Try.func38, Try.ntmps38
    go_wp2
    go_ret
    exact ⟨ret_int (by rw [H.out]), rfl⟩

theorem rpRack (i : Int) (w : World) :
    Calls Try.prog 40 #[.int .i64 i] w fun e w' => e = .returned (.int .i64 (withinV 13 i 9)) ∧ w = w' := by
  by_cases h1 : 0 ≤ i
  · by_cases h2 : i < 9
    · have H := hid (show withinV 13 i 9 = 13 + i by rw [withinV, if_pos ⟨h1, h2⟩])
      go_enter Try.func40, Try.ntmps40
      go_wp2
      go_ret
      exact ⟨ret_int (by rw [H.out]), rfl⟩
    · have H := hid (show withinV 13 i 9 = -1 by rw [withinV, if_neg (fun h => h2 h.2)])
      go_enter Try.func40, Try.ntmps40
      go_wp2
      go_ret
      exact ⟨ret_int (by rw [H.out]), rfl⟩
  · have H := hid (show withinV 13 i 9 = -1 by rw [withinV, if_neg (fun h => h1 h.1)])
    go_enter Try.func40, Try.ntmps40
    go_wp2
    go_ret
    exact ⟨ret_int (by rw [H.out]), rfl⟩

theorem rpRoot (i : Int) (w : World) :
    Calls Try.prog 42 #[.int .i64 i] w fun e w' => e = .returned (.int .i64 (withinV 22 i 8)) ∧ w = w' := by
  by_cases h1 : 0 ≤ i
  · by_cases h2 : i < 8
    · have H := hid (show withinV 22 i 8 = 22 + i by rw [withinV, if_pos ⟨h1, h2⟩])
      go_enter Try.func42, Try.ntmps42
      go_wp2
      go_ret
      exact ⟨ret_int (by rw [H.out]), rfl⟩
    · have H := hid (show withinV 22 i 8 = -1 by rw [withinV, if_neg (fun h => h2 h.2)])
      go_enter Try.func42, Try.ntmps42
      go_wp2
      go_ret
      exact ⟨ret_int (by rw [H.out]), rfl⟩
  · have H := hid (show withinV 22 i 8 = -1 by rw [withinV, if_neg (fun h => h1 h.1)])
    go_enter Try.func42, Try.ntmps42
    go_wp2
    go_ret
    exact ⟨ret_int (by rw [H.out]), rfl⟩

set_option maxHeartbeats 800000 in
theorem refCallW (t p s i b : Int) (w : World) :
    Calls Try.prog 31 #[.agg #[.int .i64 t, .int .i64 p, .int .i64 s], .int .i64 i, .int .i64 b] w fun e w' => e = .returned (.int .i64 (callW t p s i b)) ∧ Below w.heap.size w w' := by
  by_cases hm : rightC t p s = true ∧ (0 ≤ i ∧ i ≤ t)
  · have M := hid (show makerV t p s i = makersN t p + 120 * i by rw [makerV, if_pos hm])
    have hr := hm.1
    obtain ⟨_, c1, c2⟩ := hm
    obtain ⟨⟨h1, h2⟩, ⟨h3, h4⟩, h5, h6⟩ := rightC_of hr
    have mb := makers_bd ⟨⟨h1, h2⟩, h3, h4⟩
    have cb : 58 ≤ cellsN t p ∧ cellsN t p ≤ 6238 := by unfold cellsN; omega
    rcases (show b = 0 ∨ b = 1 ∨ (b ≠ 0 ∧ b ≠ 1) by omega) with rfl | rfl | ⟨b0, b1⟩
    · have H := hid (show callW t p s i 0 = makersN t p + 120 * i by rw [callW, if_pos (by simp only [hr, true_and]; omega)]; omega)
      clear hr
      go_enter Try.func31, Try.ntmps31
      go_wp2_with (go_at_call 91; refine (refMaker _ _ _ _ _).mono ?_; rw [M.out]; rintro e w2 ⟨rfl, hb2⟩; obtain ⟨hc2, hf2, hz2⟩ := after hb2; (try simp at hz2))
      go_ret
      exact ⟨ret_int (by rw [H.out]), bel⟩
    · have H := hid (show callW t p s i 1 = makersN t p + 120 * i + 8 by rw [callW, if_pos (by simp only [hr, true_and]; omega)]; omega)
      clear hr
      go_enter Try.func31, Try.ntmps31
      go_wp2_with (go_at_call 91; refine (refMaker _ _ _ _ _).mono ?_; rw [M.out]; rintro e w2 ⟨rfl, hb2⟩; obtain ⟨hc2, hf2, hz2⟩ := after hb2; (try simp at hz2))
      go_ret
      exact ⟨ret_int (by rw [H.out]), bel⟩
    · have H := hid (show callW t p s i b = -1 by rw [callW, if_neg (by intro h; omega)])
      have d0 : (b != 0) = true := by rw [bne_iff_ne]; exact b0
      have d1 : (b != 1) = true := by rw [bne_iff_ne]; exact b1
      clear hr b0 b1
      go_enter Try.func31, Try.ntmps31
      go_wp2_with (go_at_call 91; refine (refMaker _ _ _ _ _).mono ?_; rw [M.out]; rintro e w2 ⟨rfl, hb2⟩; obtain ⟨hc2, hf2, hz2⟩ := after hb2; (try simp at hz2))
      go_ret
      exact ⟨ret_int (by rw [H.out]), bel⟩
  · have M := hid (show makerV t p s i = -1 by rw [makerV, if_neg hm])
    have H := hid (show callW t p s i b = -1 by rw [callW, if_neg (fun h => hm ⟨h.1, h.2.1⟩)])
    clear hm
    go_enter Try.func31, Try.ntmps31
    go_wp2_with (go_at_call 91; refine (refMaker _ _ _ _ _).mono ?_; rw [M.out]; rintro e w2 ⟨rfl, hb2⟩; obtain ⟨hc2, hf2, hz2⟩ := after hb2; (try simp at hz2))
    go_ret
    exact ⟨ret_int (by rw [H.out]), bel⟩

set_option maxHeartbeats 800000 in
theorem refNoteW (t p s i : Int) (w : World) :
    Calls Try.prog 33 #[.agg #[.int .i64 t, .int .i64 p, .int .i64 s], .int .i64 i] w fun e w' => e = .returned (.int .i64 (noteW t p s i)) ∧ Below w.heap.size w w' := by
  by_cases hm : rightC t p s = true ∧ (0 ≤ i ∧ i ≤ t)
  · have M := hid (show makerV t p s i = makersN t p + 120 * i by rw [makerV, if_pos hm])
    have hr := hm.1
    obtain ⟨_, c1, c2⟩ := hm
    obtain ⟨⟨h1, h2⟩, ⟨h3, h4⟩, h5, h6⟩ := rightC_of hr
    have mb := makers_bd ⟨⟨h1, h2⟩, h3, h4⟩
    have cb : 58 ≤ cellsN t p ∧ cellsN t p ≤ 6238 := by unfold cellsN; omega
    have H := hid (show noteW t p s i = makersN t p + 120 * i + 16 by rw [noteW, if_pos (by simp only [hr, true_and]; omega)])
    clear hr
    go_enter Try.func33, Try.ntmps33
    go_wp2_with (go_at_call 91; refine (refMaker _ _ _ _ _).mono ?_; rw [M.out]; rintro e w2 ⟨rfl, hb2⟩; obtain ⟨hc2, hf2, hz2⟩ := after hb2; (try simp at hz2))
    go_ret
    exact ⟨ret_int (by rw [H.out]), bel⟩
  · have M := hid (show makerV t p s i = -1 by rw [makerV, if_neg hm])
    have H := hid (show noteW t p s i = -1 by rw [noteW, if_neg (fun h => hm ⟨h.1, h.2⟩)])
    clear hm
    go_enter Try.func33, Try.ntmps33
    go_wp2_with (go_at_call 91; refine (refMaker _ _ _ _ _).mono ?_; rw [M.out]; rintro e w2 ⟨rfl, hb2⟩; obtain ⟨hc2, hf2, hz2⟩ := after hb2; (try simp at hz2))
    go_ret
    exact ⟨ret_int (by rw [H.out]), bel⟩

set_option maxHeartbeats 800000 in
theorem refLogW (t p s i j : Int) (w : World) :
    Calls Try.prog 35 #[.agg #[.int .i64 t, .int .i64 p, .int .i64 s], .int .i64 i, .int .i64 j] w fun e w' => e = .returned (.int .i64 (logW t p s i j)) ∧ Below w.heap.size w w' := by
  by_cases hm : rightC t p s = true ∧ (0 ≤ i ∧ i ≤ t)
  · have M := hid (show makerV t p s i = makersN t p + 120 * i by rw [makerV, if_pos hm])
    have hr := hm.1
    obtain ⟨_, c1, c2⟩ := hm
    obtain ⟨⟨h1, h2⟩, ⟨h3, h4⟩, h5, h6⟩ := rightC_of hr
    have mb := makers_bd ⟨⟨h1, h2⟩, h3, h4⟩
    have cb : 58 ≤ cellsN t p ∧ cellsN t p ≤ 6238 := by unfold cellsN; omega
    by_cases c3 : 0 ≤ j
    · skip
      by_cases c4 : j ≤ 95
      · skip
        have H := hid (show logW t p s i j = makersN t p + 120 * i + 24 + j by rw [logW, if_pos (by simp only [hr, true_and]; omega)])
        clear hr
        go_enter Try.func35, Try.ntmps35
        go_wp2_with (go_at_call 91; refine (refMaker _ _ _ _ _).mono ?_; rw [M.out]; rintro e w2 ⟨rfl, hb2⟩; obtain ⟨hc2, hf2, hz2⟩ := after hb2; (try simp at hz2))
        go_ret
        exact ⟨ret_int (by rw [H.out]), bel⟩
      · have H := hid (show logW t p s i j = -1 by rw [logW, if_neg (by intro h; omega)])
        clear hr
        go_enter Try.func35, Try.ntmps35
        go_wp2_with (go_at_call 91; refine (refMaker _ _ _ _ _).mono ?_; rw [M.out]; rintro e w2 ⟨rfl, hb2⟩; obtain ⟨hc2, hf2, hz2⟩ := after hb2; (try simp at hz2))
        go_ret
        exact ⟨ret_int (by rw [H.out]), bel⟩
    · have H := hid (show logW t p s i j = -1 by rw [logW, if_neg (by intro h; omega)])
      clear hr
      go_enter Try.func35, Try.ntmps35
      go_wp2_with (go_at_call 91; refine (refMaker _ _ _ _ _).mono ?_; rw [M.out]; rintro e w2 ⟨rfl, hb2⟩; obtain ⟨hc2, hf2, hz2⟩ := after hb2; (try simp at hz2))
      go_ret
      exact ⟨ret_int (by rw [H.out]), bel⟩
  · have M := hid (show makerV t p s i = -1 by rw [makerV, if_neg hm])
    have H := hid (show logW t p s i j = -1 by rw [logW, if_neg (fun h => hm ⟨h.1, h.2.1⟩)])
    clear hm
    go_enter Try.func35, Try.ntmps35
    go_wp2_with (go_at_call 91; refine (refMaker _ _ _ _ _).mono ?_; rw [M.out]; rintro e w2 ⟨rfl, hb2⟩; obtain ⟨hc2, hf2, hz2⟩ := after hb2; (try simp at hz2))
    go_ret
    exact ⟨ret_int (by rw [H.out]), bel⟩
end Go.Proofs.Ytpeeaapheohehaa
