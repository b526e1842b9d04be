/- The walks of the statements on places, without the document's answer: each answers true. -/
import Derived.Test.YtpeeaapheohehaaPlaceLaws
namespace Go.Proofs.Ytpeeaapheohehaa
open Go.RowKit
set_option linter.unusedVariables false
set_option linter.unusedSimpArgs false

theorem at_cell {t p s i : Int} (hr : rightC t p s = true) (h0 : 0 ≤ i) (h1 : i < cellsN t p) : atV t p s (16 + i) = .agg #[.int .i64 3, .int .i64 i, .int .i64 0] := by
  obtain ⟨⟨g1, g2⟩, ⟨g3, g4⟩, g5, g6⟩ := rightC_of hr
  have mb := makers_bd ⟨⟨g1, g2⟩, g3, g4⟩
  rw [atV, if_pos ⟨hr, by omega, by omega⟩, if_neg (by omega), if_neg (by omega), if_neg (by omega), if_pos ⟨by omega, by omega⟩, show 16 + i - 16 = i by omega]
theorem at_maker {t p s u j : Int} (hr : rightC t p s = true) (h0 : 0 ≤ u) (h1 : u ≤ t) (j0 : 0 ≤ j) (j1 : j < 120) : atV t p s (makersN t p + 120 * u + j) = madeV u j := by
  obtain ⟨⟨g1, g2⟩, ⟨g3, g4⟩, g5, g6⟩ := rightC_of hr
  have mb := makers_bd ⟨⟨g1, g2⟩, g3, g4⟩
  rw [atV, if_pos ⟨hr, by omega, by omega⟩, if_neg (by omega), if_neg (by omega), if_pos (by omega), show (makersN t p + 120 * u + j - makersN t p) / 120 = u by omega, show (makersN t p + 120 * u + j - makersN t p) % 120 = j by omega]
theorem at_call {t p s u b : Int} (hr : rightC t p s = true) (h0 : 0 ≤ u) (h1 : u ≤ t) (j0 : 0 ≤ b) (j1 : b ≤ 1) : atV t p s (makersN t p + 120 * u + 8 * b) = .agg #[.int .i64 4, .int .i64 u, .int .i64 (8 * b)] := by
  rw [at_maker hr h0 h1 (by omega) (by omega), madeV, if_pos (by omega)]
theorem at_note {t p s u : Int} (hr : rightC t p s = true) (h0 : 0 ≤ u) (h1 : u ≤ t) : atV t p s (makersN t p + 120 * u + 16) = .agg #[.int .i64 5, .int .i64 u, .int .i64 0] := by
  rw [at_maker hr h0 h1 (by omega) (by omega), madeV, if_neg (by omega), if_pos rfl]
theorem at_log {t p s u j : Int} (hr : rightC t p s = true) (h0 : 0 ≤ u) (h1 : u ≤ t) (j0 : 0 ≤ j) (j1 : j < 96) : atV t p s (makersN t p + 120 * u + 24 + j) = .agg #[.int .i64 6, .int .i64 u, .int .i64 j] := by
  rw [Int.add_assoc, at_maker hr h0 h1 (by omega) (by omega), madeV, if_neg (by omega), if_neg (by omega), if_pos (by omega), show 24 + j - 24 = j by omega]


set_option maxHeartbeats 3200000 in
theorem backWrong (w : World) (t p s u i : Int) (hr : rightC t p s = false)  :
    Calls Try.prog 7 #[.agg #[.int .i64 t, .int .i64 p, .int .i64 s], .int .i64 u, .int .i64 i] w fun e w' => e = .returned (.bool true) ∧ Below w.heap.size w w' := by
  have E1 := hid (show wordsC t p s = 0 by rw [wordsC, hr]; rfl)
  have E2 := hid (show cellW t p s i = -1 by rw [cellW, if_neg (by rw [hr]; simp)])
  have E3 := hid (show logW t p s u i = -1 by rw [logW, if_neg (by rw [hr]; simp)])
  have E4 := hid (show callW t p s u i = -1 by rw [callW, if_neg (by rw [hr]; simp)])
  have E5 := hid (show noteW t p s u = -1 by rw [noteW, if_neg (by rw [hr]; simp)])
  clear hr
  have Q1 := hidAll fun w => by have h := placeWords t p s w; rw [E1.out] at h; exact h
  have Q2 := hidAll fun w => by have h := placeWord t p s i w; rw [E2.out] at h; exact h
  have hx := extCell
  go_enter Try.func7, Try.ntmps7
  go_wp2_with fail
  refine regionBelow (by kernel_rfl) (by kernel_rfl) ?_
  repeat (go_big_quiet_step ((first
    | (go_at_call 24; exact quietBelow (Q1.out _))
    | (go_at_call 28; exact quietBelow (Q2.out _)))))
  refine wpQuiet_nil ?_
  intro _ hw'
  obtain ⟨nq, hw''⟩ := hw'
  subst hw''
  have hn := nq.below
  have zq : w.heap.size < nq.to.heap.size := by have := hn.size; simp at this; omega
  go_wp2_with fail
  refine (placeLog t p s u i _).mono ?_
  rw [E3.out]
  rintro e w1 ⟨rfl, hb1⟩
  obtain ⟨hc1, hf1, hz1⟩ := after hb1
  have z1 : w.heap.size < w1.heap.size := by (try simp at hz1); omega
  go_wp2_with fail
  refine (placeCall t p s u i _).mono ?_
  rw [E4.out]
  rintro e w2 ⟨rfl, hb2⟩
  obtain ⟨hc2, hf2, hz2⟩ := after hb2
  have z2 : w.heap.size < w2.heap.size := by (try simp at hz2); omega
  go_wp2_with fail
  refine (placeNote t p s u _).mono ?_
  rw [E5.out]
  rintro e w3 ⟨rfl, hb3⟩
  obtain ⟨hc3, hf3, hz3⟩ := after hb3
  have z3 : w.heap.size < w3.heap.size := by (try simp at hz3); omega
  go_wp2_with fail
  refine (livePlace _).mono ?_
  rintro e w4 ⟨rfl, hb4⟩
  obtain ⟨hc4, hf4, hz4⟩ := after hb4
  have z4 : w.heap.size < w4.heap.size := by (try simp at hz4); omega
  go_wp2_with fail
  go_ret
  exact ⟨rfl, bel⟩

set_option maxHeartbeats 3200000 in
theorem back01 (w : World) (t p s u i : Int) (hr : rightC t p s = true) (hu : u < 0 ∨ t < u) (i0 : 0 ≤ i) (i1 : i < cellsN t p)  :
    Calls Try.prog 7 #[.agg #[.int .i64 t, .int .i64 p, .int .i64 s], .int .i64 u, .int .i64 i] w fun e w' => e = .returned (.bool true) ∧ Below w.heap.size w w' := by
  obtain ⟨⟨h1, h2⟩, ⟨h3, h4⟩, h5, h6⟩ := rightC_of hr
  have mb := makers_bd ⟨⟨h1, h2⟩, h3, h4⟩
  have cb : 58 ≤ cellsN t p ∧ cellsN t p ≤ 6238 := by unfold cellsN; omega
  have E1 := hid (show wordsC t p s = makersN t p + 120 * (t + 1) by rw [wordsC, hr]; rfl)
  have E2 := hid (show cellW t p s i = 16 + i by rw [cellW, if_pos (by simp only [hr, true_and]; omega)])
  have E3 := hid (show logW t p s u i = -1 by rw [logW, if_neg (by intro h; omega)])
  have E4 := hid (show callW t p s u i = -1 by rw [callW, if_neg (by intro h; omega)])
  have E5 := hid (show noteW t p s u = -1 by rw [noteW, if_neg (by intro h; omega)])
  have A2 := hid (at_cell hr (i := i) (by omega) (by omega))
  clear hr
  have Q1 := hidAll fun w => by have h := placeWords t p s w; rw [E1.out] at h; exact h
  have Q2 := hidAll fun w => by have h := placeWord t p s i w; rw [E2.out] at h; exact h
  have hx := extCell
  go_enter Try.func7, Try.ntmps7
  go_wp2_with fail
  refine regionBelow (by kernel_rfl) (by kernel_rfl) ?_
  repeat (go_big_quiet_step ((first
    | (go_at_call 24; exact quietBelow (Q1.out _))
    | (go_at_call 28; exact quietBelow (Q2.out _)))))
  refine wpQuiet_nil ?_
  intro _ hw'
  obtain ⟨nq, hw''⟩ := hw'
  subst hw''
  have hn := nq.below
  have zq : w.heap.size < nq.to.heap.size := by have := hn.size; simp at this; omega
  go_wp2_with fail
  refine (placeAt t p s (16 + i) _).mono ?_
  rw [A2.out]
  rintro e w1 ⟨rfl, hb1⟩
  obtain ⟨hc1, hf1, hz1⟩ := after hb1
  have z1 : w.heap.size < w1.heap.size := by (try simp at hz1); omega
  go_wp2_with fail
  refine (placeLog t p s u i _).mono ?_
  rw [E3.out]
  rintro e w2 ⟨rfl, hb2⟩
  obtain ⟨hc2, hf2, hz2⟩ := after hb2
  have z2 : w.heap.size < w2.heap.size := by (try simp at hz2); omega
  go_wp2_with fail
  refine (placeCall t p s u i _).mono ?_
  rw [E4.out]
  rintro e w3 ⟨rfl, hb3⟩
  obtain ⟨hc3, hf3, hz3⟩ := after hb3
  have z3 : w.heap.size < w3.heap.size := by (try simp at hz3); omega
  go_wp2_with fail
  refine (placeNote t p s u _).mono ?_
  rw [E5.out]
  rintro e w4 ⟨rfl, hb4⟩
  obtain ⟨hc4, hf4, hz4⟩ := after hb4
  have z4 : w.heap.size < w4.heap.size := by (try simp at hz4); omega
  go_wp2_with fail
  refine (livePlace _).mono ?_
  rintro e w5 ⟨rfl, hb5⟩
  obtain ⟨hc5, hf5, hz5⟩ := after hb5
  have z5 : w.heap.size < w5.heap.size := by (try simp at hz5); omega
  go_wp2_with fail
  go_ret
  exact ⟨rfl, bel⟩

set_option maxHeartbeats 3200000 in
theorem back00 (w : World) (t p s u i : Int) (hr : rightC t p s = true) (hu : u < 0 ∨ t < u) (hi : i < 0 ∨ cellsN t p ≤ i)  :
    Calls Try.prog 7 #[.agg #[.int .i64 t, .int .i64 p, .int .i64 s], .int .i64 u, .int .i64 i] w fun e w' => e = .returned (.bool true) ∧ Below w.heap.size w w' := by
  obtain ⟨⟨h1, h2⟩, ⟨h3, h4⟩, h5, h6⟩ := rightC_of hr
  have mb := makers_bd ⟨⟨h1, h2⟩, h3, h4⟩
  have cb : 58 ≤ cellsN t p ∧ cellsN t p ≤ 6238 := by unfold cellsN; omega
  have E1 := hid (show wordsC t p s = makersN t p + 120 * (t + 1) by rw [wordsC, hr]; rfl)
  have E2 := hid (show cellW t p s i = -1 by rw [cellW, if_neg (by intro h; omega)])
  have E3 := hid (show logW t p s u i = -1 by rw [logW, if_neg (by intro h; omega)])
  have E4 := hid (show callW t p s u i = -1 by rw [callW, if_neg (by intro h; omega)])
  have E5 := hid (show noteW t p s u = -1 by rw [noteW, if_neg (by intro h; omega)])
  clear hr
  have Q1 := hidAll fun w => by have h := placeWords t p s w; rw [E1.out] at h; exact h
  have Q2 := hidAll fun w => by have h := placeWord t p s i w; rw [E2.out] at h; exact h
  have hx := extCell
  go_enter Try.func7, Try.ntmps7
  go_wp2_with fail
  refine regionBelow (by kernel_rfl) (by kernel_rfl) ?_
  repeat (go_big_quiet_step ((first
    | (go_at_call 24; exact quietBelow (Q1.out _))
    | (go_at_call 28; exact quietBelow (Q2.out _)))))
  refine wpQuiet_nil ?_
  intro _ hw'
  obtain ⟨nq, hw''⟩ := hw'
  subst hw''
  have hn := nq.below
  have zq : w.heap.size < nq.to.heap.size := by have := hn.size; simp at this; omega
  go_wp2_with fail
  refine (placeLog t p s u i _).mono ?_
  rw [E3.out]
  rintro e w1 ⟨rfl, hb1⟩
  obtain ⟨hc1, hf1, hz1⟩ := after hb1
  have z1 : w.heap.size < w1.heap.size := by (try simp at hz1); omega
  go_wp2_with fail
  refine (placeCall t p s u i _).mono ?_
  rw [E4.out]
  rintro e w2 ⟨rfl, hb2⟩
  obtain ⟨hc2, hf2, hz2⟩ := after hb2
  have z2 : w.heap.size < w2.heap.size := by (try simp at hz2); omega
  go_wp2_with fail
  refine (placeNote t p s u _).mono ?_
  rw [E5.out]
  rintro e w3 ⟨rfl, hb3⟩
  obtain ⟨hc3, hf3, hz3⟩ := after hb3
  have z3 : w.heap.size < w3.heap.size := by (try simp at hz3); omega
  go_wp2_with fail
  refine (livePlace _).mono ?_
  rintro e w4 ⟨rfl, hb4⟩
  obtain ⟨hc4, hf4, hz4⟩ := after hb4
  have z4 : w.heap.size < w4.heap.size := by (try simp at hz4); omega
  go_wp2_with fail
  go_ret
  exact ⟨rfl, bel⟩

set_option maxHeartbeats 3200000 in
theorem back111 (w : World) (t p s u i : Int) (hr : rightC t p s = true) (u0 : 0 ≤ u) (u1 : u ≤ t) (i0 : 0 ≤ i) (i1 : i ≤ 1)  :
    Calls Try.prog 7 #[.agg #[.int .i64 t, .int .i64 p, .int .i64 s], .int .i64 u, .int .i64 i] w fun e w' => e = .returned (.bool true) ∧ Below w.heap.size w w' := by
  obtain ⟨⟨h1, h2⟩, ⟨h3, h4⟩, h5, h6⟩ := rightC_of hr
  have mb := makers_bd ⟨⟨h1, h2⟩, h3, h4⟩
  have cb : 58 ≤ cellsN t p ∧ cellsN t p ≤ 6238 := by unfold cellsN; omega
  have E1 := hid (show wordsC t p s = makersN t p + 120 * (t + 1) by rw [wordsC, hr]; rfl)
  have E2 := hid (show cellW t p s i = 16 + i by rw [cellW, if_pos (by simp only [hr, true_and]; omega)])
  have E3 := hid (show logW t p s u i = makersN t p + 120 * u + 24 + i by rw [logW, if_pos (by simp only [hr, true_and]; omega)])
  have E4 := hid (show callW t p s u i = makersN t p + 120 * u + 8 * i by rw [callW, if_pos (by simp only [hr, true_and]; omega)])
  have E5 := hid (show noteW t p s u = makersN t p + 120 * u + 16 by rw [noteW, if_pos (by simp only [hr, true_and]; omega)])
  have A2 := hid (at_cell hr (i := i) (by omega) (by omega))
  have A3 := hid (at_log hr (u := u) (j := i) (by omega) (by omega) (by omega) (by omega))
  have A4 := hid (at_call hr (u := u) (b := i) (by omega) (by omega) (by omega) (by omega))
  have d4 : ((makersN t p + 120 * u + 8 * i) % 8 != 0) = false := by rw [bne_eq_false_iff_eq]; omega
  have d4' : ((makersN t p + 120 * u) % 8 != 0) = false := by rw [bne_eq_false_iff_eq]; omega
  have d4'' : (makersN t p + 120 * u) % 8 = 0 := by omega
  have A5 := hid (at_note hr (u := u) (by omega) (by omega))
  have d5 : ((makersN t p + 120 * u + 16) % 8 != 0) = false := by rw [bne_eq_false_iff_eq]; omega
  clear hr
  have Q1 := hidAll fun w => by have h := placeWords t p s w; rw [E1.out] at h; exact h
  have Q2 := hidAll fun w => by have h := placeWord t p s i w; rw [E2.out] at h; exact h
  have hx := extCell
  go_enter Try.func7, Try.ntmps7
  go_wp2_with fail
  refine regionBelow (by kernel_rfl) (by kernel_rfl) ?_
  repeat (go_big_quiet_step ((first
    | (go_at_call 24; exact quietBelow (Q1.out _))
    | (go_at_call 28; exact quietBelow (Q2.out _)))))
  refine wpQuiet_nil ?_
  intro _ hw'
  obtain ⟨nq, hw''⟩ := hw'
  subst hw''
  have hn := nq.below
  have zq : w.heap.size < nq.to.heap.size := by have := hn.size; simp at this; omega
  go_wp2_with fail
  refine (placeAt t p s (16 + i) _).mono ?_
  rw [A2.out]
  rintro e w1 ⟨rfl, hb1⟩
  obtain ⟨hc1, hf1, hz1⟩ := after hb1
  have z1 : w.heap.size < w1.heap.size := by (try simp at hz1); omega
  go_wp2_with fail
  refine (placeLog t p s u i _).mono ?_
  rw [E3.out]
  rintro e w2 ⟨rfl, hb2⟩
  obtain ⟨hc2, hf2, hz2⟩ := after hb2
  have z2 : w.heap.size < w2.heap.size := by (try simp at hz2); omega
  go_wp2_with fail
  refine (placeAt t p s (makersN t p + 120 * u + 24 + i) _).mono ?_
  rw [A3.out]
  rintro e w3 ⟨rfl, hb3⟩
  obtain ⟨hc3, hf3, hz3⟩ := after hb3
  have z3 : w.heap.size < w3.heap.size := by (try simp at hz3); omega
  go_wp2_with fail
  refine (placeCall t p s u i _).mono ?_
  rw [E4.out]
  rintro e w4 ⟨rfl, hb4⟩
  obtain ⟨hc4, hf4, hz4⟩ := after hb4
  have z4 : w.heap.size < w4.heap.size := by (try simp at hz4); omega
  go_wp2_with fail
  refine (placeAt t p s (makersN t p + 120 * u + 8 * i) _).mono ?_
  rw [A4.out]
  rintro e w5 ⟨rfl, hb5⟩
  obtain ⟨hc5, hf5, hz5⟩ := after hb5
  have z5 : w.heap.size < w5.heap.size := by (try simp at hz5); omega
  go_wp2_with fail
  refine (placeNote t p s u _).mono ?_
  rw [E5.out]
  rintro e w6 ⟨rfl, hb6⟩
  obtain ⟨hc6, hf6, hz6⟩ := after hb6
  have z6 : w.heap.size < w6.heap.size := by (try simp at hz6); omega
  go_wp2_with fail
  refine (placeAt t p s (makersN t p + 120 * u + 16) _).mono ?_
  rw [A5.out]
  rintro e w7 ⟨rfl, hb7⟩
  obtain ⟨hc7, hf7, hz7⟩ := after hb7
  have z7 : w.heap.size < w7.heap.size := by (try simp at hz7); omega
  go_wp2_with fail
  refine (livePlace _).mono ?_
  rintro e w8 ⟨rfl, hb8⟩
  obtain ⟨hc8, hf8, hz8⟩ := after hb8
  have z8 : w.heap.size < w8.heap.size := by (try simp at hz8); omega
  go_wp2_with fail
  go_ret
  exact ⟨rfl, bel⟩

set_option maxHeartbeats 3200000 in
theorem back110 (w : World) (t p s u i : Int) (hr : rightC t p s = true) (u0 : 0 ≤ u) (u1 : u ≤ t) (i2 : 1 < i) (i3 : i < 96) (i1 : i < cellsN t p)  :
    Calls Try.prog 7 #[.agg #[.int .i64 t, .int .i64 p, .int .i64 s], .int .i64 u, .int .i64 i] w fun e w' => e = .returned (.bool true) ∧ Below w.heap.size w w' := by
  obtain ⟨⟨h1, h2⟩, ⟨h3, h4⟩, h5, h6⟩ := rightC_of hr
  have mb := makers_bd ⟨⟨h1, h2⟩, h3, h4⟩
  have cb : 58 ≤ cellsN t p ∧ cellsN t p ≤ 6238 := by unfold cellsN; omega
  have E1 := hid (show wordsC t p s = makersN t p + 120 * (t + 1) by rw [wordsC, hr]; rfl)
  have E2 := hid (show cellW t p s i = 16 + i by rw [cellW, if_pos (by simp only [hr, true_and]; omega)])
  have E3 := hid (show logW t p s u i = makersN t p + 120 * u + 24 + i by rw [logW, if_pos (by simp only [hr, true_and]; omega)])
  have E4 := hid (show callW t p s u i = -1 by rw [callW, if_neg (by intro h; omega)])
  have E5 := hid (show noteW t p s u = makersN t p + 120 * u + 16 by rw [noteW, if_pos (by simp only [hr, true_and]; omega)])
  have A2 := hid (at_cell hr (i := i) (by omega) (by omega))
  have A3 := hid (at_log hr (u := u) (j := i) (by omega) (by omega) (by omega) (by omega))
  have A5 := hid (at_note hr (u := u) (by omega) (by omega))
  have d5 : ((makersN t p + 120 * u + 16) % 8 != 0) = false := by rw [bne_eq_false_iff_eq]; omega
  clear hr
  have Q1 := hidAll fun w => by have h := placeWords t p s w; rw [E1.out] at h; exact h
  have Q2 := hidAll fun w => by have h := placeWord t p s i w; rw [E2.out] at h; exact h
  have hx := extCell
  go_enter Try.func7, Try.ntmps7
  go_wp2_with fail
  refine regionBelow (by kernel_rfl) (by kernel_rfl) ?_
  repeat (go_big_quiet_step ((first
    | (go_at_call 24; exact quietBelow (Q1.out _))
    | (go_at_call 28; exact quietBelow (Q2.out _)))))
  refine wpQuiet_nil ?_
  intro _ hw'
  obtain ⟨nq, hw''⟩ := hw'
  subst hw''
  have hn := nq.below
  have zq : w.heap.size < nq.to.heap.size := by have := hn.size; simp at this; omega
  go_wp2_with fail
  refine (placeAt t p s (16 + i) _).mono ?_
  rw [A2.out]
  rintro e w1 ⟨rfl, hb1⟩
  obtain ⟨hc1, hf1, hz1⟩ := after hb1
  have z1 : w.heap.size < w1.heap.size := by (try simp at hz1); omega
  go_wp2_with fail
  refine (placeLog t p s u i _).mono ?_
  rw [E3.out]
  rintro e w2 ⟨rfl, hb2⟩
  obtain ⟨hc2, hf2, hz2⟩ := after hb2
  have z2 : w.heap.size < w2.heap.size := by (try simp at hz2); omega
  go_wp2_with fail
  refine (placeAt t p s (makersN t p + 120 * u + 24 + i) _).mono ?_
  rw [A3.out]
  rintro e w3 ⟨rfl, hb3⟩
  obtain ⟨hc3, hf3, hz3⟩ := after hb3
  have z3 : w.heap.size < w3.heap.size := by (try simp at hz3); omega
  go_wp2_with fail
  refine (placeCall t p s u i _).mono ?_
  rw [E4.out]
  rintro e w4 ⟨rfl, hb4⟩
  obtain ⟨hc4, hf4, hz4⟩ := after hb4
  have z4 : w.heap.size < w4.heap.size := by (try simp at hz4); omega
  go_wp2_with fail
  refine (placeNote t p s u _).mono ?_
  rw [E5.out]
  rintro e w5 ⟨rfl, hb5⟩
  obtain ⟨hc5, hf5, hz5⟩ := after hb5
  have z5 : w.heap.size < w5.heap.size := by (try simp at hz5); omega
  go_wp2_with fail
  refine (placeAt t p s (makersN t p + 120 * u + 16) _).mono ?_
  rw [A5.out]
  rintro e w6 ⟨rfl, hb6⟩
  obtain ⟨hc6, hf6, hz6⟩ := after hb6
  have z6 : w.heap.size < w6.heap.size := by (try simp at hz6); omega
  go_wp2_with fail
  refine (livePlace _).mono ?_
  rintro e w7 ⟨rfl, hb7⟩
  obtain ⟨hc7, hf7, hz7⟩ := after hb7
  have z7 : w.heap.size < w7.heap.size := by (try simp at hz7); omega
  go_wp2_with fail
  go_ret
  exact ⟨rfl, bel⟩

set_option maxHeartbeats 3200000 in
theorem back010 (w : World) (t p s u i : Int) (hr : rightC t p s = true) (u0 : 0 ≤ u) (u1 : u ≤ t) (i3 : i < 96) (i1 : cellsN t p ≤ i)  :
    Calls Try.prog 7 #[.agg #[.int .i64 t, .int .i64 p, .int .i64 s], .int .i64 u, .int .i64 i] w fun e w' => e = .returned (.bool true) ∧ Below w.heap.size w w' := by
  obtain ⟨⟨h1, h2⟩, ⟨h3, h4⟩, h5, h6⟩ := rightC_of hr
  have mb := makers_bd ⟨⟨h1, h2⟩, h3, h4⟩
  have cb : 58 ≤ cellsN t p ∧ cellsN t p ≤ 6238 := by unfold cellsN; omega
  have E1 := hid (show wordsC t p s = makersN t p + 120 * (t + 1) by rw [wordsC, hr]; rfl)
  have E2 := hid (show cellW t p s i = -1 by rw [cellW, if_neg (by intro h; omega)])
  have E3 := hid (show logW t p s u i = makersN t p + 120 * u + 24 + i by rw [logW, if_pos (by simp only [hr, true_and]; omega)])
  have E4 := hid (show callW t p s u i = -1 by rw [callW, if_neg (by intro h; omega)])
  have E5 := hid (show noteW t p s u = makersN t p + 120 * u + 16 by rw [noteW, if_pos (by simp only [hr, true_and]; omega)])
  have A3 := hid (at_log hr (u := u) (j := i) (by omega) (by omega) (by omega) (by omega))
  have A5 := hid (at_note hr (u := u) (by omega) (by omega))
  have d5 : ((makersN t p + 120 * u + 16) % 8 != 0) = false := by rw [bne_eq_false_iff_eq]; omega
  clear hr
  have Q1 := hidAll fun w => by have h := placeWords t p s w; rw [E1.out] at h; exact h
  have Q2 := hidAll fun w => by have h := placeWord t p s i w; rw [E2.out] at h; exact h
  have hx := extCell
  go_enter Try.func7, Try.ntmps7
  go_wp2_with fail
  refine regionBelow (by kernel_rfl) (by kernel_rfl) ?_
  repeat (go_big_quiet_step ((first
    | (go_at_call 24; exact quietBelow (Q1.out _))
    | (go_at_call 28; exact quietBelow (Q2.out _)))))
  refine wpQuiet_nil ?_
  intro _ hw'
  obtain ⟨nq, hw''⟩ := hw'
  subst hw''
  have hn := nq.below
  have zq : w.heap.size < nq.to.heap.size := by have := hn.size; simp at this; omega
  go_wp2_with fail
  refine (placeLog t p s u i _).mono ?_
  rw [E3.out]
  rintro e w1 ⟨rfl, hb1⟩
  obtain ⟨hc1, hf1, hz1⟩ := after hb1
  have z1 : w.heap.size < w1.heap.size := by (try simp at hz1); omega
  go_wp2_with fail
  refine (placeAt t p s (makersN t p + 120 * u + 24 + i) _).mono ?_
  rw [A3.out]
  rintro e w2 ⟨rfl, hb2⟩
  obtain ⟨hc2, hf2, hz2⟩ := after hb2
  have z2 : w.heap.size < w2.heap.size := by (try simp at hz2); omega
  go_wp2_with fail
  refine (placeCall t p s u i _).mono ?_
  rw [E4.out]
  rintro e w3 ⟨rfl, hb3⟩
  obtain ⟨hc3, hf3, hz3⟩ := after hb3
  have z3 : w.heap.size < w3.heap.size := by (try simp at hz3); omega
  go_wp2_with fail
  refine (placeNote t p s u _).mono ?_
  rw [E5.out]
  rintro e w4 ⟨rfl, hb4⟩
  obtain ⟨hc4, hf4, hz4⟩ := after hb4
  have z4 : w.heap.size < w4.heap.size := by (try simp at hz4); omega
  go_wp2_with fail
  refine (placeAt t p s (makersN t p + 120 * u + 16) _).mono ?_
  rw [A5.out]
  rintro e w5 ⟨rfl, hb5⟩
  obtain ⟨hc5, hf5, hz5⟩ := after hb5
  have z5 : w.heap.size < w5.heap.size := by (try simp at hz5); omega
  go_wp2_with fail
  refine (livePlace _).mono ?_
  rintro e w6 ⟨rfl, hb6⟩
  obtain ⟨hc6, hf6, hz6⟩ := after hb6
  have z6 : w.heap.size < w6.heap.size := by (try simp at hz6); omega
  go_wp2_with fail
  go_ret
  exact ⟨rfl, bel⟩

set_option maxHeartbeats 3200000 in
theorem back100 (w : World) (t p s u i : Int) (hr : rightC t p s = true) (u0 : 0 ≤ u) (u1 : u ≤ t) (i3 : 96 ≤ i) (i1 : i < cellsN t p)  :
    Calls Try.prog 7 #[.agg #[.int .i64 t, .int .i64 p, .int .i64 s], .int .i64 u, .int .i64 i] w fun e w' => e = .returned (.bool true) ∧ Below w.heap.size w w' := by
  obtain ⟨⟨h1, h2⟩, ⟨h3, h4⟩, h5, h6⟩ := rightC_of hr
  have mb := makers_bd ⟨⟨h1, h2⟩, h3, h4⟩
  have cb : 58 ≤ cellsN t p ∧ cellsN t p ≤ 6238 := by unfold cellsN; omega
  have E1 := hid (show wordsC t p s = makersN t p + 120 * (t + 1) by rw [wordsC, hr]; rfl)
  have E2 := hid (show cellW t p s i = 16 + i by rw [cellW, if_pos (by simp only [hr, true_and]; omega)])
  have E3 := hid (show logW t p s u i = -1 by rw [logW, if_neg (by intro h; omega)])
  have E4 := hid (show callW t p s u i = -1 by rw [callW, if_neg (by intro h; omega)])
  have E5 := hid (show noteW t p s u = makersN t p + 120 * u + 16 by rw [noteW, if_pos (by simp only [hr, true_and]; omega)])
  have A2 := hid (at_cell hr (i := i) (by omega) (by omega))
  have A5 := hid (at_note hr (u := u) (by omega) (by omega))
  have d5 : ((makersN t p + 120 * u + 16) % 8 != 0) = false := by rw [bne_eq_false_iff_eq]; omega
  clear hr
  have Q1 := hidAll fun w => by have h := placeWords t p s w; rw [E1.out] at h; exact h
  have Q2 := hidAll fun w => by have h := placeWord t p s i w; rw [E2.out] at h; exact h
  have hx := extCell
  go_enter Try.func7, Try.ntmps7
  go_wp2_with fail
  refine regionBelow (by kernel_rfl) (by kernel_rfl) ?_
  repeat (go_big_quiet_step ((first
    | (go_at_call 24; exact quietBelow (Q1.out _))
    | (go_at_call 28; exact quietBelow (Q2.out _)))))
  refine wpQuiet_nil ?_
  intro _ hw'
  obtain ⟨nq, hw''⟩ := hw'
  subst hw''
  have hn := nq.below
  have zq : w.heap.size < nq.to.heap.size := by have := hn.size; simp at this; omega
  go_wp2_with fail
  refine (placeAt t p s (16 + i) _).mono ?_
  rw [A2.out]
  rintro e w1 ⟨rfl, hb1⟩
  obtain ⟨hc1, hf1, hz1⟩ := after hb1
  have z1 : w.heap.size < w1.heap.size := by (try simp at hz1); omega
  go_wp2_with fail
  refine (placeLog t p s u i _).mono ?_
  rw [E3.out]
  rintro e w2 ⟨rfl, hb2⟩
  obtain ⟨hc2, hf2, hz2⟩ := after hb2
  have z2 : w.heap.size < w2.heap.size := by (try simp at hz2); omega
  go_wp2_with fail
  refine (placeCall t p s u i _).mono ?_
  rw [E4.out]
  rintro e w3 ⟨rfl, hb3⟩
  obtain ⟨hc3, hf3, hz3⟩ := after hb3
  have z3 : w.heap.size < w3.heap.size := by (try simp at hz3); omega
  go_wp2_with fail
  refine (placeNote t p s u _).mono ?_
  rw [E5.out]
  rintro e w4 ⟨rfl, hb4⟩
  obtain ⟨hc4, hf4, hz4⟩ := after hb4
  have z4 : w.heap.size < w4.heap.size := by (try simp at hz4); omega
  go_wp2_with fail
  refine (placeAt t p s (makersN t p + 120 * u + 16) _).mono ?_
  rw [A5.out]
  rintro e w5 ⟨rfl, hb5⟩
  obtain ⟨hc5, hf5, hz5⟩ := after hb5
  have z5 : w.heap.size < w5.heap.size := by (try simp at hz5); omega
  go_wp2_with fail
  refine (livePlace _).mono ?_
  rintro e w6 ⟨rfl, hb6⟩
  obtain ⟨hc6, hf6, hz6⟩ := after hb6
  have z6 : w.heap.size < w6.heap.size := by (try simp at hz6); omega
  go_wp2_with fail
  go_ret
  exact ⟨rfl, bel⟩

set_option maxHeartbeats 3200000 in
theorem back000 (w : World) (t p s u i : Int) (hr : rightC t p s = true) (u0 : 0 ≤ u) (u1 : u ≤ t) (hi : i < 0 ∨ (96 ≤ i ∧ cellsN t p ≤ i))  :
    Calls Try.prog 7 #[.agg #[.int .i64 t, .int .i64 p, .int .i64 s], .int .i64 u, .int .i64 i] w fun e w' => e = .returned (.bool true) ∧ Below w.heap.size w w' := by
  obtain ⟨⟨h1, h2⟩, ⟨h3, h4⟩, h5, h6⟩ := rightC_of hr
  have mb := makers_bd ⟨⟨h1, h2⟩, h3, h4⟩
  have cb : 58 ≤ cellsN t p ∧ cellsN t p ≤ 6238 := by unfold cellsN; omega
  have E1 := hid (show wordsC t p s = makersN t p + 120 * (t + 1) by rw [wordsC, hr]; rfl)
  have E2 := hid (show cellW t p s i = -1 by rw [cellW, if_neg (by intro h; omega)])
  have E3 := hid (show logW t p s u i = -1 by rw [logW, if_neg (by intro h; omega)])
  have E4 := hid (show callW t p s u i = -1 by rw [callW, if_neg (by intro h; omega)])
  have E5 := hid (show noteW t p s u = makersN t p + 120 * u + 16 by rw [noteW, if_pos (by simp only [hr, true_and]; omega)])
  have A5 := hid (at_note hr (u := u) (by omega) (by omega))
  have d5 : ((makersN t p + 120 * u + 16) % 8 != 0) = false := by rw [bne_eq_false_iff_eq]; omega
  clear hr
  have Q1 := hidAll fun w => by have h := placeWords t p s w; rw [E1.out] at h; exact h
  have Q2 := hidAll fun w => by have h := placeWord t p s i w; rw [E2.out] at h; exact h
  have hx := extCell
  go_enter Try.func7, Try.ntmps7
  go_wp2_with fail
  refine regionBelow (by kernel_rfl) (by kernel_rfl) ?_
  repeat (go_big_quiet_step ((first
    | (go_at_call 24; exact quietBelow (Q1.out _))
    | (go_at_call 28; exact quietBelow (Q2.out _)))))
  refine wpQuiet_nil ?_
  intro _ hw'
  obtain ⟨nq, hw''⟩ := hw'
  subst hw''
  have hn := nq.below
  have zq : w.heap.size < nq.to.heap.size := by have := hn.size; simp at this; omega
  go_wp2_with fail
  refine (placeLog t p s u i _).mono ?_
  rw [E3.out]
  rintro e w1 ⟨rfl, hb1⟩
  obtain ⟨hc1, hf1, hz1⟩ := after hb1
  have z1 : w.heap.size < w1.heap.size := by (try simp at hz1); omega
  go_wp2_with fail
  refine (placeCall t p s u i _).mono ?_
  rw [E4.out]
  rintro e w2 ⟨rfl, hb2⟩
  obtain ⟨hc2, hf2, hz2⟩ := after hb2
  have z2 : w.heap.size < w2.heap.size := by (try simp at hz2); omega
  go_wp2_with fail
  refine (placeNote t p s u _).mono ?_
  rw [E5.out]
  rintro e w3 ⟨rfl, hb3⟩
  obtain ⟨hc3, hf3, hz3⟩ := after hb3
  have z3 : w.heap.size < w3.heap.size := by (try simp at hz3); omega
  go_wp2_with fail
  refine (placeAt t p s (makersN t p + 120 * u + 16) _).mono ?_
  rw [A5.out]
  rintro e w4 ⟨rfl, hb4⟩
  obtain ⟨hc4, hf4, hz4⟩ := after hb4
  have z4 : w.heap.size < w4.heap.size := by (try simp at hz4); omega
  go_wp2_with fail
  refine (livePlace _).mono ?_
  rintro e w5 ⟨rfl, hb5⟩
  obtain ⟨hc5, hf5, hz5⟩ := after hb5
  have z5 : w.heap.size < w5.heap.size := by (try simp at hz5); omega
  go_wp2_with fail
  go_ret
  exact ⟨rfl, bel⟩

theorem lawPlaceBack (w : World) (t p s u i : Int) (t1 : -9223372036854775808 ≤ t) (t2 : t ≤ 9223372036854775807) (p1 : -9223372036854775808 ≤ p) (p2 : p ≤ 9223372036854775807) (s1 : -9223372036854775808 ≤ s) (s2 : s ≤ 9223372036854775807) (u1 : -9223372036854775808 ≤ u) (u2 : u ≤ 9223372036854775807) (i1 : -9223372036854775808 ≤ i) (i2 : i ≤ 9223372036854775807) :
    Calls Try.prog 7 #[.agg #[.int .i64 t, .int .i64 p, .int .i64 s], .int .i64 u, .int .i64 i] w fun e w' => e = .returned (.bool true) ∧ Below w.heap.size w w' := by
  have hr : ∃ c, rightC t p s = c := ⟨_, rfl⟩
  obtain ⟨c, hr⟩ := hr
  cases c
  · exact backWrong w t p s u i hr
  obtain ⟨⟨h1, h2⟩, ⟨h3, h4⟩, h5, h6⟩ := rightC_of hr
  have cb : 58 ≤ cellsN t p ∧ cellsN t p ≤ 6238 := by unfold cellsN; omega
  by_cases hu : 0 ≤ u ∧ u ≤ t
  · rcases (show (0 ≤ i ∧ i ≤ 1) ∨ (1 < i ∧ i < 96 ∧ i < cellsN t p) ∨ (i < 96 ∧ cellsN t p ≤ i) ∨ (96 ≤ i ∧ i < cellsN t p) ∨ (i < 0 ∨ (96 ≤ i ∧ cellsN t p ≤ i)) by omega) with ⟨a, b⟩ | ⟨a, b, c⟩ | ⟨a, b⟩ | ⟨a, b⟩ | a
    · exact back111 w t p s u i hr hu.1 hu.2 a b
    · exact back110 w t p s u i hr hu.1 hu.2 a b c
    · exact back010 w t p s u i hr hu.1 hu.2 a b
    · exact back100 w t p s u i hr hu.1 hu.2 a b
    · exact back000 w t p s u i hr hu.1 hu.2 a
  · by_cases hi : 0 ≤ i ∧ i < cellsN t p
    · exact back01 w t p s u i hr (by omega) hi.1 hi.2
    · exact back00 w t p s u i hr (by omega) (by omega)
end Go.Proofs.Ytpeeaapheohehaa
