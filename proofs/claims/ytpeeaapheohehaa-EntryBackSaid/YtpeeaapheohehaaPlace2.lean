/- The walks of package place: words. -/
import Derived.Test.YtpeeaapheohehaaPlace
namespace Go.Proofs.Ytpeeaapheohehaa
open Go.RowKit
set_option linter.unusedVariables false
set_option linter.unusedSimpArgs false

def laidWordV (T m i f j k : Int) : Int := if 0 ≤ i ∧ i ≤ T then withinV (m + 120 * i + f) j k else -1

theorem laidWords (t p s m : Int) (w : World) (t1 : 1 ≤ t) (t2 : t ≤ 16) (m1 : 0 ≤ m) (m2 : m ≤ 10000) :
    Calls Try.prog 84 #[.agg #[.int .i64 t, .int .i64 p, .int .i64 s, .int .i64 m]] w fun e w' => e = .returned (.int .i64 (m + 120 * (t + 1))) ∧ Below w.heap.size w w' := by
  go_enter Try.func84, Try.ntmps84
  go_wp2
  go_ret
  exact ⟨rfl, bel⟩

theorem laidWord (t p s m i f j k : Int) (w : World) (t1 : 1 ≤ t) (t2 : t ≤ 16) (m1 : 0 ≤ m) (m2 : m ≤ 10000) (f1 : 0 ≤ f) (f2 : f ≤ 100) (k2 : k ≤ 1000) :
    Calls Try.prog 90 #[.agg #[.int .i64 t, .int .i64 p, .int .i64 s, .int .i64 m], .int .i64 i, .int .i64 f, .int .i64 j, .int .i64 k] w fun e w' => e = .returned (.int .i64 (laidWordV t m i f j k)) ∧ Below w.heap.size w w' := by
  by_cases h1 : 0 ≤ i
  · by_cases h2 : i ≤ t
    · have H := hid (show laidWordV t m i f j k = withinV (m + 120 * i + f) j k by rw [laidWordV, if_pos ⟨h1, h2⟩])
      go_enter Try.func90, Try.ntmps90
      go_wp2_with (go_at_call 89; refine (placeWithin _ _ _ _ (by omega) (by omega) (by omega)).mono ?_; rintro e w3 ⟨rfl, rfl⟩)
      go_ret
      exact ⟨ret_int (by rw [H.out]), bel⟩
    · have H := hid (show laidWordV t m i f j k = -1 by rw [laidWordV, if_neg (fun h => h2 h.2)])
      go_enter Try.func90, Try.ntmps90
      go_wp2
      go_ret
      exact ⟨ret_int (by rw [H.out]), bel⟩
  · have H := hid (show laidWordV t m i f j k = -1 by rw [laidWordV, if_neg (fun h => h1 h.1)])
    go_enter Try.func90, Try.ntmps90
    go_wp2
    go_ret
    exact ⟨ret_int (by rw [H.out]), bel⟩


set_option maxHeartbeats 800000 in
theorem placeWords (t p s : Int) (w : World) :
    Calls Try.prog 24 #[.agg #[.int .i64 t, .int .i64 p, .int .i64 s]] w fun e w' => e = .returned (.int .i64 (wordsC t p s)) ∧ Below w.heap.size w w' := by
  have hr : ∃ c, rightC t p s = c := ⟨_, rfl⟩
  obtain ⟨c, hr⟩ := hr
  cases c
  · have H := hid (show wordsC t p s = 0 by simp [wordsC, hr])
    have L := hid (show layV t p s = .tuple #[.agg #[.int .i64 0, .int .i64 0, .int .i64 0, .int .i64 0], .bool false] by rw [layV, hr]; rfl)
    clear hr
    go_enter Try.func24, Try.ntmps24
    go_wp2_with (first
      | (go_at_call 83; refine (placeLay _ _ _ _).mono ?_; rw [L.out]; rintro e w1 ⟨rfl, hb1⟩; obtain ⟨hc1, hf1, hz1⟩ := after hb1; simp at hz1)
      | (go_at_call 84; refine (laidWords _ _ _ _ _ h1 h2 (by omega) (by omega)).mono ?_; rintro e w2 ⟨rfl, hb2⟩; obtain ⟨hc2, hf2, hz2⟩ := after hb2; simp at hz2))
    go_ret
    exact ⟨ret_int (by rw [H.out]), bel⟩
  · have L := hid (show layV t p s = .tuple #[.agg #[.int .i64 t, .int .i64 p, .int .i64 s, .int .i64 (makersN t p)], .bool true] by rw [layV, hr]; rfl)
    obtain ⟨⟨h1, h2⟩, ⟨h3, h4⟩, h5, h6⟩ := rightC_of hr
    have mb := makers_bd ⟨⟨h1, h2⟩, h3, h4⟩
    have cb : 58 ≤ cellsN t p ∧ cellsN t p ≤ 6238 := by unfold cellsN; omega
    have H := hid (show wordsC t p s = makersN t p + 120 * (t + 1) by rw [wordsC, hr]; rfl)
    clear hr
    go_enter Try.func24, Try.ntmps24
    go_wp2_with (first
      | (go_at_call 83; refine (placeLay _ _ _ _).mono ?_; rw [L.out]; rintro e w1 ⟨rfl, hb1⟩; obtain ⟨hc1, hf1, hz1⟩ := after hb1; simp at hz1)
      | (go_at_call 84; refine (laidWords _ _ _ _ _ h1 h2 (by omega) (by omega)).mono ?_; rintro e w2 ⟨rfl, hb2⟩; obtain ⟨hc2, hf2, hz2⟩ := after hb2; simp at hz2))
    go_ret
    exact ⟨ret_int (by rw [H.out]), bel⟩

set_option maxHeartbeats 800000 in
theorem placeDone (t p s : Int) (i f : Int) (w : World) :
    Calls Try.prog 43 #[.agg #[.int .i64 t, .int .i64 p, .int .i64 s], .int .i64 i, .int .i64 f] w fun e w' => e = .returned (.int .i64 (doneV t p s i f)) ∧ Below w.heap.size w w' := by
  have hr : ∃ c, rightC t p s = c := ⟨_, rfl⟩
  obtain ⟨c, hr⟩ := hr
  cases c
  · have H := hid (show doneV t p s i f = -1 by simp [doneV, hr])
    have L := hid (show layV t p s = .tuple #[.agg #[.int .i64 0, .int .i64 0, .int .i64 0, .int .i64 0], .bool false] by rw [layV, hr]; rfl)
    clear hr
    go_enter Try.func43, Try.ntmps43
    go_wp2_with (first
      | (go_at_call 83; refine (placeLay _ _ _ _).mono ?_; rw [L.out]; rintro e w1 ⟨rfl, hb1⟩; obtain ⟨hc1, hf1, hz1⟩ := after hb1; simp at hz1)
      | (go_at_call 89; refine (placeWithin _ _ _ _ (by omega) (by omega) (by omega)).mono ?_; rintro e w3 ⟨rfl, rfl⟩))
    go_ret
    exact ⟨ret_int (by rw [H.out]), bel⟩
  · have L := hid (show layV t p s = .tuple #[.agg #[.int .i64 t, .int .i64 p, .int .i64 s, .int .i64 (makersN t p)], .bool true] by rw [layV, hr]; rfl)
    obtain ⟨⟨h1, h2⟩, ⟨h3, h4⟩, h5, h6⟩ := rightC_of hr
    have mb := makers_bd ⟨⟨h1, h2⟩, h3, h4⟩
    have cb : 58 ≤ cellsN t p ∧ cellsN t p ≤ 6238 := by unfold cellsN; omega
    by_cases c1 : 0 ≤ i
    · skip
      by_cases c2 : i < t
      · skip
        have H := hid (show doneV t p s i f = withinV (30 + 4 * i) f 4 by rw [doneV, withinV, hr]; simp [c1, c2])
        clear hr
        go_enter Try.func43, Try.ntmps43
        go_wp2_with (first
          | (go_at_call 83; refine (placeLay _ _ _ _).mono ?_; rw [L.out]; rintro e w1 ⟨rfl, hb1⟩; obtain ⟨hc1, hf1, hz1⟩ := after hb1; simp at hz1)
          | (go_at_call 89; refine (placeWithin _ _ _ _ (by omega) (by omega) (by omega)).mono ?_; rintro e w3 ⟨rfl, rfl⟩))
        go_ret
        exact ⟨ret_int (by rw [H.out]), bel⟩
      · have H := hid (show doneV t p s i f = -1 by rw [doneV, if_neg (by intro h; omega)])
        clear hr
        go_enter Try.func43, Try.ntmps43
        go_wp2_with (first
          | (go_at_call 83; refine (placeLay _ _ _ _).mono ?_; rw [L.out]; rintro e w1 ⟨rfl, hb1⟩; obtain ⟨hc1, hf1, hz1⟩ := after hb1; simp at hz1)
          | (go_at_call 89; refine (placeWithin _ _ _ _ (by omega) (by omega) (by omega)).mono ?_; rintro e w3 ⟨rfl, rfl⟩))
        go_ret
        exact ⟨ret_int (by rw [H.out]), bel⟩
    · have H := hid (show doneV t p s i f = -1 by rw [doneV, if_neg (by intro h; omega)])
      clear hr
      go_enter Try.func43, Try.ntmps43
      go_wp2_with (first
        | (go_at_call 83; refine (placeLay _ _ _ _).mono ?_; rw [L.out]; rintro e w1 ⟨rfl, hb1⟩; obtain ⟨hc1, hf1, hz1⟩ := after hb1; simp at hz1)
        | (go_at_call 89; refine (placeWithin _ _ _ _ (by omega) (by omega) (by omega)).mono ?_; rintro e w3 ⟨rfl, rfl⟩))
      go_ret
      exact ⟨ret_int (by rw [H.out]), bel⟩

set_option maxHeartbeats 800000 in
theorem placeOf (t p s : Int) (i k : Int) (w : World) (k0 : 0 ≤ k) (k1 : k ≤ 5) :
    Calls Try.prog 92 #[.agg #[.int .i64 t, .int .i64 p, .int .i64 s], .int .i64 i, .int .i64 k] w fun e w' => e = .returned (.int .i64 (pageV t p s i k)) ∧ Below w.heap.size w w' := by
  have hr : ∃ c, rightC t p s = c := ⟨_, rfl⟩
  obtain ⟨c, hr⟩ := hr
  cases c
  · have H := hid (show pageV t p s i k = -1 by simp [pageV, hr])
    have L := hid (show layV t p s = .tuple #[.agg #[.int .i64 0, .int .i64 0, .int .i64 0, .int .i64 0], .bool false] by rw [layV, hr]; rfl)
    clear hr
    go_enter Try.func92, Try.ntmps92
    go_wp2_with (first
      | (go_at_call 83; refine (placeLay _ _ _ _).mono ?_; rw [L.out]; rintro e w1 ⟨rfl, hb1⟩; obtain ⟨hc1, hf1, hz1⟩ := after hb1; simp at hz1))
    go_ret
    exact ⟨ret_int (by rw [H.out]), bel⟩
  · have L := hid (show layV t p s = .tuple #[.agg #[.int .i64 t, .int .i64 p, .int .i64 s, .int .i64 (makersN t p)], .bool true] by rw [layV, hr]; rfl)
    obtain ⟨⟨h1, h2⟩, ⟨h3, h4⟩, h5, h6⟩ := rightC_of hr
    have mb := makers_bd ⟨⟨h1, h2⟩, h3, h4⟩
    have cb : 58 ≤ cellsN t p ∧ cellsN t p ≤ 6238 := by unfold cellsN; omega
    by_cases c1 : 0 ≤ i
    · skip
      by_cases c2 : i < p
      · skip
        have H := hid (show pageV t p s i k = 30 + 4 * t + 6 * i + k by rw [pageV, hr]; simp [c1, c2])
        clear hr
        go_enter Try.func92, Try.ntmps92
        go_wp2_with (first
          | (go_at_call 83; refine (placeLay _ _ _ _).mono ?_; rw [L.out]; rintro e w1 ⟨rfl, hb1⟩; obtain ⟨hc1, hf1, hz1⟩ := after hb1; simp at hz1))
        go_ret
        exact ⟨ret_int (by rw [H.out]), bel⟩
      · have H := hid (show pageV t p s i k = -1 by rw [pageV, if_neg (by intro h; omega)])
        clear hr
        go_enter Try.func92, Try.ntmps92
        go_wp2_with (first
          | (go_at_call 83; refine (placeLay _ _ _ _).mono ?_; rw [L.out]; rintro e w1 ⟨rfl, hb1⟩; obtain ⟨hc1, hf1, hz1⟩ := after hb1; simp at hz1))
        go_ret
        exact ⟨ret_int (by rw [H.out]), bel⟩
    · have H := hid (show pageV t p s i k = -1 by rw [pageV, if_neg (by intro h; omega)])
      clear hr
      go_enter Try.func92, Try.ntmps92
      go_wp2_with (first
        | (go_at_call 83; refine (placeLay _ _ _ _).mono ?_; rw [L.out]; rintro e w1 ⟨rfl, hb1⟩; obtain ⟨hc1, hf1, hz1⟩ := after hb1; simp at hz1))
      go_ret
      exact ⟨ret_int (by rw [H.out]), bel⟩

set_option maxHeartbeats 800000 in
theorem placeWord (t p s : Int) (i : Int) (w : World) :
    Calls Try.prog 28 #[.agg #[.int .i64 t, .int .i64 p, .int .i64 s], .int .i64 i] w fun e w' => e = .returned (.int .i64 (cellW t p s i)) ∧ Below w.heap.size w w' := by
  have hr : ∃ c, rightC t p s = c := ⟨_, rfl⟩
  obtain ⟨c, hr⟩ := hr
  cases c
  · have H := hid (show cellW t p s i = -1 by simp [cellW, hr])
    have L := hid (show layV t p s = .tuple #[.agg #[.int .i64 0, .int .i64 0, .int .i64 0, .int .i64 0], .bool false] by rw [layV, hr]; rfl)
    clear hr
    go_enter Try.func28, Try.ntmps28
    go_wp2_with (first
      | (go_at_call 83; refine (placeLay _ _ _ _).mono ?_; rw [L.out]; rintro e w1 ⟨rfl, hb1⟩; obtain ⟨hc1, hf1, hz1⟩ := after hb1; simp at hz1)
      | (go_at_call 86; refine (laidCells _ _ _ _ _ h1 h2 h3 h4).mono ?_; rintro e w2 ⟨rfl, hb2⟩; obtain ⟨hc2, hf2, hz2⟩ := after hb2; simp at hz2)
      | (go_at_call 89; refine (placeWithin _ _ _ _ (by omega) (by omega) (by omega)).mono ?_; rintro e w3 ⟨rfl, rfl⟩))
    go_ret
    exact ⟨ret_int (by rw [H.out]), bel⟩
  · have L := hid (show layV t p s = .tuple #[.agg #[.int .i64 t, .int .i64 p, .int .i64 s, .int .i64 (makersN t p)], .bool true] by rw [layV, hr]; rfl)
    obtain ⟨⟨h1, h2⟩, ⟨h3, h4⟩, h5, h6⟩ := rightC_of hr
    have mb := makers_bd ⟨⟨h1, h2⟩, h3, h4⟩
    have cb : 58 ≤ cellsN t p ∧ cellsN t p ≤ 6238 := by unfold cellsN; omega
    have H := hid (show cellW t p s i = withinV 16 i (cellsN t p) by rw [cellW, withinV, hr]; simp)
    clear hr
    go_enter Try.func28, Try.ntmps28
    go_wp2_with (first
      | (go_at_call 83; refine (placeLay _ _ _ _).mono ?_; rw [L.out]; rintro e w1 ⟨rfl, hb1⟩; obtain ⟨hc1, hf1, hz1⟩ := after hb1; simp at hz1)
      | (go_at_call 86; refine (laidCells _ _ _ _ _ h1 h2 h3 h4).mono ?_; rintro e w2 ⟨rfl, hb2⟩; obtain ⟨hc2, hf2, hz2⟩ := after hb2; simp at hz2)
      | (go_at_call 89; refine (placeWithin _ _ _ _ (by omega) (by omega) (by omega)).mono ?_; rintro e w3 ⟨rfl, rfl⟩))
    go_ret
    exact ⟨ret_int (by rw [H.out]), bel⟩

set_option maxHeartbeats 800000 in
theorem placeCall (t p s : Int) (i b : Int) (w : World) :
    Calls Try.prog 30 #[.agg #[.int .i64 t, .int .i64 p, .int .i64 s], .int .i64 i, .int .i64 b] w fun e w' => e = .returned (.int .i64 (callW t p s i b)) ∧ Below w.heap.size w w' := by
  have hr : ∃ c, rightC t p s = c := ⟨_, rfl⟩
  obtain ⟨c, hr⟩ := hr
  cases c
  · have H := hid (show callW t p s i b = -1 by simp [callW, hr])
    have L := hid (show layV t p s = .tuple #[.agg #[.int .i64 0, .int .i64 0, .int .i64 0, .int .i64 0], .bool false] by rw [layV, hr]; rfl)
    clear hr
    go_enter Try.func30, Try.ntmps30
    go_wp2_with (first
      | (go_at_call 83; refine (placeLay _ _ _ _).mono ?_; rw [L.out]; rintro e w1 ⟨rfl, hb1⟩; obtain ⟨hc1, hf1, hz1⟩ := after hb1; simp at hz1)
      | (go_at_call 90; refine (laidWord _ _ _ _ _ _ _ _ _ h1 h2 (by omega) (by omega) (by omega) (by omega) (by omega)).mono ?_; rintro e w2 ⟨rfl, hb2⟩; obtain ⟨hc2, hf2, hz2⟩ := after hb2; simp at hz2))
    go_ret
    exact ⟨ret_int (by rw [H.out]), bel⟩
  · have L := hid (show layV t p s = .tuple #[.agg #[.int .i64 t, .int .i64 p, .int .i64 s, .int .i64 (makersN t p)], .bool true] by rw [layV, hr]; rfl)
    obtain ⟨⟨h1, h2⟩, ⟨h3, h4⟩, h5, h6⟩ := rightC_of hr
    have mb := makers_bd ⟨⟨h1, h2⟩, h3, h4⟩
    have cb : 58 ≤ cellsN t p ∧ cellsN t p ≤ 6238 := by unfold cellsN; omega
    by_cases c1 : 0 ≤ b
    · skip
      by_cases c2 : b ≤ 1
      · skip
        have H := hid (show callW t p s i b = laidWordV t (makersN t p) i 0 (8 * b) 16 by rw [callW, laidWordV, withinV, hr]; (repeat' split) <;> simp at * <;> omega)
        clear hr
        go_enter Try.func30, Try.ntmps30
        go_wp2_with (first
          | (go_at_call 83; refine (placeLay _ _ _ _).mono ?_; rw [L.out]; rintro e w1 ⟨rfl, hb1⟩; obtain ⟨hc1, hf1, hz1⟩ := after hb1; simp at hz1)
          | (go_at_call 90; refine (laidWord _ _ _ _ _ _ _ _ _ h1 h2 (by omega) (by omega) (by omega) (by omega) (by omega)).mono ?_; rintro e w2 ⟨rfl, hb2⟩; obtain ⟨hc2, hf2, hz2⟩ := after hb2; simp at hz2))
        go_ret
        exact ⟨ret_int (by rw [H.out]), bel⟩
      · have H := hid (show callW t p s i b = -1 by rw [callW, if_neg (by intro h; omega)])
        clear hr
        go_enter Try.func30, Try.ntmps30
        go_wp2_with (first
          | (go_at_call 83; refine (placeLay _ _ _ _).mono ?_; rw [L.out]; rintro e w1 ⟨rfl, hb1⟩; obtain ⟨hc1, hf1, hz1⟩ := after hb1; simp at hz1)
          | (go_at_call 90; refine (laidWord _ _ _ _ _ _ _ _ _ h1 h2 (by omega) (by omega) (by omega) (by omega) (by omega)).mono ?_; rintro e w2 ⟨rfl, hb2⟩; obtain ⟨hc2, hf2, hz2⟩ := after hb2; simp at hz2))
        go_ret
        exact ⟨ret_int (by rw [H.out]), bel⟩
    · have H := hid (show callW t p s i b = -1 by rw [callW, if_neg (by intro h; omega)])
      clear hr
      go_enter Try.func30, Try.ntmps30
      go_wp2_with (first
        | (go_at_call 83; refine (placeLay _ _ _ _).mono ?_; rw [L.out]; rintro e w1 ⟨rfl, hb1⟩; obtain ⟨hc1, hf1, hz1⟩ := after hb1; simp at hz1)
        | (go_at_call 90; refine (laidWord _ _ _ _ _ _ _ _ _ h1 h2 (by omega) (by omega) (by omega) (by omega) (by omega)).mono ?_; rintro e w2 ⟨rfl, hb2⟩; obtain ⟨hc2, hf2, hz2⟩ := after hb2; simp at hz2))
      go_ret
      exact ⟨ret_int (by rw [H.out]), bel⟩

set_option maxHeartbeats 800000 in
theorem placeNote (t p s : Int) (i : Int) (w : World) :
    Calls Try.prog 32 #[.agg #[.int .i64 t, .int .i64 p, .int .i64 s], .int .i64 i] w fun e w' => e = .returned (.int .i64 (noteW t p s i)) ∧ Below w.heap.size w w' := by
  have hr : ∃ c, rightC t p s = c := ⟨_, rfl⟩
  obtain ⟨c, hr⟩ := hr
  cases c
  · have H := hid (show noteW t p s i = -1 by simp [noteW, hr])
    have L := hid (show layV t p s = .tuple #[.agg #[.int .i64 0, .int .i64 0, .int .i64 0, .int .i64 0], .bool false] by rw [layV, hr]; rfl)
    clear hr
    go_enter Try.func32, Try.ntmps32
    go_wp2_with (first
      | (go_at_call 83; refine (placeLay _ _ _ _).mono ?_; rw [L.out]; rintro e w1 ⟨rfl, hb1⟩; obtain ⟨hc1, hf1, hz1⟩ := after hb1; simp at hz1)
      | (go_at_call 90; refine (laidWord _ _ _ _ _ _ _ _ _ h1 h2 (by omega) (by omega) (by omega) (by omega) (by omega)).mono ?_; rintro e w2 ⟨rfl, hb2⟩; obtain ⟨hc2, hf2, hz2⟩ := after hb2; simp at hz2))
    go_ret
    exact ⟨ret_int (by rw [H.out]), bel⟩
  · have L := hid (show layV t p s = .tuple #[.agg #[.int .i64 t, .int .i64 p, .int .i64 s, .int .i64 (makersN t p)], .bool true] by rw [layV, hr]; rfl)
    obtain ⟨⟨h1, h2⟩, ⟨h3, h4⟩, h5, h6⟩ := rightC_of hr
    have mb := makers_bd ⟨⟨h1, h2⟩, h3, h4⟩
    have cb : 58 ≤ cellsN t p ∧ cellsN t p ≤ 6238 := by unfold cellsN; omega
    have H := hid (show noteW t p s i = laidWordV t (makersN t p) i 16 0 1 by rw [noteW, laidWordV, withinV, hr]; (repeat' split) <;> simp at * <;> omega)
    clear hr
    go_enter Try.func32, Try.ntmps32
    go_wp2_with (first
      | (go_at_call 83; refine (placeLay _ _ _ _).mono ?_; rw [L.out]; rintro e w1 ⟨rfl, hb1⟩; obtain ⟨hc1, hf1, hz1⟩ := after hb1; simp at hz1)
      | (go_at_call 90; refine (laidWord _ _ _ _ _ _ _ _ _ h1 h2 (by omega) (by omega) (by omega) (by omega) (by omega)).mono ?_; rintro e w2 ⟨rfl, hb2⟩; obtain ⟨hc2, hf2, hz2⟩ := after hb2; simp at hz2))
    go_ret
    exact ⟨ret_int (by rw [H.out]), bel⟩

set_option maxHeartbeats 800000 in
theorem placeLog (t p s : Int) (i j : Int) (w : World) :
    Calls Try.prog 34 #[.agg #[.int .i64 t, .int .i64 p, .int .i64 s], .int .i64 i, .int .i64 j] w fun e w' => e = .returned (.int .i64 (logW t p s i j)) ∧ Below w.heap.size w w' := by
  have hr : ∃ c, rightC t p s = c := ⟨_, rfl⟩
  obtain ⟨c, hr⟩ := hr
  cases c
  · have H := hid (show logW t p s i j = -1 by simp [logW, hr])
    have L := hid (show layV t p s = .tuple #[.agg #[.int .i64 0, .int .i64 0, .int .i64 0, .int .i64 0], .bool false] by rw [layV, hr]; rfl)
    clear hr
    go_enter Try.func34, Try.ntmps34
    go_wp2_with (first
      | (go_at_call 83; refine (placeLay _ _ _ _).mono ?_; rw [L.out]; rintro e w1 ⟨rfl, hb1⟩; obtain ⟨hc1, hf1, hz1⟩ := after hb1; simp at hz1)
      | (go_at_call 90; refine (laidWord _ _ _ _ _ _ _ _ _ h1 h2 (by omega) (by omega) (by omega) (by omega) (by omega)).mono ?_; rintro e w2 ⟨rfl, hb2⟩; obtain ⟨hc2, hf2, hz2⟩ := after hb2; simp at hz2))
    go_ret
    exact ⟨ret_int (by rw [H.out]), bel⟩
  · have L := hid (show layV t p s = .tuple #[.agg #[.int .i64 t, .int .i64 p, .int .i64 s, .int .i64 (makersN t p)], .bool true] by rw [layV, hr]; rfl)
    obtain ⟨⟨h1, h2⟩, ⟨h3, h4⟩, h5, h6⟩ := rightC_of hr
    have mb := makers_bd ⟨⟨h1, h2⟩, h3, h4⟩
    have cb : 58 ≤ cellsN t p ∧ cellsN t p ≤ 6238 := by unfold cellsN; omega
    have H := hid (show logW t p s i j = laidWordV t (makersN t p) i 24 j 96 by rw [logW, laidWordV, withinV, hr]; (repeat' split) <;> simp at * <;> omega)
    clear hr
    go_enter Try.func34, Try.ntmps34
    go_wp2_with (first
      | (go_at_call 83; refine (placeLay _ _ _ _).mono ?_; rw [L.out]; rintro e w1 ⟨rfl, hb1⟩; obtain ⟨hc1, hf1, hz1⟩ := after hb1; simp at hz1)
      | (go_at_call 90; refine (laidWord _ _ _ _ _ _ _ _ _ h1 h2 (by omega) (by omega) (by omega) (by omega) (by omega)).mono ?_; rintro e w2 ⟨rfl, hb2⟩; obtain ⟨hc2, hf2, hz2⟩ := after hb2; simp at hz2))
    go_ret
    exact ⟨ret_int (by rw [H.out]), bel⟩

theorem placeInfo (t p s i : Int) (w : World) :
    Calls Try.prog 47 #[.agg #[.int .i64 t, .int .i64 p, .int .i64 s], .int .i64 i] w fun e w' => e = .returned (.int .i64 (pageV t p s i 0)) ∧ Below w.heap.size w w' := by
  go_enter Try.func47, Try.ntmps47
  go_wp2_with (go_at_call 92; refine (placeOf _ _ _ _ _ _ (by omega) (by omega)).mono ?_; rintro e w1 ⟨rfl, hb1⟩)
  go_ret
  exact ⟨rfl, bel⟩

theorem placeFoot (t p s i : Int) (w : World) :
    Calls Try.prog 49 #[.agg #[.int .i64 t, .int .i64 p, .int .i64 s], .int .i64 i] w fun e w' => e = .returned (.int .i64 (pageV t p s i 1)) ∧ Below w.heap.size w w' := by
  go_enter Try.func49, Try.ntmps49
  go_wp2_with (go_at_call 92; refine (placeOf _ _ _ _ _ _ (by omega) (by omega)).mono ?_; rintro e w1 ⟨rfl, hb1⟩)
  go_ret
  exact ⟨rfl, bel⟩

theorem placeNext (t p s i : Int) (w : World) :
    Calls Try.prog 51 #[.agg #[.int .i64 t, .int .i64 p, .int .i64 s], .int .i64 i] w fun e w' => e = .returned (.int .i64 (pageV t p s i 2)) ∧ Below w.heap.size w w' := by
  go_enter Try.func51, Try.ntmps51
  go_wp2_with (go_at_call 92; refine (placeOf _ _ _ _ _ _ (by omega) (by omega)).mono ?_; rintro e w1 ⟨rfl, hb1⟩)
  go_ret
  exact ⟨rfl, bel⟩

theorem placePrev (t p s i : Int) (w : World) :
    Calls Try.prog 53 #[.agg #[.int .i64 t, .int .i64 p, .int .i64 s], .int .i64 i] w fun e w' => e = .returned (.int .i64 (pageV t p s i 3)) ∧ Below w.heap.size w w' := by
  go_enter Try.func53, Try.ntmps53
  go_wp2_with (go_at_call 92; refine (placeOf _ _ _ _ _ _ (by omega) (by omega)).mono ?_; rintro e w1 ⟨rfl, hb1⟩)
  go_ret
  exact ⟨rfl, bel⟩

theorem placeSlots (t p s i : Int) (w : World) :
    Calls Try.prog 55 #[.agg #[.int .i64 t, .int .i64 p, .int .i64 s], .int .i64 i] w fun e w' => e = .returned (.int .i64 (pageV t p s i 4)) ∧ Below w.heap.size w w' := by
  go_enter Try.func55, Try.ntmps55
  go_wp2_with (go_at_call 92; refine (placeOf _ _ _ _ _ _ (by omega) (by omega)).mono ?_; rintro e w1 ⟨rfl, hb1⟩)
  go_ret
  exact ⟨rfl, bel⟩

theorem placeTaken (t p s i : Int) (w : World) :
    Calls Try.prog 57 #[.agg #[.int .i64 t, .int .i64 p, .int .i64 s], .int .i64 i] w fun e w' => e = .returned (.int .i64 (pageV t p s i 5)) ∧ Below w.heap.size w w' := by
  go_enter Try.func57, Try.ntmps57
  go_wp2_with (go_at_call 92; refine (placeOf _ _ _ _ _ _ (by omega) (by omega)).mono ?_; rintro e w1 ⟨rfl, hb1⟩)
  go_ret
  exact ⟨rfl, bel⟩

theorem placeBin (i : Int) (w : World) :
    Calls Try.prog 37 #[.int .i64 i] w fun e w' => e = .returned (.int .i64 (withinV 2 i 11)) ∧ w = w' := by
  go_enter Try.func37, Try.ntmps37
  go_wp2_with (go_at_call 89; refine (placeWithin _ _ _ _ (by omega) (by omega) (by omega)).mono ?_; rintro e w3 ⟨rfl, rfl⟩)
  go_ret
  exact ⟨rfl, rfl⟩

theorem placeRack (i : Int) (w : World) :
    Calls Try.prog 39 #[.int .i64 i] w fun e w' => e = .returned (.int .i64 (withinV 13 i 9)) ∧ w = w' := by
  go_enter Try.func39, Try.ntmps39
  go_wp2_with (go_at_call 89; refine (placeWithin _ _ _ _ (by omega) (by omega) (by omega)).mono ?_; rintro e w3 ⟨rfl, rfl⟩)
  go_ret
  exact ⟨rfl, rfl⟩

theorem placeRoot (i : Int) (w : World) :
    Calls Try.prog 41 #[.int .i64 i] w fun e w' => e = .returned (.int .i64 (withinV 22 i 8)) ∧ w = w' := by
  go_enter Try.func41, Try.ntmps41
  go_wp2_with (go_at_call 89; refine (placeWithin _ _ _ _ (by omega) (by omega) (by omega)).mono ?_; rintro e w3 ⟨rfl, rfl⟩)
  go_ret
  exact ⟨rfl, rfl⟩
end Go.Proofs.Ytpeeaapheohehaa
