/- The walks of package place: what a word is. -/
import Derived.Test.YtpeeaapheohehaaPlace2
namespace Go.Proofs.Ytpeeaapheohehaa
open Go.RowKit
set_option linter.unusedVariables false
set_option linter.unusedSimpArgs false

/-- What a maker's word is. -/
def madeV (u i : Int) : Value := if i < 16 then .agg #[.int .i64 4, .int .i64 u, .int .i64 i] else if i = 16 then .agg #[.int .i64 5, .int .i64 u, .int .i64 0] else if 24 ≤ i then .agg #[.int .i64 6, .int .i64 u, .int .i64 (i - 24)] else .agg #[.int .i64 0, .int .i64 0, .int .i64 0]
/-- What a word is. -/
def atV (t p s x : Int) : Value :=
  if rightC t p s = true ∧ 0 ≤ x ∧ x < makersN t p + 120 * (t + 1) then
    if x < 8 then .agg #[.int .i64 1, .int .i64 x, .int .i64 0] else if x = 8 then .agg #[.int .i64 2, .int .i64 0, .int .i64 0]
    else if makersN t p ≤ x then madeV ((x - makersN t p) / 120) ((x - makersN t p) % 120) else if 16 ≤ x ∧ x < 16 + cellsN t p then .agg #[.int .i64 3, .int .i64 (x - 16), .int .i64 0] else .agg #[.int .i64 0, .int .i64 0, .int .i64 0]
  else .agg #[.int .i64 0, .int .i64 0, .int .i64 0]
theorem madeForm (u i : Int) : ∃ k a b, madeV u i = .agg #[.int .i64 k, .int .i64 a, .int .i64 b] := by
  unfold madeV
  (repeat' split) <;> exact ⟨_, _, _, rfl⟩
theorem atForm (t p s x : Int) : ∃ k a b, atV t p s x = .agg #[.int .i64 k, .int .i64 a, .int .i64 b] := by
  unfold atV
  (repeat' split) <;> first | exact ⟨_, _, _, rfl⟩ | exact madeForm _ _


theorem placeMade (u i : Int) (w : World) (i0 : 0 ≤ i) (i1 : i < 120) :
    Calls Try.prog 85 #[.int .i64 u, .int .i64 i] w fun e w' => e = .returned (madeV u i) ∧ Below w.heap.size w w' := by
  rcases (show i < 16 ∨ i = 16 ∨ (16 < i ∧ i < 24) ∨ 24 ≤ i by omega) with h | rfl | ⟨h, h'⟩ | h
  · skip
    have H := hid (show madeV u i = .agg #[.int .i64 4, .int .i64 (u), .int .i64 (i)] by rw [madeV, if_pos h])
    go_enter Try.func85, Try.ntmps85
    go_wp2
    exact bodyPost_ret (v := .agg #[.int .i64 4, .int .i64 (u), .int .i64 (i)]) (by simp [results, Try.results85, go_sem]) rfl ⟨by rw [H.out], bel⟩
  · skip
    have H := hid (show madeV u 16 = .agg #[.int .i64 5, .int .i64 (u), .int .i64 (0)] by rw [madeV, if_neg (by omega), if_pos rfl])
    go_enter Try.func85, Try.ntmps85
    go_wp2
    exact bodyPost_ret (v := .agg #[.int .i64 5, .int .i64 (u), .int .i64 (0)]) (by simp [results, Try.results85, go_sem]) rfl ⟨by rw [H.out], bel⟩
  · skip
    have H := hid (show madeV u i = .agg #[.int .i64 0, .int .i64 (0), .int .i64 (0)] by rw [madeV, if_neg (by omega), if_neg (by omega), if_neg (by omega)])
    go_enter Try.func85, Try.ntmps85
    go_wp2
    exact bodyPost_ret (v := .agg #[.int .i64 0, .int .i64 (0), .int .i64 (0)]) (by simp [results, Try.results85, go_sem]) rfl ⟨by rw [H.out], bel⟩
  · have h' : ¬ i = 16 := by omega
    have H := hid (show madeV u i = .agg #[.int .i64 6, .int .i64 (u), .int .i64 (i - 24)] by rw [madeV, if_neg (by omega), if_neg h', if_pos h])
    go_enter Try.func85, Try.ntmps85
    go_wp2
    exact bodyPost_ret (v := .agg #[.int .i64 6, .int .i64 (u), .int .i64 (i - 24)]) (by simp [results, Try.results85, go_sem]) rfl ⟨by rw [H.out], bel⟩

set_option maxHeartbeats 800000 in
theorem placeAtWrong (t p s x : Int) (w : World) (hr : rightC t p s = false) :
    Calls Try.prog 26 #[.agg #[.int .i64 t, .int .i64 p, .int .i64 s], .int .i64 x] w fun e w' => e = .returned (atV t p s x) ∧ Below w.heap.size w w' := by
  have H := hid (show atV t p s x = .agg #[.int .i64 0, .int .i64 0, .int .i64 0] by rw [atV, if_neg (by rw [hr]; simp)])
  have L := hid (show layV t p s = .tuple #[.agg #[.int .i64 0, .int .i64 0, .int .i64 0, .int .i64 0], .bool false] by rw [layV, hr]; rfl)
  clear hr
  go_enter Try.func26, Try.ntmps26
  go_wp2_with fail
  refine (placeLay _ _ _ _).mono ?_
  rw [L.out]
  rintro e w1 ⟨rfl, hb1⟩
  obtain ⟨hc1, hf1, hz1⟩ := after hb1
  try simp at hz1
  have z1_0 : w.heap.size < w1.heap.size := by omega
  have z1_1 : w.heap.size + 1 < w1.heap.size := by omega
  have k1_0 : w1.cell? ⟨w.heap.size + 1, 0, none⟩ = some (.int .i64 0) := by rw [hc1 _ _ (by simp)]; exact cellNew (by simp) rfl
  have k1_1 : w1.cell? ⟨w.heap.size + 1, 1, none⟩ = some (.int .i64 0) := by rw [hc1 _ _ (by simp)]; exact cellNew (by simp) rfl
  have k1_2 : w1.cell? ⟨w.heap.size + 1, 2, none⟩ = some (.int .i64 0) := by rw [hc1 _ _ (by simp)]; exact cellNew (by simp) rfl
  have m1 : ∀ o, w1.frozen? ⟨w.heap.size + 1, o, none⟩ = false := by intro o; rw [hf1 _ _ (by (try simp) <;> omega)]; simp
  go_wp2_with fail
  exact bodyPost_ret (v := .agg #[.int .i64 0, .int .i64 (0), .int .i64 (0)]) (by simp [results, Try.results26, go_sem, k1_0, k1_1, k1_2, z1_0, z1_1]) rfl ⟨by rw [H.out], bel⟩

set_option maxHeartbeats 800000 in
theorem placeAtOut1 (t p s x : Int) (w : World) (hr : rightC t p s = true) (hx : x < 0) :
    Calls Try.prog 26 #[.agg #[.int .i64 t, .int .i64 p, .int .i64 s], .int .i64 x] w fun e w' => e = .returned (atV t p s x) ∧ Below w.heap.size w w' := by
  obtain ⟨⟨h1, h2⟩, ⟨h3, h4⟩, h5, h6⟩ := rightC_of hr
  have mb := makers_bd ⟨⟨h1, h2⟩, h3, h4⟩
  have cb : 58 ≤ cellsN t p ∧ cellsN t p ≤ 6238 := by unfold cellsN; omega
  have H := hid (show atV t p s x = .agg #[.int .i64 0, .int .i64 (0), .int .i64 (0)] by rw [atV, if_neg (by intro h; omega)])
  have L := hid (show layV t p s = .tuple #[.agg #[.int .i64 t, .int .i64 p, .int .i64 s, .int .i64 (makersN t p)], .bool true] by rw [layV, hr]; rfl)
  clear hr
  go_enter Try.func26, Try.ntmps26
  go_wp2_with fail
  refine (placeLay _ _ _ _).mono ?_
  rw [L.out]
  rintro e w1 ⟨rfl, hb1⟩
  obtain ⟨hc1, hf1, hz1⟩ := after hb1
  try simp at hz1
  have z1_0 : w.heap.size < w1.heap.size := by omega
  have z1_1 : w.heap.size + 1 < w1.heap.size := by omega
  have k1_0 : w1.cell? ⟨w.heap.size + 1, 0, none⟩ = some (.int .i64 0) := by rw [hc1 _ _ (by simp)]; exact cellNew (by simp) rfl
  have k1_1 : w1.cell? ⟨w.heap.size + 1, 1, none⟩ = some (.int .i64 0) := by rw [hc1 _ _ (by simp)]; exact cellNew (by simp) rfl
  have k1_2 : w1.cell? ⟨w.heap.size + 1, 2, none⟩ = some (.int .i64 0) := by rw [hc1 _ _ (by simp)]; exact cellNew (by simp) rfl
  have m1 : ∀ o, w1.frozen? ⟨w.heap.size + 1, o, none⟩ = false := by intro o; rw [hf1 _ _ (by (try simp) <;> omega)]; simp
  go_wp2_with fail
  exact bodyPost_ret (v := .agg #[.int .i64 0, .int .i64 (0), .int .i64 (0)]) (by simp [results, Try.results26, go_sem, k1_0, k1_1, k1_2, z1_0, z1_1]) rfl ⟨by rw [H.out], bel⟩

set_option maxHeartbeats 800000 in
theorem placeAtOut2 (t p s x : Int) (w : World) (hr : rightC t p s = true) (hx0 : 0 ≤ x) (hx : makersN t p + 120 * (t + 1) ≤ x) :
    Calls Try.prog 26 #[.agg #[.int .i64 t, .int .i64 p, .int .i64 s], .int .i64 x] w fun e w' => e = .returned (atV t p s x) ∧ Below w.heap.size w w' := by
  obtain ⟨⟨h1, h2⟩, ⟨h3, h4⟩, h5, h6⟩ := rightC_of hr
  have mb := makers_bd ⟨⟨h1, h2⟩, h3, h4⟩
  have cb : 58 ≤ cellsN t p ∧ cellsN t p ≤ 6238 := by unfold cellsN; omega
  have H := hid (show atV t p s x = .agg #[.int .i64 0, .int .i64 (0), .int .i64 (0)] by rw [atV, if_neg (by intro h; omega)])
  have L := hid (show layV t p s = .tuple #[.agg #[.int .i64 t, .int .i64 p, .int .i64 s, .int .i64 (makersN t p)], .bool true] by rw [layV, hr]; rfl)
  clear hr
  go_enter Try.func26, Try.ntmps26
  go_wp2_with fail
  refine (placeLay _ _ _ _).mono ?_
  rw [L.out]
  rintro e w1 ⟨rfl, hb1⟩
  obtain ⟨hc1, hf1, hz1⟩ := after hb1
  try simp at hz1
  have z1_0 : w.heap.size < w1.heap.size := by omega
  have z1_1 : w.heap.size + 1 < w1.heap.size := by omega
  have k1_0 : w1.cell? ⟨w.heap.size + 1, 0, none⟩ = some (.int .i64 0) := by rw [hc1 _ _ (by simp)]; exact cellNew (by simp) rfl
  have k1_1 : w1.cell? ⟨w.heap.size + 1, 1, none⟩ = some (.int .i64 0) := by rw [hc1 _ _ (by simp)]; exact cellNew (by simp) rfl
  have k1_2 : w1.cell? ⟨w.heap.size + 1, 2, none⟩ = some (.int .i64 0) := by rw [hc1 _ _ (by simp)]; exact cellNew (by simp) rfl
  have m1 : ∀ o, w1.frozen? ⟨w.heap.size + 1, o, none⟩ = false := by intro o; rw [hf1 _ _ (by (try simp) <;> omega)]; simp
  go_wp2_with fail
  refine (laidWords _ _ _ _ _ h1 h2 (by omega) (by omega)).mono ?_
  rintro e w2 ⟨rfl, hb2⟩
  obtain ⟨hc2, hf2, hz2⟩ := after hb2
  try simp at hz2
  have z2_0 : w.heap.size < w2.heap.size := by omega
  have z2_1 : w.heap.size + 1 < w2.heap.size := by omega
  have z2_2 : w1.heap.size < w2.heap.size := by omega
  have k2_0 : w2.cell? ⟨w.heap.size + 1, 0, none⟩ = some (.int .i64 0) := by rw [hc2 _ _ (by (try simp); omega)]; first | exact k1_0 | exact cellOld (by omega) k1_0
  have k2_1 : w2.cell? ⟨w.heap.size + 1, 1, none⟩ = some (.int .i64 0) := by rw [hc2 _ _ (by (try simp); omega)]; first | exact k1_1 | exact cellOld (by omega) k1_1
  have k2_2 : w2.cell? ⟨w.heap.size + 1, 2, none⟩ = some (.int .i64 0) := by rw [hc2 _ _ (by (try simp); omega)]; first | exact k1_2 | exact cellOld (by omega) k1_2
  have m2 : ∀ o, w2.frozen? ⟨w.heap.size + 1, o, none⟩ = false := by intro o; rw [hf2 _ _ (by (try simp) <;> omega)]; first | exact m1 o | (rw [frozen?_alloc_cells]; exact m1 o)
  go_wp2_with fail
  exact bodyPost_ret (v := .agg #[.int .i64 0, .int .i64 (0), .int .i64 (0)]) (by simp [results, Try.results26, go_sem, k2_0, k2_1, k2_2, z2_0, z2_1]) rfl ⟨by rw [H.out], bel⟩

set_option maxHeartbeats 800000 in
theorem placeAtHead (t p s x : Int) (w : World) (hr : rightC t p s = true) (hx0 : 0 ≤ x) (hx : x < 8) :
    Calls Try.prog 26 #[.agg #[.int .i64 t, .int .i64 p, .int .i64 s], .int .i64 x] w fun e w' => e = .returned (atV t p s x) ∧ Below w.heap.size w w' := by
  obtain ⟨⟨h1, h2⟩, ⟨h3, h4⟩, h5, h6⟩ := rightC_of hr
  have mb := makers_bd ⟨⟨h1, h2⟩, h3, h4⟩
  have cb : 58 ≤ cellsN t p ∧ cellsN t p ≤ 6238 := by unfold cellsN; omega
  have H := hid (show atV t p s x = .agg #[.int .i64 1, .int .i64 (x), .int .i64 (0)] by rw [atV, if_pos ⟨hr, by omega, by omega⟩, if_pos hx])
  have L := hid (show layV t p s = .tuple #[.agg #[.int .i64 t, .int .i64 p, .int .i64 s, .int .i64 (makersN t p)], .bool true] by rw [layV, hr]; rfl)
  clear hr
  go_enter Try.func26, Try.ntmps26
  go_wp2_with fail
  refine (placeLay _ _ _ _).mono ?_
  rw [L.out]
  rintro e w1 ⟨rfl, hb1⟩
  obtain ⟨hc1, hf1, hz1⟩ := after hb1
  try simp at hz1
  have z1_0 : w.heap.size < w1.heap.size := by omega
  have z1_1 : w.heap.size + 1 < w1.heap.size := by omega
  have k1_0 : w1.cell? ⟨w.heap.size + 1, 0, none⟩ = some (.int .i64 0) := by rw [hc1 _ _ (by simp)]; exact cellNew (by simp) rfl
  have k1_1 : w1.cell? ⟨w.heap.size + 1, 1, none⟩ = some (.int .i64 0) := by rw [hc1 _ _ (by simp)]; exact cellNew (by simp) rfl
  have k1_2 : w1.cell? ⟨w.heap.size + 1, 2, none⟩ = some (.int .i64 0) := by rw [hc1 _ _ (by simp)]; exact cellNew (by simp) rfl
  have m1 : ∀ o, w1.frozen? ⟨w.heap.size + 1, o, none⟩ = false := by intro o; rw [hf1 _ _ (by (try simp) <;> omega)]; simp
  go_wp2_with fail
  refine (laidWords _ _ _ _ _ h1 h2 (by omega) (by omega)).mono ?_
  rintro e w2 ⟨rfl, hb2⟩
  obtain ⟨hc2, hf2, hz2⟩ := after hb2
  try simp at hz2
  have z2_0 : w.heap.size < w2.heap.size := by omega
  have z2_1 : w.heap.size + 1 < w2.heap.size := by omega
  have z2_2 : w1.heap.size < w2.heap.size := by omega
  have k2_0 : w2.cell? ⟨w.heap.size + 1, 0, none⟩ = some (.int .i64 0) := by rw [hc2 _ _ (by (try simp); omega)]; first | exact k1_0 | exact cellOld (by omega) k1_0
  have k2_1 : w2.cell? ⟨w.heap.size + 1, 1, none⟩ = some (.int .i64 0) := by rw [hc2 _ _ (by (try simp); omega)]; first | exact k1_1 | exact cellOld (by omega) k1_1
  have k2_2 : w2.cell? ⟨w.heap.size + 1, 2, none⟩ = some (.int .i64 0) := by rw [hc2 _ _ (by (try simp); omega)]; first | exact k1_2 | exact cellOld (by omega) k1_2
  have m2 : ∀ o, w2.frozen? ⟨w.heap.size + 1, o, none⟩ = false := by intro o; rw [hf2 _ _ (by (try simp) <;> omega)]; first | exact m1 o | (rw [frozen?_alloc_cells]; exact m1 o)
  go_wp2_with fail
  exact bodyPost_ret (v := .agg #[.int .i64 1, .int .i64 (x), .int .i64 (0)]) (by simp [results, Try.results26, go_sem, k2_0, k2_1, k2_2, z2_0, z2_1]) rfl ⟨by rw [H.out], bel⟩

set_option maxHeartbeats 800000 in
theorem placeAtTip (t p s x : Int) (w : World) (hr : rightC t p s = true) (hx : x = 8) :
    Calls Try.prog 26 #[.agg #[.int .i64 t, .int .i64 p, .int .i64 s], .int .i64 x] w fun e w' => e = .returned (atV t p s x) ∧ Below w.heap.size w w' := by
  obtain ⟨⟨h1, h2⟩, ⟨h3, h4⟩, h5, h6⟩ := rightC_of hr
  have mb := makers_bd ⟨⟨h1, h2⟩, h3, h4⟩
  have cb : 58 ≤ cellsN t p ∧ cellsN t p ≤ 6238 := by unfold cellsN; omega
  have H := hid (show atV t p s x = .agg #[.int .i64 2, .int .i64 (0), .int .i64 (0)] by rw [atV, if_pos ⟨hr, by omega, by omega⟩, if_neg (by omega), if_pos hx])
  have L := hid (show layV t p s = .tuple #[.agg #[.int .i64 t, .int .i64 p, .int .i64 s, .int .i64 (makersN t p)], .bool true] by rw [layV, hr]; rfl)
  clear hr
  subst hx
  go_enter Try.func26, Try.ntmps26
  go_wp2_with fail
  refine (placeLay _ _ _ _).mono ?_
  rw [L.out]
  rintro e w1 ⟨rfl, hb1⟩
  obtain ⟨hc1, hf1, hz1⟩ := after hb1
  try simp at hz1
  have z1_0 : w.heap.size < w1.heap.size := by omega
  have z1_1 : w.heap.size + 1 < w1.heap.size := by omega
  have k1_0 : w1.cell? ⟨w.heap.size + 1, 0, none⟩ = some (.int .i64 0) := by rw [hc1 _ _ (by simp)]; exact cellNew (by simp) rfl
  have k1_1 : w1.cell? ⟨w.heap.size + 1, 1, none⟩ = some (.int .i64 0) := by rw [hc1 _ _ (by simp)]; exact cellNew (by simp) rfl
  have k1_2 : w1.cell? ⟨w.heap.size + 1, 2, none⟩ = some (.int .i64 0) := by rw [hc1 _ _ (by simp)]; exact cellNew (by simp) rfl
  have m1 : ∀ o, w1.frozen? ⟨w.heap.size + 1, o, none⟩ = false := by intro o; rw [hf1 _ _ (by (try simp) <;> omega)]; simp
  go_wp2_with fail
  refine (laidWords _ _ _ _ _ h1 h2 (by omega) (by omega)).mono ?_
  rintro e w2 ⟨rfl, hb2⟩
  obtain ⟨hc2, hf2, hz2⟩ := after hb2
  try simp at hz2
  have z2_0 : w.heap.size < w2.heap.size := by omega
  have z2_1 : w.heap.size + 1 < w2.heap.size := by omega
  have z2_2 : w1.heap.size < w2.heap.size := by omega
  have k2_0 : w2.cell? ⟨w.heap.size + 1, 0, none⟩ = some (.int .i64 0) := by rw [hc2 _ _ (by (try simp); omega)]; first | exact k1_0 | exact cellOld (by omega) k1_0
  have k2_1 : w2.cell? ⟨w.heap.size + 1, 1, none⟩ = some (.int .i64 0) := by rw [hc2 _ _ (by (try simp); omega)]; first | exact k1_1 | exact cellOld (by omega) k1_1
  have k2_2 : w2.cell? ⟨w.heap.size + 1, 2, none⟩ = some (.int .i64 0) := by rw [hc2 _ _ (by (try simp); omega)]; first | exact k1_2 | exact cellOld (by omega) k1_2
  have m2 : ∀ o, w2.frozen? ⟨w.heap.size + 1, o, none⟩ = false := by intro o; rw [hf2 _ _ (by (try simp) <;> omega)]; first | exact m1 o | (rw [frozen?_alloc_cells]; exact m1 o)
  go_wp2_with fail
  exact bodyPost_ret (v := .agg #[.int .i64 2, .int .i64 (0), .int .i64 (0)]) (by simp [results, Try.results26, go_sem, k2_0, k2_1, k2_2, z2_0, z2_1]) rfl ⟨by rw [H.out], bel⟩

set_option maxHeartbeats 800000 in
theorem placeAtCell (t p s x : Int) (w : World) (hr : rightC t p s = true) (hx0 : 16 ≤ x) (hx : x < 16 + cellsN t p) :
    Calls Try.prog 26 #[.agg #[.int .i64 t, .int .i64 p, .int .i64 s], .int .i64 x] w fun e w' => e = .returned (atV t p s x) ∧ Below w.heap.size w w' := by
  obtain ⟨⟨h1, h2⟩, ⟨h3, h4⟩, h5, h6⟩ := rightC_of hr
  have mb := makers_bd ⟨⟨h1, h2⟩, h3, h4⟩
  have cb : 58 ≤ cellsN t p ∧ cellsN t p ≤ 6238 := by unfold cellsN; omega
  have H := hid (show atV t p s x = .agg #[.int .i64 3, .int .i64 (x - 16), .int .i64 (0)] by rw [atV, if_pos ⟨hr, by omega, by omega⟩, if_neg (by omega), if_neg (by omega), if_neg (by omega), if_pos ⟨hx0, hx⟩])
  have L := hid (show layV t p s = .tuple #[.agg #[.int .i64 t, .int .i64 p, .int .i64 s, .int .i64 (makersN t p)], .bool true] by rw [layV, hr]; rfl)
  clear hr
  go_enter Try.func26, Try.ntmps26
  go_wp2_with fail
  refine (placeLay _ _ _ _).mono ?_
  rw [L.out]
  rintro e w1 ⟨rfl, hb1⟩
  obtain ⟨hc1, hf1, hz1⟩ := after hb1
  try simp at hz1
  have z1_0 : w.heap.size < w1.heap.size := by omega
  have z1_1 : w.heap.size + 1 < w1.heap.size := by omega
  have k1_0 : w1.cell? ⟨w.heap.size + 1, 0, none⟩ = some (.int .i64 0) := by rw [hc1 _ _ (by simp)]; exact cellNew (by simp) rfl
  have k1_1 : w1.cell? ⟨w.heap.size + 1, 1, none⟩ = some (.int .i64 0) := by rw [hc1 _ _ (by simp)]; exact cellNew (by simp) rfl
  have k1_2 : w1.cell? ⟨w.heap.size + 1, 2, none⟩ = some (.int .i64 0) := by rw [hc1 _ _ (by simp)]; exact cellNew (by simp) rfl
  have m1 : ∀ o, w1.frozen? ⟨w.heap.size + 1, o, none⟩ = false := by intro o; rw [hf1 _ _ (by (try simp) <;> omega)]; simp
  go_wp2_with fail
  refine (laidWords _ _ _ _ _ h1 h2 (by omega) (by omega)).mono ?_
  rintro e w2 ⟨rfl, hb2⟩
  obtain ⟨hc2, hf2, hz2⟩ := after hb2
  try simp at hz2
  have z2_0 : w.heap.size < w2.heap.size := by omega
  have z2_1 : w.heap.size + 1 < w2.heap.size := by omega
  have z2_2 : w1.heap.size < w2.heap.size := by omega
  have k2_0 : w2.cell? ⟨w.heap.size + 1, 0, none⟩ = some (.int .i64 0) := by rw [hc2 _ _ (by (try simp); omega)]; first | exact k1_0 | exact cellOld (by omega) k1_0
  have k2_1 : w2.cell? ⟨w.heap.size + 1, 1, none⟩ = some (.int .i64 0) := by rw [hc2 _ _ (by (try simp); omega)]; first | exact k1_1 | exact cellOld (by omega) k1_1
  have k2_2 : w2.cell? ⟨w.heap.size + 1, 2, none⟩ = some (.int .i64 0) := by rw [hc2 _ _ (by (try simp); omega)]; first | exact k1_2 | exact cellOld (by omega) k1_2
  have m2 : ∀ o, w2.frozen? ⟨w.heap.size + 1, o, none⟩ = false := by intro o; rw [hf2 _ _ (by (try simp) <;> omega)]; first | exact m1 o | (rw [frozen?_alloc_cells]; exact m1 o)
  go_wp2_with fail
  refine (laidCells _ _ _ _ _ h1 h2 h3 h4).mono ?_
  rintro e w3 ⟨rfl, hb3⟩
  obtain ⟨hc3, hf3, hz3⟩ := after hb3
  try simp at hz3
  have z3_0 : w.heap.size < w3.heap.size := by omega
  have z3_1 : w.heap.size + 1 < w3.heap.size := by omega
  have z3_2 : w1.heap.size < w3.heap.size := by omega
  have k3_0 : w3.cell? ⟨w.heap.size + 1, 0, none⟩ = some (.int .i64 0) := by rw [hc3 _ _ (by (try simp); omega)]; first | exact k2_0 | exact cellOld (by omega) k2_0
  have k3_1 : w3.cell? ⟨w.heap.size + 1, 1, none⟩ = some (.int .i64 0) := by rw [hc3 _ _ (by (try simp); omega)]; first | exact k2_1 | exact cellOld (by omega) k2_1
  have k3_2 : w3.cell? ⟨w.heap.size + 1, 2, none⟩ = some (.int .i64 0) := by rw [hc3 _ _ (by (try simp); omega)]; first | exact k2_2 | exact cellOld (by omega) k2_2
  have m3 : ∀ o, w3.frozen? ⟨w.heap.size + 1, o, none⟩ = false := by intro o; rw [hf3 _ _ (by (try simp) <;> omega)]; first | exact m2 o | (rw [frozen?_alloc_cells]; exact m2 o)
  go_wp2_with fail
  exact bodyPost_ret (v := .agg #[.int .i64 3, .int .i64 (x - 16), .int .i64 (0)]) (by simp [results, Try.results26, go_sem, k3_0, k3_1, k3_2, z3_0, z3_1]) rfl ⟨by rw [H.out], bel⟩

set_option maxHeartbeats 800000 in
theorem placeAtGap1 (t p s x : Int) (w : World) (hr : rightC t p s = true) (hx0 : 8 < x) (hx : x < 16) :
    Calls Try.prog 26 #[.agg #[.int .i64 t, .int .i64 p, .int .i64 s], .int .i64 x] w fun e w' => e = .returned (atV t p s x) ∧ Below w.heap.size w w' := by
  obtain ⟨⟨h1, h2⟩, ⟨h3, h4⟩, h5, h6⟩ := rightC_of hr
  have mb := makers_bd ⟨⟨h1, h2⟩, h3, h4⟩
  have cb : 58 ≤ cellsN t p ∧ cellsN t p ≤ 6238 := by unfold cellsN; omega
  have H := hid (show atV t p s x = .agg #[.int .i64 0, .int .i64 (0), .int .i64 (0)] by rw [atV, if_pos ⟨hr, by omega, by omega⟩, if_neg (by omega), if_neg (by omega), if_neg (by omega), if_neg (by omega)])
  have L := hid (show layV t p s = .tuple #[.agg #[.int .i64 t, .int .i64 p, .int .i64 s, .int .i64 (makersN t p)], .bool true] by rw [layV, hr]; rfl)
  clear hr
  go_enter Try.func26, Try.ntmps26
  go_wp2_with fail
  refine (placeLay _ _ _ _).mono ?_
  rw [L.out]
  rintro e w1 ⟨rfl, hb1⟩
  obtain ⟨hc1, hf1, hz1⟩ := after hb1
  try simp at hz1
  have z1_0 : w.heap.size < w1.heap.size := by omega
  have z1_1 : w.heap.size + 1 < w1.heap.size := by omega
  have k1_0 : w1.cell? ⟨w.heap.size + 1, 0, none⟩ = some (.int .i64 0) := by rw [hc1 _ _ (by simp)]; exact cellNew (by simp) rfl
  have k1_1 : w1.cell? ⟨w.heap.size + 1, 1, none⟩ = some (.int .i64 0) := by rw [hc1 _ _ (by simp)]; exact cellNew (by simp) rfl
  have k1_2 : w1.cell? ⟨w.heap.size + 1, 2, none⟩ = some (.int .i64 0) := by rw [hc1 _ _ (by simp)]; exact cellNew (by simp) rfl
  have m1 : ∀ o, w1.frozen? ⟨w.heap.size + 1, o, none⟩ = false := by intro o; rw [hf1 _ _ (by (try simp) <;> omega)]; simp
  go_wp2_with fail
  refine (laidWords _ _ _ _ _ h1 h2 (by omega) (by omega)).mono ?_
  rintro e w2 ⟨rfl, hb2⟩
  obtain ⟨hc2, hf2, hz2⟩ := after hb2
  try simp at hz2
  have z2_0 : w.heap.size < w2.heap.size := by omega
  have z2_1 : w.heap.size + 1 < w2.heap.size := by omega
  have z2_2 : w1.heap.size < w2.heap.size := by omega
  have k2_0 : w2.cell? ⟨w.heap.size + 1, 0, none⟩ = some (.int .i64 0) := by rw [hc2 _ _ (by (try simp); omega)]; first | exact k1_0 | exact cellOld (by omega) k1_0
  have k2_1 : w2.cell? ⟨w.heap.size + 1, 1, none⟩ = some (.int .i64 0) := by rw [hc2 _ _ (by (try simp); omega)]; first | exact k1_1 | exact cellOld (by omega) k1_1
  have k2_2 : w2.cell? ⟨w.heap.size + 1, 2, none⟩ = some (.int .i64 0) := by rw [hc2 _ _ (by (try simp); omega)]; first | exact k1_2 | exact cellOld (by omega) k1_2
  have m2 : ∀ o, w2.frozen? ⟨w.heap.size + 1, o, none⟩ = false := by intro o; rw [hf2 _ _ (by (try simp) <;> omega)]; first | exact m1 o | (rw [frozen?_alloc_cells]; exact m1 o)
  go_wp2_with fail
  exact bodyPost_ret (v := .agg #[.int .i64 0, .int .i64 (0), .int .i64 (0)]) (by simp [results, Try.results26, go_sem, k2_0, k2_1, k2_2, z2_0, z2_1]) rfl ⟨by rw [H.out], bel⟩

set_option maxHeartbeats 800000 in
theorem placeAtGap2 (t p s x : Int) (w : World) (hr : rightC t p s = true) (hx0 : 16 + cellsN t p ≤ x) (hx : x < makersN t p) :
    Calls Try.prog 26 #[.agg #[.int .i64 t, .int .i64 p, .int .i64 s], .int .i64 x] w fun e w' => e = .returned (atV t p s x) ∧ Below w.heap.size w w' := by
  obtain ⟨⟨h1, h2⟩, ⟨h3, h4⟩, h5, h6⟩ := rightC_of hr
  have mb := makers_bd ⟨⟨h1, h2⟩, h3, h4⟩
  have cb : 58 ≤ cellsN t p ∧ cellsN t p ≤ 6238 := by unfold cellsN; omega
  have H := hid (show atV t p s x = .agg #[.int .i64 0, .int .i64 (0), .int .i64 (0)] by rw [atV, if_pos ⟨hr, by omega, by omega⟩, if_neg (by omega), if_neg (by omega), if_neg (by omega), if_neg (by omega)])
  have L := hid (show layV t p s = .tuple #[.agg #[.int .i64 t, .int .i64 p, .int .i64 s, .int .i64 (makersN t p)], .bool true] by rw [layV, hr]; rfl)
  clear hr
  go_enter Try.func26, Try.ntmps26
  go_wp2_with fail
  refine (placeLay _ _ _ _).mono ?_
  rw [L.out]
  rintro e w1 ⟨rfl, hb1⟩
  obtain ⟨hc1, hf1, hz1⟩ := after hb1
  try simp at hz1
  have z1_0 : w.heap.size < w1.heap.size := by omega
  have z1_1 : w.heap.size + 1 < w1.heap.size := by omega
  have k1_0 : w1.cell? ⟨w.heap.size + 1, 0, none⟩ = some (.int .i64 0) := by rw [hc1 _ _ (by simp)]; exact cellNew (by simp) rfl
  have k1_1 : w1.cell? ⟨w.heap.size + 1, 1, none⟩ = some (.int .i64 0) := by rw [hc1 _ _ (by simp)]; exact cellNew (by simp) rfl
  have k1_2 : w1.cell? ⟨w.heap.size + 1, 2, none⟩ = some (.int .i64 0) := by rw [hc1 _ _ (by simp)]; exact cellNew (by simp) rfl
  have m1 : ∀ o, w1.frozen? ⟨w.heap.size + 1, o, none⟩ = false := by intro o; rw [hf1 _ _ (by (try simp) <;> omega)]; simp
  go_wp2_with fail
  refine (laidWords _ _ _ _ _ h1 h2 (by omega) (by omega)).mono ?_
  rintro e w2 ⟨rfl, hb2⟩
  obtain ⟨hc2, hf2, hz2⟩ := after hb2
  try simp at hz2
  have z2_0 : w.heap.size < w2.heap.size := by omega
  have z2_1 : w.heap.size + 1 < w2.heap.size := by omega
  have z2_2 : w1.heap.size < w2.heap.size := by omega
  have k2_0 : w2.cell? ⟨w.heap.size + 1, 0, none⟩ = some (.int .i64 0) := by rw [hc2 _ _ (by (try simp); omega)]; first | exact k1_0 | exact cellOld (by omega) k1_0
  have k2_1 : w2.cell? ⟨w.heap.size + 1, 1, none⟩ = some (.int .i64 0) := by rw [hc2 _ _ (by (try simp); omega)]; first | exact k1_1 | exact cellOld (by omega) k1_1
  have k2_2 : w2.cell? ⟨w.heap.size + 1, 2, none⟩ = some (.int .i64 0) := by rw [hc2 _ _ (by (try simp); omega)]; first | exact k1_2 | exact cellOld (by omega) k1_2
  have m2 : ∀ o, w2.frozen? ⟨w.heap.size + 1, o, none⟩ = false := by intro o; rw [hf2 _ _ (by (try simp) <;> omega)]; first | exact m1 o | (rw [frozen?_alloc_cells]; exact m1 o)
  go_wp2_with fail
  refine (laidCells _ _ _ _ _ h1 h2 h3 h4).mono ?_
  rintro e w3 ⟨rfl, hb3⟩
  obtain ⟨hc3, hf3, hz3⟩ := after hb3
  try simp at hz3
  have z3_0 : w.heap.size < w3.heap.size := by omega
  have z3_1 : w.heap.size + 1 < w3.heap.size := by omega
  have z3_2 : w1.heap.size < w3.heap.size := by omega
  have k3_0 : w3.cell? ⟨w.heap.size + 1, 0, none⟩ = some (.int .i64 0) := by rw [hc3 _ _ (by (try simp); omega)]; first | exact k2_0 | exact cellOld (by omega) k2_0
  have k3_1 : w3.cell? ⟨w.heap.size + 1, 1, none⟩ = some (.int .i64 0) := by rw [hc3 _ _ (by (try simp); omega)]; first | exact k2_1 | exact cellOld (by omega) k2_1
  have k3_2 : w3.cell? ⟨w.heap.size + 1, 2, none⟩ = some (.int .i64 0) := by rw [hc3 _ _ (by (try simp); omega)]; first | exact k2_2 | exact cellOld (by omega) k2_2
  have m3 : ∀ o, w3.frozen? ⟨w.heap.size + 1, o, none⟩ = false := by intro o; rw [hf3 _ _ (by (try simp) <;> omega)]; first | exact m2 o | (rw [frozen?_alloc_cells]; exact m2 o)
  go_wp2_with fail
  exact bodyPost_ret (v := .agg #[.int .i64 0, .int .i64 (0), .int .i64 (0)]) (by simp [results, Try.results26, go_sem, k3_0, k3_1, k3_2, z3_0, z3_1]) rfl ⟨by rw [H.out], bel⟩

set_option maxHeartbeats 800000 in
theorem placeAtMade (t p s x : Int) (w : World) (hr : rightC t p s = true) (k a b : Int) (hm : madeV ((x - makersN t p) / 120) ((x - makersN t p) % 120) = .agg #[.int .i64 k, .int .i64 a, .int .i64 b]) (hx0 : makersN t p ≤ x) (hx : x < makersN t p + 120 * (t + 1)) :
    Calls Try.prog 26 #[.agg #[.int .i64 t, .int .i64 p, .int .i64 s], .int .i64 x] w fun e w' => e = .returned (atV t p s x) ∧ Below w.heap.size w w' := by
  obtain ⟨⟨h1, h2⟩, ⟨h3, h4⟩, h5, h6⟩ := rightC_of hr
  have mb := makers_bd ⟨⟨h1, h2⟩, h3, h4⟩
  have cb : 58 ≤ cellsN t p ∧ cellsN t p ≤ 6238 := by unfold cellsN; omega
  have H := hid (show atV t p s x = .agg #[.int .i64 k, .int .i64 (a), .int .i64 (b)] by rw [atV, if_pos ⟨hr, by omega, by omega⟩, if_neg (by omega), if_neg (by omega), if_pos (by omega), hm])
  have L := hid (show layV t p s = .tuple #[.agg #[.int .i64 t, .int .i64 p, .int .i64 s, .int .i64 (makersN t p)], .bool true] by rw [layV, hr]; rfl)
  clear hr
  have M := hid hm; clear hm
  go_enter Try.func26, Try.ntmps26
  go_wp2_with fail
  refine (placeLay _ _ _ _).mono ?_
  rw [L.out]
  rintro e w1 ⟨rfl, hb1⟩
  obtain ⟨hc1, hf1, hz1⟩ := after hb1
  try simp at hz1
  have z1_0 : w.heap.size < w1.heap.size := by omega
  have z1_1 : w.heap.size + 1 < w1.heap.size := by omega
  have k1_0 : w1.cell? ⟨w.heap.size + 1, 0, none⟩ = some (.int .i64 0) := by rw [hc1 _ _ (by simp)]; exact cellNew (by simp) rfl
  have k1_1 : w1.cell? ⟨w.heap.size + 1, 1, none⟩ = some (.int .i64 0) := by rw [hc1 _ _ (by simp)]; exact cellNew (by simp) rfl
  have k1_2 : w1.cell? ⟨w.heap.size + 1, 2, none⟩ = some (.int .i64 0) := by rw [hc1 _ _ (by simp)]; exact cellNew (by simp) rfl
  have m1 : ∀ o, w1.frozen? ⟨w.heap.size + 1, o, none⟩ = false := by intro o; rw [hf1 _ _ (by (try simp) <;> omega)]; simp
  go_wp2_with fail
  refine (laidWords _ _ _ _ _ h1 h2 (by omega) (by omega)).mono ?_
  rintro e w2 ⟨rfl, hb2⟩
  obtain ⟨hc2, hf2, hz2⟩ := after hb2
  try simp at hz2
  have z2_0 : w.heap.size < w2.heap.size := by omega
  have z2_1 : w.heap.size + 1 < w2.heap.size := by omega
  have z2_2 : w1.heap.size < w2.heap.size := by omega
  have k2_0 : w2.cell? ⟨w.heap.size + 1, 0, none⟩ = some (.int .i64 0) := by rw [hc2 _ _ (by (try simp); omega)]; first | exact k1_0 | exact cellOld (by omega) k1_0
  have k2_1 : w2.cell? ⟨w.heap.size + 1, 1, none⟩ = some (.int .i64 0) := by rw [hc2 _ _ (by (try simp); omega)]; first | exact k1_1 | exact cellOld (by omega) k1_1
  have k2_2 : w2.cell? ⟨w.heap.size + 1, 2, none⟩ = some (.int .i64 0) := by rw [hc2 _ _ (by (try simp); omega)]; first | exact k1_2 | exact cellOld (by omega) k1_2
  have m2 : ∀ o, w2.frozen? ⟨w.heap.size + 1, o, none⟩ = false := by intro o; rw [hf2 _ _ (by (try simp) <;> omega)]; first | exact m1 o | (rw [frozen?_alloc_cells]; exact m1 o)
  go_wp2_with fail
  refine (placeMade _ _ _ (by omega) (by omega)).mono ?_
  rw [M.out]
  rintro e w3 ⟨rfl, hb3⟩
  obtain ⟨hc3, hf3, hz3⟩ := after hb3
  try simp at hz3
  have z3_0 : w.heap.size < w3.heap.size := by omega
  have z3_1 : w.heap.size + 1 < w3.heap.size := by omega
  have z3_2 : w1.heap.size < w3.heap.size := by omega
  have k3_0 : w3.cell? ⟨w.heap.size + 1, 0, none⟩ = some (.int .i64 0) := by rw [hc3 _ _ (by (try simp); omega)]; first | exact k2_0 | exact cellOld (by omega) k2_0
  have k3_1 : w3.cell? ⟨w.heap.size + 1, 1, none⟩ = some (.int .i64 0) := by rw [hc3 _ _ (by (try simp); omega)]; first | exact k2_1 | exact cellOld (by omega) k2_1
  have k3_2 : w3.cell? ⟨w.heap.size + 1, 2, none⟩ = some (.int .i64 0) := by rw [hc3 _ _ (by (try simp); omega)]; first | exact k2_2 | exact cellOld (by omega) k2_2
  have m3 : ∀ o, w3.frozen? ⟨w.heap.size + 1, o, none⟩ = false := by intro o; rw [hf3 _ _ (by (try simp) <;> omega)]; first | exact m2 o | (rw [frozen?_alloc_cells]; exact m2 o)
  go_wp2_with fail
  exact bodyPost_ret (v := .agg #[.int .i64 k, .int .i64 (a), .int .i64 (b)]) (by simp [results, Try.results26, go_sem, k3_0, k3_1, k3_2, z3_0, z3_1]) rfl ⟨by rw [H.out], bel⟩

theorem placeAt (t p s x : Int) (w : World) :
    Calls Try.prog 26 #[.agg #[.int .i64 t, .int .i64 p, .int .i64 s], .int .i64 x] w fun e w' => e = .returned (atV t p s x) ∧ Below w.heap.size w w' := by
  have hr : ∃ c, rightC t p s = c := ⟨_, rfl⟩
  obtain ⟨c, hr⟩ := hr
  cases c
  · exact placeAtWrong t p s x w hr
  obtain ⟨⟨h1, h2⟩, ⟨h3, h4⟩, h5, h6⟩ := rightC_of hr
  have mb := makers_bd ⟨⟨h1, h2⟩, h3, h4⟩
  have cb : 58 ≤ cellsN t p ∧ cellsN t p ≤ 6238 := by unfold cellsN; omega
  rcases (show x < 0 ∨ makersN t p + 120 * (t + 1) ≤ x ∨ (0 ≤ x ∧ x < 8) ∨ x = 8 ∨ (8 < x ∧ x < 16) ∨ (16 ≤ x ∧ x < 16 + cellsN t p) ∨ (16 + cellsN t p ≤ x ∧ x < makersN t p) ∨ (makersN t p ≤ x ∧ x < makersN t p + 120 * (t + 1)) by omega) with h | h | ⟨h, h'⟩ | h | ⟨h, h'⟩ | ⟨h, h'⟩ | ⟨h, h'⟩ | ⟨h, h'⟩
  · exact placeAtOut1 t p s x w hr h
  · exact placeAtOut2 t p s x w hr (by omega) h
  · exact placeAtHead t p s x w hr h h'
  · exact placeAtTip t p s x w hr h
  · exact placeAtGap1 t p s x w hr h h'
  · exact placeAtCell t p s x w hr h h'
  · exact placeAtGap2 t p s x w hr h h'
  · obtain ⟨k, a, b, hm⟩ := madeForm ((x - makersN t p) / 120) ((x - makersN t p) % 120)
    exact placeAtMade t p s x w hr k a b hm h h'
end Go.Proofs.Ytpeeaapheohehaa
