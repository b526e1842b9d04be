/- The walks of package place, and of the reference's places: cells, words. -/
import Derived.Test.YtpeeaapheohehaaConf2
namespace Go.Proofs.Ytpeeaapheohehaa
open Go.RowKit
set_option linter.unusedVariables false
set_option linter.unusedSimpArgs false

/-- How many cells a heap has, if its configuration is right. -/
def cellsN (t p : Int) : Int := 30 + 4 * t + 6 * p
/-- Where the makers' words begin. -/
def makersN (t p : Int) : Int := (53 + 4 * t + 6 * p) / 8 * 8
def cellsC (t p s : Int) : Int := if rightC t p s then cellsN t p else 0
def wordsC (t p s : Int) : Int := if rightC t p s then makersN t p + 120 * (t + 1) else 0
def withinV (f i m : Int) : Int := if 0 ≤ i ∧ i < m then f + i else -1
def doneV (t p s i f : Int) : Int := if rightC t p s = true ∧ (0 ≤ i ∧ i < t) ∧ (0 ≤ f ∧ f < 4) then 30 + 4 * i + f else -1
def pageV (t p s i k : Int) : Int := if rightC t p s = true ∧ (0 ≤ i ∧ i < p) then 30 + 4 * t + 6 * i + k else -1
def cellW (t p s i : Int) : Int := if rightC t p s = true ∧ (0 ≤ i ∧ i < cellsN t p) then 16 + i else -1
def makerV (t p s i : Int) : Int := if rightC t p s = true ∧ (0 ≤ i ∧ i ≤ t) then makersN t p + 120 * i else -1
def callW (t p s i b : Int) : Int := if rightC t p s = true ∧ (0 ≤ i ∧ i ≤ t) ∧ (0 ≤ b ∧ b ≤ 1) then makersN t p + 120 * i + 8 * b else -1
def noteW (t p s i : Int) : Int := if rightC t p s = true ∧ (0 ≤ i ∧ i ≤ t) then makersN t p + 120 * i + 16 else -1
def logW (t p s i j : Int) : Int := if rightC t p s = true ∧ (0 ≤ i ∧ i ≤ t) ∧ (0 ≤ j ∧ j < 96) then makersN t p + 120 * i + 24 + j else -1

def layV (t p s : Int) : Value := if rightC t p s = true then .tuple #[.agg #[.int .i64 t, .int .i64 p, .int .i64 s, .int .i64 (makersN t p)], .bool true] else .tuple #[.agg #[.int .i64 0, .int .i64 0, .int .i64 0, .int .i64 0], .bool false]

theorem makers_bd {t p : Int} (h : (1 ≤ t ∧ t ≤ 16) ∧ (4 ≤ p ∧ p ≤ 1024)) : 80 ≤ makersN t p ∧ makersN t p ≤ 6264 ∧ makersN t p % 8 = 0 ∧ 16 + cellsN t p ≤ makersN t p ∧ makersN t p < 24 + cellsN t p := by
  unfold makersN cellsN; omega

theorem placeWithin (f i m : Int) (w : World) (f0 : 0 ≤ f) (f1 : f ≤ 100000) (m1 : m ≤ 100000) :
    Calls Try.prog 89 #[.int .i64 f, .int .i64 i, .int .i64 m] w fun e w' => e = .returned (.int .i64 (withinV f i m)) ∧ w = w' := by
  by_cases h1 : 0 ≤ i
  · by_cases h2 : i < m
    · have H := hid (show withinV f i m = f + i by rw [withinV, if_pos ⟨h1, h2⟩])
      go_enter Try.func89, Try.ntmps89
      go_wp2
      go_ret
      exact ⟨ret_int (by rw [H.out]), rfl⟩
    · have H := hid (show withinV f i m = -1 by rw [withinV, if_neg (fun h => h2 h.2)])
      go_enter Try.func89, Try.ntmps89
      go_wp2
      go_ret
      exact ⟨ret_int (by rw [H.out]), rfl⟩
  · have H := hid (show withinV f i m = -1 by rw [withinV, if_neg (fun h => h1 h.1)])
    go_enter Try.func89, Try.ntmps89
    go_wp2
    go_ret
    exact ⟨ret_int (by rw [H.out]), rfl⟩

theorem laidCells (t p s m : Int) (w : World) (t1 : 1 ≤ t) (t2 : t ≤ 16) (p1 : 4 ≤ p) (p2 : p ≤ 1024) :
    Calls Try.prog 86 #[.agg #[.int .i64 t, .int .i64 p, .int .i64 s, .int .i64 m]] w fun e w' => e = .returned (.int .i64 (cellsN t p)) ∧ Below w.heap.size w w' := by
  have H := hid (show cellsN t p = 30 + 4 * t + 6 * p from rfl)
  go_enter Try.func86, Try.ntmps86
  go_wp2
  go_ret
  exact ⟨ret_int (by rw [H.out]), bel⟩

set_option maxHeartbeats 800000 in
theorem placeLay (t p s : Int) (w : World) :
    Calls Try.prog 83 #[.agg #[.int .i64 t, .int .i64 p, .int .i64 s]] w fun e w' =>
      e = .returned (layV t p s) ∧ Below w.heap.size w w' := by
  have hr : ∃ c, rightC t p s = c := ⟨_, rfl⟩
  obtain ⟨c, hr⟩ := hr
  cases c
  · have R := hid (show checkC t p s = 1 by rw [checkC, hr]; rfl)
    have H := hid (show layV t p s = .tuple #[.agg #[.int .i64 0, .int .i64 0, .int .i64 0, .int .i64 0], .bool false] by rw [layV, hr]; rfl)
    clear hr
    go_enter Try.func83, Try.ntmps83
    go_wp2_with fail
    refine (confCheck _ _ _ _).mono ?_
    rw [R.out]
    rintro e w2 ⟨rfl, hb2⟩
    obtain ⟨hc2, hf2, hz2⟩ := after hb2
    have k0 : w2.cell? ⟨w.heap.size + 1, 0, none⟩ = some (.int .i64 0) := by rw [hc2 _ _ (by simp)]; exact cellNew (by simp) rfl
    have k1 : w2.cell? ⟨w.heap.size + 1, 1, none⟩ = some (.int .i64 0) := by rw [hc2 _ _ (by simp)]; exact cellNew (by simp) rfl
    have k2 : w2.cell? ⟨w.heap.size + 1, 2, none⟩ = some (.int .i64 0) := by rw [hc2 _ _ (by simp)]; exact cellNew (by simp) rfl
    have k3 : w2.cell? ⟨w.heap.size + 1, 3, none⟩ = some (.int .i64 0) := by rw [hc2 _ _ (by simp)]; exact cellNew (by simp) rfl
    clear hc2
    go_wp2_with fail
    exact bodyPost_ret (v := .tuple #[.agg #[.int .i64 0, .int .i64 0, .int .i64 0, .int .i64 0], .bool false]) (by simp [results, Try.results83, go_sem, k0, k1, k2, k3]) rfl ⟨by rw [H.out], bel⟩
  · have R := hid (show checkC t p s = 0 by rw [checkC, hr]; rfl)
    have H := hid (show layV t p s = .tuple #[.agg #[.int .i64 t, .int .i64 p, .int .i64 s, .int .i64 (makersN t p)], .bool true] by rw [layV, hr]; rfl)
    obtain ⟨⟨h1, h2⟩, ⟨h3, h4⟩, h5, h6⟩ := rightC_of hr
    have M := hid (show makersN t p = (16 + cellsN t p + 8 - 1) / 8 * 8 by unfold makersN cellsN; omega)
    have hcb : 58 ≤ cellsN t p ∧ cellsN t p ≤ 6238 := by unfold cellsN; omega
    generalize makersN t p = m at *
    clear hr
    go_enter Try.func83, Try.ntmps83
    go_wp2_with fail
    refine (confCheck _ _ _ _).mono ?_
    rw [R.out]
    rintro e w2 ⟨rfl, hb2⟩
    obtain ⟨hc2, hf2, hz2⟩ := after hb2
    have k0 : w2.cell? ⟨w.heap.size + 1, 0, none⟩ = some (.int .i64 0) := by rw [hc2 _ _ (by simp)]; exact cellNew (by simp) rfl
    have k1 : w2.cell? ⟨w.heap.size + 1, 1, none⟩ = some (.int .i64 0) := by rw [hc2 _ _ (by simp)]; exact cellNew (by simp) rfl
    have k2 : w2.cell? ⟨w.heap.size + 1, 2, none⟩ = some (.int .i64 0) := by rw [hc2 _ _ (by simp)]; exact cellNew (by simp) rfl
    have k3 : w2.cell? ⟨w.heap.size + 1, 3, none⟩ = some (.int .i64 0) := by rw [hc2 _ _ (by simp)]; exact cellNew (by simp) rfl
    have kt : w2.cell? ⟨w.heap.size, 0, none⟩ = some (.int .i64 t) := by rw [hc2 _ _ (by simp; omega)]; exact cellOld (by simp) (cellNew rfl rfl)
    have kp : w2.cell? ⟨w.heap.size, 1, none⟩ = some (.int .i64 p) := by rw [hc2 _ _ (by simp; omega)]; exact cellOld (by simp) (cellNew rfl rfl)
    have ks : w2.cell? ⟨w.heap.size, 2, none⟩ = some (.int .i64 s) := by rw [hc2 _ _ (by simp; omega)]; exact cellOld (by simp) (cellNew rfl rfl)
    have z2 : w.heap.size + 1 < w2.heap.size := by simp at hz2; omega
    clear hc2
    go_wp2_with fail
    refine (laidCells _ _ _ _ _ h1 h2 h3 h4).mono ?_
    rintro e w3 ⟨rfl, hb3⟩
    obtain ⟨hc3, hf3, hz3⟩ := after hb3
    have z3 : w2.heap.size < w3.heap.size := by simp at hz3; omega
    have r0 : w3.cell? ⟨w.heap.size + 1, 0, none⟩ = some (.int .i64 0) := by rw [hc3 _ _ (by simp; omega)]; exact cellOld (by omega) k0
    have r1 : w3.cell? ⟨w.heap.size + 1, 1, none⟩ = some (.int .i64 0) := by rw [hc3 _ _ (by simp; omega)]; exact cellOld (by omega) k1
    have r2 : w3.cell? ⟨w.heap.size + 1, 2, none⟩ = some (.int .i64 0) := by rw [hc3 _ _ (by simp; omega)]; exact cellOld (by omega) k2
    have r3 : w3.cell? ⟨w.heap.size + 1, 3, none⟩ = some (.int .i64 0) := by rw [hc3 _ _ (by simp; omega)]; exact cellOld (by omega) k3
    have q0 : w3.cell? ⟨w2.heap.size, 0, none⟩ = some (.int .i64 t) := by rw [hc3 _ _ (by simp)]; exact cellNew rfl rfl
    have q1 : w3.cell? ⟨w2.heap.size, 1, none⟩ = some (.int .i64 p) := by rw [hc3 _ _ (by simp)]; exact cellNew rfl rfl
    have q2 : w3.cell? ⟨w2.heap.size, 2, none⟩ = some (.int .i64 s) := by rw [hc3 _ _ (by simp)]; exact cellNew rfl rfl
    have q3 : w3.cell? ⟨w2.heap.size, 3, none⟩ = some (.int .i64 0) := by rw [hc3 _ _ (by simp)]; exact cellNew rfl rfl
    have fr : ∀ i, w3.frozen? ⟨w.heap.size + 1, i, none⟩ = false := by intro i; rw [hf3 _ _ (by simp; omega), frozen?_alloc_cells, hf2 _ _ (by simp)]; simp
    have fq : ∀ i, w3.frozen? ⟨w2.heap.size, i, none⟩ = false := by intro i; rw [hf3 _ _ (by simp)]; simp
    clear hc3 hf2 hf3
    go_wp2_with fail
    exact bodyPost_ret (v := .tuple #[.agg #[.int .i64 t, .int .i64 p, .int .i64 s, .int .i64 ((16 + cellsN t p + 8 - 1) / 8 * 8)], .bool true]) (by simp [results, Try.results83, go_sem, r0, r1, r2, r3]) rfl ⟨by rw [H.out, M.out], bel⟩


set_option maxHeartbeats 800000 in
theorem placeCells (t p s : Int) (w : World) :
    Calls Try.prog 45 #[.agg #[.int .i64 t, .int .i64 p, .int .i64 s]] w fun e w' => e = .returned (.int .i64 (cellsC t p s)) ∧ Below w.heap.size w w' := by
  have hr : ∃ c, rightC t p s = c := ⟨_, rfl⟩
  obtain ⟨c, hr⟩ := hr
  cases c
  · have H := hid (show cellsC t p s = 0 by simp [cellsC, hr])
    have L := hid (show layV t p s = .tuple #[.agg #[.int .i64 0, .int .i64 0, .int .i64 0, .int .i64 0], .bool false] by rw [layV, hr]; rfl)
    clear hr
    go_enter Try.func45, Try.ntmps45
    go_wp2_with (first
      | (go_at_call 83; refine (placeLay _ _ _ _).mono ?_; rw [L.out]; rintro e w1 ⟨rfl, hb1⟩; obtain ⟨hc1, hf1, hz1⟩ := after hb1; simp at hz1)
      | (go_at_call 86; refine (laidCells _ _ _ _ _ h1 h2 h3 h4).mono ?_; rintro e w2 ⟨rfl, hb2⟩; obtain ⟨hc2, hf2, hz2⟩ := after hb2; simp at hz2))
    go_ret
    exact ⟨ret_int (by rw [H.out]), bel⟩
  · have L := hid (show layV t p s = .tuple #[.agg #[.int .i64 t, .int .i64 p, .int .i64 s, .int .i64 (makersN t p)], .bool true] by rw [layV, hr]; rfl)
    obtain ⟨⟨h1, h2⟩, ⟨h3, h4⟩, h5, h6⟩ := rightC_of hr
    have mb := makers_bd ⟨⟨h1, h2⟩, h3, h4⟩
    have cb : 58 ≤ cellsN t p ∧ cellsN t p ≤ 6238 := by unfold cellsN; omega
    have H := hid (show cellsC t p s = cellsN t p by rw [cellsC, hr]; rfl)
    clear hr
    go_enter Try.func45, Try.ntmps45
    go_wp2_with (first
      | (go_at_call 83; refine (placeLay _ _ _ _).mono ?_; rw [L.out]; rintro e w1 ⟨rfl, hb1⟩; obtain ⟨hc1, hf1, hz1⟩ := after hb1; simp at hz1)
      | (go_at_call 86; refine (laidCells _ _ _ _ _ h1 h2 h3 h4).mono ?_; rintro e w2 ⟨rfl, hb2⟩; obtain ⟨hc2, hf2, hz2⟩ := after hb2; simp at hz2))
    go_ret
    exact ⟨ret_int (by rw [H.out]), bel⟩
end Go.Proofs.Ytpeeaapheohehaa
