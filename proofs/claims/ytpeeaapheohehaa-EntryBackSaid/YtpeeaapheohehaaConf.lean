/- The walks of package conf, and of the reference's configurations: which are right, their pages, their bytes. -/
import Derived.Test.YtpeeaapheohehaaHalf
import Derived.Test.YtpeeaapheohehaaMem
import Derived.LoopN
namespace Go.Proofs.Ytpeeaapheohehaa
open Go.RowKit
set_option linter.unusedVariables false

/-- Which configurations are right. -/
def rightC (t p s : Int) : Bool := decide ((1 ≤ t ∧ t ≤ 16) ∧ (4 ≤ p ∧ p ≤ 1024) ∧ (10 ≤ s ∧ s ≤ 20))
theorem rightC_yes {t p s : Int} (h : (1 ≤ t ∧ t ≤ 16) ∧ (4 ≤ p ∧ p ≤ 1024) ∧ (10 ≤ s ∧ s ≤ 20)) : rightC t p s = true := decide_eq_true h
theorem rightC_no {t p s : Int} (h : ¬ ((1 ≤ t ∧ t ≤ 16) ∧ (4 ≤ p ∧ p ≤ 1024) ∧ (10 ≤ s ∧ s ≤ 20))) : rightC t p s = false := decide_eq_false h
theorem rightC_of {t p s : Int} (h : rightC t p s = true) : (1 ≤ t ∧ t ≤ 16) ∧ (4 ≤ p ∧ p ≤ 1024) ∧ (10 ≤ s ∧ s ≤ 20) := of_decide_eq_true h

/-- The cells of the three bounds. -/
def boundCells (t p s : Int) : Array Value := #[.int .i64 t, .int .i64 1, .int .i64 16, .int .i64 p, .int .i64 4, .int .i64 1024, .int .i64 s, .int .i64 10, .int .i64 20]

theorem confBounds (t p s : Int) (w : World) :
    Calls Try.prog 102 #[.agg #[.int .i64 t, .int .i64 p, .int .i64 s]] w fun e w' => e = .returned (.slice (some ⟨w.heap.size + 1, 0, none⟩) 3 3) ∧
      w' = (w.alloc (.cells #[.int .i64 t, .int .i64 p, .int .i64 s] 23)).alloc (.cells (boundCells t p s) 97) := by
  go_enter Try.func102, Try.ntmps102
  go_wp2
  go_ret
  exact ⟨rfl, rfl⟩

theorem confBad (n lo hi : Int) (w : World) (b : Bool) (hb : (decide (n < lo) || decide (hi < n)) = b) :
    Calls Try.prog 112 #[.agg #[.int .i64 n, .int .i64 lo, .int .i64 hi]] w fun e w' => e = .returned (.bool b) ∧ Below w.heap.size w w' := by
  by_cases h : n < lo
  · have d : decide (n < lo) = true := by simpa using h
    obtain rfl : b = true := by rw [← hb, d]; rfl
    clear hb
    go_enter Try.func112, Try.ntmps112
    go_wp2
    go_ret
    exact ⟨rfl, bel⟩
  · have d : decide (n < lo) = false := by simpa using h
    rw [d, Bool.false_or] at hb
    go_enter Try.func112, Try.ntmps112
    go_wp2
    go_ret
    exact ⟨rfl, bel⟩

/-- Which of the three bounds is the first one that does not hold; -1: none. -/
def firstBad (t p s : Int) : Int :=
  if (decide (t < 1) || decide (16 < t)) = true then 0 else if (decide (p < 4) || decide (1024 < p)) = true then 1 else if (decide (s < 10) || decide (20 < s)) = true then 2 else -1

set_option maxHeartbeats 3200000 in
theorem confIndex (t p s : Int) (g : Nat) (w : World) (hg : g < w.heap.size)
    (c0 : w.cell? ⟨g, 0, none⟩ = some (.int .i64 t)) (c1 : w.cell? ⟨g, 1, none⟩ = some (.int .i64 1)) (c2 : w.cell? ⟨g, 2, none⟩ = some (.int .i64 16))
    (c3 : w.cell? ⟨g, 3, none⟩ = some (.int .i64 p)) (c4 : w.cell? ⟨g, 4, none⟩ = some (.int .i64 4)) (c5 : w.cell? ⟨g, 5, none⟩ = some (.int .i64 1024))
    (c6 : w.cell? ⟨g, 6, none⟩ = some (.int .i64 s)) (c7 : w.cell? ⟨g, 7, none⟩ = some (.int .i64 10)) (c8 : w.cell? ⟨g, 8, none⟩ = some (.int .i64 20)) :
    Calls Try.prog 120 #[.slice (some ⟨g, 0, none⟩) 3 3, .func (.func 112) #[] #[]] w fun e w' => e = .returned (.int .i64 (firstBad t p s)) ∧ Below w.heap.size w w' := by
  by_cases k0 : (decide (t < 1) || decide (16 < t)) = true
  · have H := hid (show firstBad t p s = 0 by rw [firstBad, if_pos k0])
    go_enter Try.func120, Try.ntmps120
    go_wp2_with fail
    refine wp_loop_rounds 4 ?_
    rw [rounds_succ]
    go_wp2_with fail
    refine (confBad t 1 16 _ true (by assumption)).mono ?_
    rintro e w0 ⟨rfl, hb0⟩
    obtain ⟨hc0, hf0, hz0⟩ := after hb0
    have hg0 : g < w0.heap.size := by omega
    go_wp2_with fail
    go_ret
    exact ⟨ret_int (by rw [H.out]), bel⟩
  have k0 : (decide (t < 1) || decide (16 < t)) = false := by simpa using k0
  by_cases k1 : (decide (p < 4) || decide (1024 < p)) = true
  · have H := hid (show firstBad t p s = 1 by rw [firstBad, k0, if_neg (by decide), if_pos k1])
    go_enter Try.func120, Try.ntmps120
    go_wp2_with fail
    refine wp_loop_rounds 4 ?_
    rw [rounds_succ]
    go_wp2_with fail
    refine (confBad t 1 16 _ false (by assumption)).mono ?_
    rintro e w0 ⟨rfl, hb0⟩
    obtain ⟨hc0, hf0, hz0⟩ := after hb0
    have hg0 : g < w0.heap.size := by omega
    go_wp2_with fail
    rw [rounds_succ]
    go_wp2_with fail
    refine (confBad p 4 1024 _ true (by assumption)).mono ?_
    rintro e w1 ⟨rfl, hb1⟩
    obtain ⟨hc1, hf1, hz1⟩ := after hb1
    have hg1 : g < w1.heap.size := by omega
    go_wp2_with fail
    go_ret
    exact ⟨ret_int (by rw [H.out]), bel⟩
  have k1 : (decide (p < 4) || decide (1024 < p)) = false := by simpa using k1
  by_cases k2 : (decide (s < 10) || decide (20 < s)) = true
  · have H := hid (show firstBad t p s = 2 by rw [firstBad, k0, k1, if_neg (by decide), if_neg (by decide), if_pos k2])
    go_enter Try.func120, Try.ntmps120
    go_wp2_with fail
    refine wp_loop_rounds 4 ?_
    rw [rounds_succ]
    go_wp2_with fail
    refine (confBad t 1 16 _ false (by assumption)).mono ?_
    rintro e w0 ⟨rfl, hb0⟩
    obtain ⟨hc0, hf0, hz0⟩ := after hb0
    have hg0 : g < w0.heap.size := by omega
    go_wp2_with fail
    rw [rounds_succ]
    go_wp2_with fail
    refine (confBad p 4 1024 _ false (by assumption)).mono ?_
    rintro e w1 ⟨rfl, hb1⟩
    obtain ⟨hc1, hf1, hz1⟩ := after hb1
    have hg1 : g < w1.heap.size := by omega
    go_wp2_with fail
    rw [rounds_succ]
    go_wp2_with fail
    refine (confBad s 10 20 _ true (by assumption)).mono ?_
    rintro e w2 ⟨rfl, hb2⟩
    obtain ⟨hc2, hf2, hz2⟩ := after hb2
    have hg2 : g < w2.heap.size := by omega
    go_wp2_with fail
    go_ret
    exact ⟨ret_int (by rw [H.out]), bel⟩
  have k2 : (decide (s < 10) || decide (20 < s)) = false := by simpa using k2
  · have H := hid (show firstBad t p s = -1 by rw [firstBad, k0, k1, k2]; rfl)
    go_enter Try.func120, Try.ntmps120
    go_wp2_with fail
    refine wp_loop_rounds 4 ?_
    rw [rounds_succ]
    go_wp2_with fail
    refine (confBad t 1 16 _ false (by assumption)).mono ?_
    rintro e w0 ⟨rfl, hb0⟩
    obtain ⟨hc0, hf0, hz0⟩ := after hb0
    have hg0 : g < w0.heap.size := by omega
    go_wp2_with fail
    rw [rounds_succ]
    go_wp2_with fail
    refine (confBad p 4 1024 _ false (by assumption)).mono ?_
    rintro e w1 ⟨rfl, hb1⟩
    obtain ⟨hc1, hf1, hz1⟩ := after hb1
    have hg1 : g < w1.heap.size := by omega
    go_wp2_with fail
    rw [rounds_succ]
    go_wp2_with fail
    refine (confBad s 10 20 _ false (by assumption)).mono ?_
    rintro e w2 ⟨rfl, hb2⟩
    obtain ⟨hc2, hf2, hz2⟩ := after hb2
    have hg2 : g < w2.heap.size := by omega
    go_wp2_with fail
    rw [rounds_succ]
    go_wp2_with fail
    go_ret
    exact ⟨ret_int (by rw [H.out]), bel⟩

end Go.Proofs.Ytpeeaapheohehaa
