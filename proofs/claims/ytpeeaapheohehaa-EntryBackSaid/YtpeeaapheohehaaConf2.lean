/- The walks of package conf, and of the reference's configurations, behind the bounds: checks, pages, bytes. -/
import Derived.Test.YtpeeaapheohehaaConf
import Derived.Test.YtpeeaapheohehaaCells
namespace Go.Proofs.Ytpeeaapheohehaa
open Go.RowKit
set_option linter.unusedVariables false

theorem firstBad_right {t p s : Int} (h : (1 ≤ t ∧ t ≤ 16) ∧ (4 ≤ p ∧ p ≤ 1024) ∧ (10 ≤ s ∧ s ≤ 20)) : firstBad t p s = -1 := by
  obtain ⟨⟨h1, h2⟩, ⟨h3, h4⟩, h5, h6⟩ := h
  have e : ∀ a b : Int, b ≤ a → decide (a < b) = false := fun a b h => by simpa using h
  simp [firstBad, e, h1, h2, h3, h4, h5, h6]
theorem firstBad_wrong {t p s : Int} (h : ¬ ((1 ≤ t ∧ t ≤ 16) ∧ (4 ≤ p ∧ p ≤ 1024) ∧ (10 ≤ s ∧ s ≤ 20))) : 0 ≤ firstBad t p s := by
  unfold firstBad
  split
  · omega
  · split
    · omega
    · split
      · omega
      · rename_i h1 h2 h3
        simp at h1 h2 h3
        omega

/-- The number of the error of a configuration. -/
def checkC (t p s : Int) : Int := if rightC t p s then 0 else 1

set_option maxHeartbeats 800000 in
theorem confCheck (t p s : Int) (w : World) :
    Calls Try.prog 97 #[.agg #[.int .i64 t, .int .i64 p, .int .i64 s]] w fun e w' => e = .returned (.int .i64 (checkC t p s)) ∧ Below w.heap.size w w' := by
  have hfb : ∃ n, firstBad t p s = n := ⟨_, rfl⟩
  obtain ⟨n, hfb⟩ := hfb
  by_cases h : (1 ≤ t ∧ t ≤ 16) ∧ (4 ≤ p ∧ p ≤ 1024) ∧ (10 ≤ s ∧ s ≤ 20)
  · have hn : n < 0 := by rw [← hfb, firstBad_right h]; decide
    have d : decide (0 ≤ n) = false := by simpa using hn
    have H := hid (show checkC t p s = 0 by rw [checkC, rightC_yes h]; rfl)
    have F := hid hfb
    clear hfb h
    go_enter Try.func97, Try.ntmps97
    go_wp2_with fail
    refine (confBounds t p s _).mono ?_
    rintro e w1 ⟨rfl, rfl⟩
    go_wp2_with (first
      | (go_at_call 111; go_in)
      | (go_at_call 120; refine (confIndex t p s (w.heap.size + 1 + 1) _ (by simp) (cellNew (by simp) rfl) (cellNew (by simp) rfl) (cellNew (by simp) rfl) (cellNew (by simp) rfl) (cellNew (by simp) rfl) (cellNew (by simp) rfl) (cellNew (by simp) rfl) (cellNew (by simp) rfl) (cellNew (by simp) rfl)).mono ?_; rw [F.out]; rintro e w2 ⟨rfl, hb2⟩))
    go_ret
    exact ⟨ret_int (by rw [H.out]), bel⟩
  · have hn : 0 ≤ n := by rw [← hfb]; exact firstBad_wrong h
    have H := hid (show checkC t p s = 1 by rw [checkC, rightC_no h]; rfl)
    have F := hid hfb
    clear hfb h
    go_enter Try.func97, Try.ntmps97
    go_wp2_with fail
    refine (confBounds t p s _).mono ?_
    rintro e w1 ⟨rfl, rfl⟩
    go_wp2_with (first
      | (go_at_call 111; go_in)
      | (go_at_call 120; refine (confIndex t p s (w.heap.size + 1 + 1) _ (by simp) (cellNew (by simp) rfl) (cellNew (by simp) rfl) (cellNew (by simp) rfl) (cellNew (by simp) rfl) (cellNew (by simp) rfl) (cellNew (by simp) rfl) (cellNew (by simp) rfl) (cellNew (by simp) rfl) (cellNew (by simp) rfl)).mono ?_; rw [F.out]; rintro e w2 ⟨rfl, hb2⟩))
    go_ret
    exact ⟨ret_int (by rw [H.out]), bel⟩

set_option maxHeartbeats 1600000 in
theorem refRightC (t p s : Int) (w : World) :
    Calls Try.prog 87 #[.agg #[.int .i64 t, .int .i64 p, .int .i64 s]] w fun e w' => e = .returned (.bool (rightC t p s)) ∧ Below w.heap.size w w' := by
  by_cases h : (1 ≤ t ∧ t ≤ 16) ∧ (4 ≤ p ∧ p ≤ 1024) ∧ (10 ≤ s ∧ s ≤ 20)
  · rw [rightC_yes h]
    obtain ⟨⟨h1, h2⟩, ⟨h3, h4⟩, h5, h6⟩ := h
    have d6 : decide (s ≤ 20) = true := by simpa using h6
    go_enter Try.func87, Try.ntmps87
    go_wp2
    go_ret
    exact ⟨rfl, bel⟩
  · rw [rightC_no h]
    by_cases h1 : 1 ≤ t
    · by_cases h2 : t ≤ 16
      · by_cases h3 : 4 ≤ p
        · by_cases h4 : p ≤ 1024
          · by_cases h5 : 10 ≤ s
            · have h6 : ¬ s ≤ 20 := by omega
              have d6 : decide (s ≤ 20) = false := by simpa using h6
              clear h
              go_enter Try.func87, Try.ntmps87
              go_wp2
              go_ret
              exact ⟨rfl, bel⟩
            · clear h
              have d : decide (10 ≤ s) = false := by simpa using h5
              go_enter Try.func87, Try.ntmps87
              go_wp2
              go_ret
              exact ⟨rfl, bel⟩
          · clear h
            have d : decide (p ≤ 1024) = false := by simpa using h4
            go_enter Try.func87, Try.ntmps87
            go_wp2
            go_ret
            exact ⟨rfl, bel⟩
        · clear h
          have d : decide (4 ≤ p) = false := by simpa using h3
          go_enter Try.func87, Try.ntmps87
          go_wp2
          go_ret
          exact ⟨rfl, bel⟩
      · clear h
        have d : decide (t ≤ 16) = false := by simpa using h2
        go_enter Try.func87, Try.ntmps87
        go_wp2
        go_ret
        exact ⟨rfl, bel⟩
    · clear h
      have d : decide (1 ≤ t) = false := by simpa using h1
      go_enter Try.func87, Try.ntmps87
      go_wp2
      go_ret
      exact ⟨rfl, bel⟩
end Go.Proofs.Ytpeeaapheohehaa
