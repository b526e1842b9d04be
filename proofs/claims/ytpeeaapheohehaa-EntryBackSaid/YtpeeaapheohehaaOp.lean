/- The walks of package op, and of the reference's operations: which are right, their words, their values. -/
import Derived.Test.YtpeeaapheohehaaChecked
import Derived.Test.YtpeeaapheohehaaMem
import Derived.WalkSpells
import Derived.WalkLawsBesides
namespace Go.Proofs.Ytpeeaapheohehaa
open Go.RowKit
set_option linter.unusedVariables false

/-- Which operations are right. -/
def rightB (k a b : Int) : Bool :=
  (k == 3 || k == 4 || k == 5) || (k == 8 && a == 0 && b == 0) || ((k == 1 || k == 2 || k == 6 || k == 7 || k == 9) && b == 0)

theorem kinds (k : Int) : k = 3 ∨ k = 4 ∨ k = 5 ∨ k = 8 ∨ k = 1 ∨ k = 2 ∨ k = 6 ∨ k = 7 ∨ k = 9 ∨ (k ≠ 3 ∧ k ≠ 4 ∧ k ≠ 5 ∧ k ≠ 8 ∧ k ≠ 1 ∧ k ≠ 2 ∧ k ≠ 6 ∧ k ≠ 7 ∧ k ≠ 9) := by omega

set_option maxHeartbeats 800000 in
theorem opRight (k a b : Int) (w : World) :
    Calls Try.prog 99 #[.agg #[.int .i64 k, .int .i64 a, .int .i64 b]] w fun e w' => e = .returned (.bool (rightB k a b)) ∧ Below w.heap.size w w' := by
  rcases kinds k with rfl | rfl | rfl | rfl | rfl | rfl | rfl | rfl | rfl | ⟨h3, h4, h5, h8, h1, h2, h6, h7, h9⟩
  case inr.inr.inr.inr.inr.inr.inr.inr.inr =>
    have e : rightB k a b = false := by simp [rightB, h3, h4, h5, h8, h1, h2, h6, h7, h9]
    rw [e]
    have h3 := beq_eq_false_iff_ne.2 h3; have h4 := beq_eq_false_iff_ne.2 h4; have h5 := beq_eq_false_iff_ne.2 h5
    have h8 := beq_eq_false_iff_ne.2 h8; have h1 := beq_eq_false_iff_ne.2 h1; have h2 := beq_eq_false_iff_ne.2 h2
    have h6 := beq_eq_false_iff_ne.2 h6; have h7 := beq_eq_false_iff_ne.2 h7; have h9 := beq_eq_false_iff_ne.2 h9
    go_enter Try.func99, Try.ntmps99
    go_wp2
    go_ret
    exact ⟨rfl, (Below.refl _ _).alloc (Nat.le_refl _) _⟩
  all_goals
    go_enter Try.func99, Try.ntmps99
    go_wp2
    all_goals go_ret
    all_goals exact ⟨ret_bool (by simp_all [rightB]), (Below.refl _ _).alloc (Nat.le_refl _) _⟩

set_option maxHeartbeats 800000 in
theorem refUses (k : Int) (w : World) :
    Calls Try.prog 113 #[.int .i64 k] w fun e w' => e = .returned (.int .i64 (if k = 8 then 0 else if k = 1 ∨ k = 2 ∨ k = 6 ∨ k = 7 ∨ k = 9 then 1 else if k = 3 ∨ k = 4 ∨ k = 5 then 2 else -1)) ∧ w = w' := by
  rcases kinds k with rfl | rfl | rfl | rfl | rfl | rfl | rfl | rfl | rfl | ⟨h3, h4, h5, h8, h1, h2, h6, h7, h9⟩
  case inr.inr.inr.inr.inr.inr.inr.inr.inr =>
    rw [if_neg h8, if_neg (by simp [h1, h2, h6, h7, h9]), if_neg (by simp [h3, h4, h5])]
    have h3 := beq_eq_false_iff_ne.2 h3; have h4 := beq_eq_false_iff_ne.2 h4; have h5 := beq_eq_false_iff_ne.2 h5
    have h8 := beq_eq_false_iff_ne.2 h8; have h1 := beq_eq_false_iff_ne.2 h1; have h2 := beq_eq_false_iff_ne.2 h2
    have h6 := beq_eq_false_iff_ne.2 h6; have h7 := beq_eq_false_iff_ne.2 h7; have h9 := beq_eq_false_iff_ne.2 h9
    go_enter Try.func113, Try.ntmps113
    go_wp2
    go_ret
    exact ⟨rfl, rfl⟩
  all_goals
    go_enter Try.func113, Try.ntmps113
    go_wp2
    all_goals go_ret
    all_goals exact ⟨ret_int (by simp), rfl⟩

set_option maxHeartbeats 800000 in
theorem refRight (k a b : Int) (w : World) :
    Calls Try.prog 101 #[.agg #[.int .i64 k, .int .i64 a, .int .i64 b]] w fun e w' => e = .returned (.bool (rightB k a b)) ∧ Below w.heap.size w w' := by
  rcases kinds k with rfl | rfl | rfl | rfl | rfl | rfl | rfl | rfl | rfl | ⟨h3, h4, h5, h8, h1, h2, h6, h7, h9⟩
  case inr.inr.inr.inr.inr.inr.inr.inr.inr =>
    have e : rightB k a b = false := by simp [rightB, h3, h4, h5, h8, h1, h2, h6, h7, h9]
    have hu := refUses k
    simp only [if_neg h8, if_neg (show ¬ (k = 1 ∨ k = 2 ∨ k = 6 ∨ k = 7 ∨ k = 9) by simp [h1, h2, h6, h7, h9]), if_neg (show ¬ (k = 3 ∨ k = 4 ∨ k = 5) by simp [h3, h4, h5])] at hu
    rw [e]
    clear e h3 h4 h5 h8 h1 h2 h6 h7 h9
    have Hu := hidAll hu; clear hu
    go_enter Try.func101, Try.ntmps101
    go_wp2_with (go_at_call 113; refine (Hu.out _).mono ?_; rintro e w' ⟨rfl, rfl⟩)
    go_ret
    exact ⟨rfl, (Below.refl _ _).alloc (Nat.le_refl _) _⟩
  all_goals
    by_cases ha : a = 0 <;> by_cases hb : b = 0
    all_goals
      have ha' : (a == 0) = decide (a = 0) := by simp [ha]
      have hb' : (b == 0) = decide (b = 0) := by simp [hb]
      simp only [ha, hb, decide_true, decide_false] at ha' hb'
      go_enter Try.func101, Try.ntmps101
      go_wp2_with (go_at_call 113; refine (refUses _ _).mono ?_; rintro e w' ⟨rfl, rfl⟩)
      all_goals go_ret
      all_goals exact ⟨ret_bool (by simp_all [rightB]), (Below.refl _ _).alloc (Nat.le_refl _) _⟩
end Go.Proofs.Ytpeeaapheohehaa
