/- The walks of package entry's fields: which a kind uses, how wide they are, their values, whether all others are zero; of the reference's. -/
import Derived.Test.YtpeeaapheohehaaEnPlain
import Derived.Test.YtpeeaapheohehaaChecked
import Derived.LoopN
import Derived.WalkSpells
import Derived.WalkLawsBesides
namespace Go.Proofs.Ytpeeaapheohehaa
open Go.RowKit
set_option linter.unusedVariables false
set_option linter.unusedSimpArgs false

def usesL (k : Int) : List Nat := if k = 1 then [0, 1, 2, 3, 4] else if k = 2 then [0, 5] else if k = 3 then [5, 6] else if k = 5 then [5] else if k = 6 then [0, 1] else []
theorem usesL_lt (k : Int) : ∀ f ∈ usesL k, f < 7 := by
  unfold usesL
  split
  · decide
  split
  · decide
  split
  · decide
  split
  · decide
  split
  · decide
  · intro f hf; cases hf
theorem enKinds (k : Int) : k = 1 ∨ k = 2 ∨ k = 3 ∨ k = 5 ∨ k = 6 ∨ (k ≠ 1 ∧ k ≠ 2 ∧ k ≠ 3 ∧ k ≠ 5 ∧ k ≠ 6) := by omega

/-- What a row of fields answers. -/
def UsesPost (w : World) (fs : List Nat) (e : Ending) (w' : World) : Prop := ∃ a cap, e = .returned (.slice a fs.length cap) ∧ Seen .i64 w' a fs.length cap fs ∧ Below w.heap.size w w'

theorem enThere (k : Int) (w : World) :
    Calls Try.prog 68 #[.int .i64 k] w fun e w' => e = .returned (.bool (decide (1 ≤ k ∧ k ≤ 6))) ∧ w = w' := by
  by_cases h1 : 1 ≤ k
  · by_cases h2 : k ≤ 6
    · go_enter Try.func68, Try.ntmps68
      go_wp2
      go_ret
      exact ⟨ret_bool (by simp [h1, h2]), rfl⟩
    · go_enter Try.func68, Try.ntmps68
      go_wp2
      go_ret
      exact ⟨ret_bool (by simp [h1, h2]), rfl⟩
  · go_enter Try.func68, Try.ntmps68
    go_wp2
    go_ret
    exact ⟨ret_bool (by simp; omega), rfl⟩

set_option maxHeartbeats 1600000 in
theorem enUses (k : Int) (w : World) : Calls Try.prog 71 #[.int .i64 k] w (UsesPost w (usesL k)) := by
  rcases enKinds k with rfl | rfl | rfl | rfl | rfl | ⟨h1, h2, h3, h5, h6⟩
  case inr.inr.inr.inr.inr =>
    have H := hid (show usesL k = [] by simp [usesL, h1, h2, h3, h5, h6])
    have h1 := beq_eq_false_iff_ne.2 h1; have h2 := beq_eq_false_iff_ne.2 h2; have h3 := beq_eq_false_iff_ne.2 h3; have h5 := beq_eq_false_iff_ne.2 h5; have h6 := beq_eq_false_iff_ne.2 h6
    go_enter Try.func71, Try.ntmps71
    go_wp2
    go_ret
    rw [H.out]
    exact ⟨none, 0, rfl, Seen.empty _ _ _ _ (by decide) (fun _ => rfl), Below.refl _ _⟩
  · go_enter Try.func71, Try.ntmps71
    go_wp2
    go_ret
    exact ⟨_, _, rfl, Seen.built _ _ _ _ _ 5 rfl (by decide) rfl, bel⟩
  · go_enter Try.func71, Try.ntmps71
    go_wp2
    go_ret
    exact ⟨_, _, rfl, Seen.built _ _ _ _ _ 2 rfl (by decide) rfl, bel⟩
  · go_enter Try.func71, Try.ntmps71
    go_wp2
    go_ret
    exact ⟨_, _, rfl, Seen.built _ _ _ _ _ 2 rfl (by decide) rfl, bel⟩
  · go_enter Try.func71, Try.ntmps71
    go_wp2
    go_ret
    exact ⟨_, _, rfl, Seen.built _ _ _ _ _ 1 rfl (by decide) rfl, bel⟩
  · go_enter Try.func71, Try.ntmps71
    go_wp2
    go_ret
    exact ⟨_, _, rfl, Seen.built _ _ _ _ _ 2 rfl (by decide) rfl, bel⟩

theorem enWide (w : World) : Calls Try.prog 73 #[] w fun e w' => e = .returned (.agg #[.int .i64 1, .int .i64 4, .int .i64 1, .int .i64 8, .int .i64 8, .int .i64 2, .int .i64 1]) ∧ Below w.heap.size w w' := by
  go_enter Try.func73, Try.ntmps73
  go_wp2
  exact bodyPost_ret (v := .agg #[.int .i64 1, .int .i64 4, .int .i64 1, .int .i64 8, .int .i64 8, .int .i64 2, .int .i64 1]) (by simp [results, Try.results73, go_sem]) rfl ⟨rfl, bel⟩

set_option maxHeartbeats 800000 in
theorem enValues (e : En) (w : World) : Calls Try.prog 70 #[enV e] w fun en w' => en = .returned (.agg #[.int .i64 e.t, .int .i64 e.num, .int .i64 e.ok, .int .i64 e.oa, .int .i64 e.ob, .int .i64 e.n, .int .i64 e.m]) ∧ Below w.heap.size w w' := by
  obtain ⟨k, t, num, ok, oa, ob, n, m⟩ := e
  show Calls Try.prog 70 #[.agg #[.int .i64 k, .int .i64 t, .int .i64 num, .int .i64 ok, .int .i64 oa, .int .i64 ob, .int .i64 n, .int .i64 m]] w fun en w' => en = .returned (.agg #[.int .i64 t, .int .i64 num, .int .i64 ok, .int .i64 oa, .int .i64 ob, .int .i64 n, .int .i64 m]) ∧ Below w.heap.size w w'
  go_enter Try.func70, Try.ntmps70
  go_wp2
  exact bodyPost_ret (v := .agg #[.int .i64 t, .int .i64 num, .int .i64 ok, .int .i64 oa, .int .i64 ob, .int .i64 n, .int .i64 m]) (by simp [results, Try.results70, go_sem]) rfl ⟨rfl, bel⟩

set_option maxHeartbeats 800000 in
theorem enOf (k t num ok oa ob n m : Int) (w : World) : Calls Try.prog 80 #[.int .i64 k, .agg #[.int .i64 t, .int .i64 num, .int .i64 ok, .int .i64 oa, .int .i64 ob, .int .i64 n, .int .i64 m]] w fun en w' => en = .returned (enV ⟨k, t, num, ok, oa, ob, n, m⟩) ∧ Below w.heap.size w w' := by
  show Calls Try.prog 80 #[.int .i64 k, .agg #[.int .i64 t, .int .i64 num, .int .i64 ok, .int .i64 oa, .int .i64 ob, .int .i64 n, .int .i64 m]] w fun en w' => en = .returned (.agg #[.int .i64 k, .int .i64 t, .int .i64 num, .int .i64 ok, .int .i64 oa, .int .i64 ob, .int .i64 n, .int .i64 m]) ∧ Below w.heap.size w w'
  go_enter Try.func80, Try.ntmps80
  go_wp2
  exact bodyPost_ret (v := .agg #[.int .i64 k, .int .i64 t, .int .i64 num, .int .i64 ok, .int .i64 oa, .int .i64 ob, .int .i64 n, .int .i64 m]) (by simp [results, Try.results80, go_sem]) rfl ⟨rfl, bel⟩

theorem enNeed (k : Nat) (w : World) :
    Calls Try.prog 81 #[.int .i64 k] w fun e w' => e = .returned (.int .i64 (needN k)) ∧ w = w' := by
  by_cases h1 : k = 1
  · subst h1
    go_enter Try.func81, Try.ntmps81
    go_wp2
    go_ret
    exact ⟨ret_int (by simp [needN]), rfl⟩
  by_cases h2 : k = 2
  · subst h2
    go_enter Try.func81, Try.ntmps81
    go_wp2
    go_ret
    exact ⟨ret_int (by simp [needN]), rfl⟩
  by_cases h3 : k = 3
  · subst h3
    go_enter Try.func81, Try.ntmps81
    go_wp2
    go_ret
    exact ⟨ret_int (by simp [needN]), rfl⟩
  by_cases h5 : k = 5
  · subst h5
    go_enter Try.func81, Try.ntmps81
    go_wp2
    go_ret
    exact ⟨ret_int (by simp [needN]), rfl⟩
  by_cases h6 : k = 6
  · subst h6
    go_enter Try.func81, Try.ntmps81
    go_wp2
    go_ret
    exact ⟨ret_int (by simp [needN]), rfl⟩
  have H := hid (show needN k = 0 by simp [needN, h1, h2, h3, h5, h6])
  have g1 : ((k : Int) == 1) = false := by rw [beq_eq_false_iff_ne]; omega
  have g2 : ((k : Int) == 2) = false := by rw [beq_eq_false_iff_ne]; omega
  have g3 : ((k : Int) == 3) = false := by rw [beq_eq_false_iff_ne]; omega
  have g5 : ((k : Int) == 5) = false := by rw [beq_eq_false_iff_ne]; omega
  have g6 : ((k : Int) == 6) = false := by rw [beq_eq_false_iff_ne]; omega
  clear h1 h2 h3 h5 h6
  go_enter Try.func81, Try.ntmps81
  go_wp2
  go_ret
  exact ⟨ret_int (by rw [H.out]; rfl), rfl⟩
end Go.Proofs.Ytpeeaapheohehaa
