/- The walks of package op, and of the reference operations: words, values. -/
import Derived.Test.YtkkhoiahjmfibaaOp
import Derived.RegionTactic
namespace Go.Proofs.Ytkkhoiahjmfibaa
open Go.RowKit
set_option linter.unusedVariables false

theorem opWords (k a b : Int) (w : World) :
    Calls Try.prog 67 #[.agg #[.int .i64 k, .int .i64 a, .int .i64 b]] w fun e w' => e = .returned (.agg #[.int .u64 (IntKind.u64.wrap k), .int .u64 (IntKind.u64.wrap a), .int .u64 (IntKind.u64.wrap b)]) ∧ Below w.heap.size w w' := by
  go_enter Try.func67, Try.ntmps67
  go_wp2
  exact bodyPost_ret (v := .agg #[.int .u64 (IntKind.u64.wrap k), .int .u64 (IntKind.u64.wrap a), .int .u64 (IntKind.u64.wrap b)]) (by simp [results, Try.results67, go_sem]) rfl
    ⟨rfl, ((Below.refl _ _).alloc (Nat.le_refl _) _).alloc (by simp) _⟩

theorem refOpWords (k a b : Int) (w : World) (h1 : -9223372036854775808 ≤ k) (h2 : k ≤ 9223372036854775807) :
    Calls Try.prog 70 #[.agg #[.int .i64 k, .int .i64 a, .int .i64 b]] w fun e w' => e = .returned (.agg #[.int .u64 (IntKind.u64.wrap k), .int .u64 (IntKind.u64.wrap a), .int .u64 (IntKind.u64.wrap b)]) ∧ Below w.heap.size w w' := by
  go_enter Try.func70, Try.ntmps70
  go_wp2
  exact bodyPost_ret (v := .agg #[.int .u64 (IntKind.u64.wrap k), .int .u64 (IntKind.u64.wrap a), .int .u64 (IntKind.u64.wrap b)]) (by simp [results, Try.results70, go_sem]) rfl
    ⟨rfl, (((Below.refl _ _).alloc (Nat.le_refl _) _).alloc (by simp) _).alloc (by simp; omega) _⟩

/-- What three words are as an operation's cells, and whether it is right. -/
def ofWords (x y z : Int) : Value := if rightB (wrap64 x) (wrap64 y) (wrap64 z) then .tuple #[.agg #[.int .i64 (wrap64 x), .int .i64 (wrap64 y), .int .i64 (wrap64 z)], .bool true] else .tuple #[.agg #[.int .i64 0, .int .i64 0, .int .i64 0], .bool false]

theorem opOf (x y z : Int) (w : World) :
    Calls Try.prog 99 #[.agg #[.int .u64 x, .int .u64 y, .int .u64 z]] w fun e w' => e = .returned (ofWords x y z) ∧ Below w.heap.size w w' := by
  have hr : rightB (wrap64 x) (wrap64 y) (wrap64 z) = true ∨ rightB (wrap64 x) (wrap64 y) (wrap64 z) = false := by cases rightB (wrap64 x) (wrap64 y) (wrap64 z) <;> simp
  rcases hr with hr | hr
  all_goals
    have H := hid hr; clear hr
    go_enter Try.func99, Try.ntmps99
    go_wp2_with (go_at_call 66; refine (opRight _ _ _ _).mono ?_; rw [H.out]; rintro e w' ⟨rfl, hb⟩; obtain ⟨hc, hf, hz⟩ := after hb; simp at hz)
  · exact bodyPost_ret (v := .tuple #[.agg #[.int .i64 (wrap64 x), .int .i64 (wrap64 y), .int .i64 (wrap64 z)], .bool true]) (by simp [results, Try.results99, go_sem, hc]) rfl
      ⟨by rw [ofWords, if_pos H.out], bel⟩
  · exact bodyPost_ret (v := .tuple #[.agg #[.int .i64 0, .int .i64 0, .int .i64 0], .bool false]) (by simp [results, Try.results99, go_sem, hc]) rfl
      ⟨by rw [ofWords, if_neg (by rw [H.out]; decide)], bel⟩

theorem rightB_out {k a b : Int} (h : k < 1 ∨ 9 < k) : rightB k a b = false := by
  have e : ∀ n : Int, 1 ≤ n → n ≤ 9 → (k == n) = false := fun n h1 h2 => beq_eq_false_iff_ne.2 (by omega)
  simp [rightB, e]

theorem ofWords_out {x y z : Int} (h0 : 0 ≤ x) (h1 : x < 18446744073709551616) (h : x < 1 ∨ 9 < x) : ofWords x y z = .tuple #[.agg #[.int .i64 0, .int .i64 0, .int .i64 0], .bool false] := by
  rw [ofWords, rightB_out (by unfold wrap64; omega), if_neg (by decide)]

theorem refOfWords (x y z : Int) (w : World) (h0 : 0 ≤ x) (h1 : x < 18446744073709551616) :
    Calls Try.prog 65 #[.agg #[.int .u64 x, .int .u64 y, .int .u64 z]] w fun e w' => e = .returned (ofWords x y z) ∧ Below w.heap.size w w' := by
  by_cases hl : x < 1
  · have H := hid (ofWords_out (y := y) (z := z) h0 h1 (.inl hl))
    have hd : decide (x < 1) = true := by simpa using hl
    clear h1
    go_enter Try.func65, Try.ntmps65
    go_wp2
    exact bodyPost_ret (v := .tuple #[.agg #[.int .i64 0, .int .i64 0, .int .i64 0], .bool false]) (by simp [results, Try.results65, go_sem]) rfl ⟨by rw [H.out], bel⟩
  by_cases hg : 9 < x
  · have H := hid (ofWords_out (y := y) (z := z) h0 h1 (.inr hg))
    have hd : decide (x < 1) = false := by simp; omega
    have hd : decide (9 < x) = true := by simpa using hg
    clear h1
    go_enter Try.func65, Try.ntmps65
    go_wp2
    exact bodyPost_ret (v := .tuple #[.agg #[.int .i64 0, .int .i64 0, .int .i64 0], .bool false]) (by simp [results, Try.results65, go_sem]) rfl ⟨by rw [H.out], bel⟩
  have hd : decide (x < 1) = false := by simp; omega
  have hd' : decide (9 < x) = false := by simp; omega
  have hw : wrap64 x = x := IntWalk.wrap64_in x (by omega)
  have hr : rightB x (wrap64 y) (wrap64 z) = true ∨ rightB x (wrap64 y) (wrap64 z) = false := by cases rightB x (wrap64 y) (wrap64 z) <;> simp
  have HW := hid hw
  clear h1 hw
  rcases hr with hr | hr
  all_goals
    have H := hid hr; clear hr
    go_enter Try.func65, Try.ntmps65
    go_wp2_with (go_at_call 69; refine (refRight _ _ _ _).mono ?_; rw [H.out]; rintro e w' ⟨rfl, hb⟩; obtain ⟨hc, hf, hz⟩ := after hb; simp at hz)
  · exact bodyPost_ret (v := .tuple #[.agg #[.int .i64 x, .int .i64 (wrap64 y), .int .i64 (wrap64 z)], .bool true]) (by simp [results, Try.results65, go_sem, hc]) rfl
      ⟨by rw [ofWords, HW.out, if_pos H.out], bel⟩
  · exact bodyPost_ret (v := .tuple #[.agg #[.int .i64 0, .int .i64 0, .int .i64 0], .bool false]) (by simp [results, Try.results65, go_sem, hc]) rfl
      ⟨by rw [ofWords, HW.out, if_neg (by rw [H.out]; decide)], bel⟩

/-! ### values -/
def goesB (n : Int) : Bool := decide (0 ≤ n ∧ n ≤ 4294967295)
def opValsOf (num e o a : Int) : Value :=
  if (0 ≤ num ∧ num ≤ 2147483647) ∧ (0 ≤ e ∧ e ≤ 4294967295) ∧ (0 ≤ o ∧ o ≤ 4294967295) ∧ (0 ≤ a ∧ a ≤ 4294967295) then .tuple #[.agg #[.int .u32 num, .int .u32 e, .int .u32 o, .int .u32 a], .bool true]
  else .tuple #[.agg #[.int .u32 0, .int .u32 0, .int .u32 0, .int .u32 0], .bool false]

theorem opOfVals (v0 v1 v2 v3 : Nat) (w : World) (h0 : v0 < 4294967296) (h1 : v1 < 4294967296) (h2 : v2 < 4294967296) (h3 : v3 < 4294967296) :
    Calls Try.prog 102 #[.agg #[.int .u32 v0, .int .u32 v1, .int .u32 v2, .int .u32 v3]] w fun e w' => e = .returned (.tuple #[.int .i64 v0, .agg #[.int .i64 v1, .int .i64 v2, .int .i64 v3]]) ∧ Below w.heap.size w w' := by
  go_enter Try.func102, Try.ntmps102
  go_wp2
  go_region
  go_wp2
  exact bodyPost_ret (v := .tuple #[.int .i64 v0, .agg #[.int .i64 v1, .int .i64 v2, .int .i64 v3]]) (by simp [results, Try.results102, go_sem]) rfl ⟨rfl, bel⟩

theorem valsNo (num e o a : Int) (h : ¬ ((0 ≤ num ∧ num ≤ 2147483647) ∧ (0 ≤ e ∧ e ≤ 4294967295) ∧ (0 ≤ o ∧ o ≤ 4294967295) ∧ (0 ≤ a ∧ a ≤ 4294967295))) :
    opValsOf num e o a = .tuple #[.agg #[.int .u32 0, .int .u32 0, .int .u32 0, .int .u32 0], .bool false] := if_neg h
theorem valsYes (num e o a : Int) (h : (0 ≤ num ∧ num ≤ 2147483647) ∧ (0 ≤ e ∧ e ≤ 4294967295) ∧ (0 ≤ o ∧ o ≤ 4294967295) ∧ (0 ≤ a ∧ a ≤ 4294967295)) :
    opValsOf num e o a = .tuple #[.agg #[.int .u32 num, .int .u32 e, .int .u32 o, .int .u32 a], .bool true] := if_pos h

end Go.Proofs.Ytkkhoiahjmfibaa
