/- The walks of package op, and of the reference operations: words, values. -/
import Derived.Test.YtdobepeeenjeeaaOp
import Derived.RegionTactic
namespace Go.Proofs.Ytdobepeeenjeeaa
open Go.RowKit
set_option linter.unusedVariables false

theorem opWords (k a b : Int) (w : World) :
    Calls Try.prog 26 #[.agg #[.int .i64 k, .int .i64 a, .int .i64 b]] w fun e w' => e = .returned (.agg #[.int .u64 (IntKind.u64.wrap k), .int .u64 (IntKind.u64.wrap a), .int .u64 (IntKind.u64.wrap b)]) ∧ Below w.heap.size w w' := by
  go_enter Try.func26, Try.ntmps26
  go_wp2
  exact bodyPost_ret (v := .agg #[.int .u64 (IntKind.u64.wrap k), .int .u64 (IntKind.u64.wrap a), .int .u64 (IntKind.u64.wrap b)]) (by simp [results, Try.results26, go_sem]) rfl
    ⟨rfl, ((Below.refl _ _).alloc (Nat.le_refl _) _).alloc (by simp) _⟩

theorem refWords (k a b : Int) (w : World) (h1 : -9223372036854775808 ≤ k) (h2 : k ≤ 9223372036854775807) :
    Calls Try.prog 27 #[.agg #[.int .i64 k, .int .i64 a, .int .i64 b]] w fun e w' => e = .returned (.agg #[.int .u64 (IntKind.u64.wrap k), .int .u64 (IntKind.u64.wrap a), .int .u64 (IntKind.u64.wrap b)]) ∧ Below w.heap.size w w' := by
  go_enter Try.func27, Try.ntmps27
  go_wp2
  exact bodyPost_ret (v := .agg #[.int .u64 (IntKind.u64.wrap k), .int .u64 (IntKind.u64.wrap a), .int .u64 (IntKind.u64.wrap b)]) (by simp [results, Try.results27, go_sem]) rfl
    ⟨rfl, (((Below.refl _ _).alloc (Nat.le_refl _) _).alloc (by simp) _).alloc (by simp; omega) _⟩

/-- What three words are as an operation's cells, and whether it is right. -/
def ofWords (x y z : Int) : Value := if rightB (wrap64 x) (wrap64 y) (wrap64 z) then .tuple #[.agg #[.int .i64 (wrap64 x), .int .i64 (wrap64 y), .int .i64 (wrap64 z)], .bool true] else .tuple #[.agg #[.int .i64 0, .int .i64 0, .int .i64 0], .bool false]

theorem opOf (x y z : Int) (w : World) :
    Calls Try.prog 22 #[.agg #[.int .u64 x, .int .u64 y, .int .u64 z]] w fun e w' => e = .returned (ofWords x y z) ∧ Below w.heap.size w w' := by
  have hr : rightB (wrap64 x) (wrap64 y) (wrap64 z) = true ∨ rightB (wrap64 x) (wrap64 y) (wrap64 z) = false := by cases rightB (wrap64 x) (wrap64 y) (wrap64 z) <;> simp
  rcases hr with hr | hr
  all_goals
    have H := hid hr; clear hr
    go_enter Try.func22, Try.ntmps22
    go_wp2_with (go_at_call 24; refine (opRight _ _ _ _).mono ?_; rw [H.out]; rintro e w' ⟨rfl, hb⟩; obtain ⟨hc, hf, hz⟩ := after hb; simp at hz)
  · exact bodyPost_ret (v := .tuple #[.agg #[.int .i64 (wrap64 x), .int .i64 (wrap64 y), .int .i64 (wrap64 z)], .bool true]) (by simp [results, Try.results22, go_sem, hc]) rfl
      ⟨by rw [ofWords, if_pos H.out], bel⟩
  · exact bodyPost_ret (v := .tuple #[.agg #[.int .i64 0, .int .i64 0, .int .i64 0], .bool false]) (by simp [results, Try.results22, go_sem, hc]) rfl
      ⟨by rw [ofWords, if_neg (by rw [H.out]; decide)], bel⟩

theorem rightB_out {k a b : Int} (h : k < 1 ∨ 9 < k) : rightB k a b = false := by
  have e : ∀ n : Int, 1 ≤ n → n ≤ 9 → (k == n) = false := fun n h1 h2 => beq_eq_false_iff_ne.2 (by omega)
  simp [rightB, e]

theorem ofWords_out {x y z : Int} (h0 : 0 ≤ x) (h1 : x < 18446744073709551616) (h : x < 1 ∨ 9 < x) : ofWords x y z = .tuple #[.agg #[.int .i64 0, .int .i64 0, .int .i64 0], .bool false] := by
  rw [ofWords, rightB_out (by unfold wrap64; omega), if_neg (by decide)]

theorem refOfWords (x y z : Int) (w : World) (h0 : 0 ≤ x) (h1 : x < 18446744073709551616) :
    Calls Try.prog 23 #[.agg #[.int .u64 x, .int .u64 y, .int .u64 z]] w fun e w' => e = .returned (ofWords x y z) ∧ Below w.heap.size w w' := by
  by_cases hl : x < 1
  · have H := hid (ofWords_out (y := y) (z := z) h0 h1 (.inl hl))
    have hd : decide (x < 1) = true := by simpa using hl
    clear h1
    go_enter Try.func23, Try.ntmps23
    go_wp2
    exact bodyPost_ret (v := .tuple #[.agg #[.int .i64 0, .int .i64 0, .int .i64 0], .bool false]) (by simp [results, Try.results23, go_sem]) rfl ⟨by rw [H.out], bel⟩
  by_cases hg : 9 < x
  · have H := hid (ofWords_out (y := y) (z := z) h0 h1 (.inr hg))
    have hd : decide (x < 1) = false := by simp; omega
    have hd : decide (9 < x) = true := by simpa using hg
    clear h1
    go_enter Try.func23, Try.ntmps23
    go_wp2
    exact bodyPost_ret (v := .tuple #[.agg #[.int .i64 0, .int .i64 0, .int .i64 0], .bool false]) (by simp [results, Try.results23, go_sem]) rfl ⟨by rw [H.out], bel⟩
  have hd : decide (x < 1) = false := by simp; omega
  have hd' : decide (9 < x) = false := by simp; omega
  have hw : wrap64 x = x := IntWalk.wrap64_in x (by omega)
  have hr : rightB x (wrap64 y) (wrap64 z) = true ∨ rightB x (wrap64 y) (wrap64 z) = false := by cases rightB x (wrap64 y) (wrap64 z) <;> simp
  have HW := hid hw
  clear h1 hw
  rcases hr with hr | hr
  all_goals
    have H := hid hr; clear hr
    go_enter Try.func23, Try.ntmps23
    go_wp2_with (go_at_call 25; refine (refRight _ _ _ _).mono ?_; rw [H.out]; rintro e w' ⟨rfl, hb⟩; obtain ⟨hc, hf, hz⟩ := after hb; simp at hz)
  · exact bodyPost_ret (v := .tuple #[.agg #[.int .i64 x, .int .i64 (wrap64 y), .int .i64 (wrap64 z)], .bool true]) (by simp [results, Try.results23, go_sem, hc]) rfl
      ⟨by rw [ofWords, HW.out, if_pos H.out], bel⟩
  · exact bodyPost_ret (v := .tuple #[.agg #[.int .i64 0, .int .i64 0, .int .i64 0], .bool false]) (by simp [results, Try.results23, go_sem, hc]) rfl
      ⟨by rw [ofWords, HW.out, if_neg (by rw [H.out]; decide)], bel⟩

/-! ### values -/
def goesB (n : Int) : Bool := decide (0 ≤ n ∧ n ≤ 4294967295)
def valsOf (num e o a : Int) : Value :=
  if (0 ≤ num ∧ num ≤ 2147483647) ∧ (0 ≤ e ∧ e ≤ 4294967295) ∧ (0 ≤ o ∧ o ≤ 4294967295) ∧ (0 ≤ a ∧ a ≤ 4294967295) then .tuple #[.agg #[.int .u32 num, .int .u32 e, .int .u32 o, .int .u32 a], .bool true]
  else .tuple #[.agg #[.int .u32 0, .int .u32 0, .int .u32 0, .int .u32 0], .bool false]

theorem opGoes (n : Int) (w : World) : Calls Try.prog 68 #[.int .i64 n] w fun e w' => e = .returned (.bool (goesB n)) ∧ w = w' := by
  by_cases h0 : 0 ≤ n
  · by_cases h1 : n ≤ 4294967295
    · have H := hid (show goesB n = true by unfold goesB; simp; omega)
      have d1 : decide (n ≤ 4294967295) = true := by simpa using h1
      go_enter Try.func68, Try.ntmps68
      go_wp2
      go_ret
      exact ⟨ret_bool H.out.symm, rfl⟩
    · have H := hid (show goesB n = false by unfold goesB; simp; omega)
      have d1 : decide (n ≤ 4294967295) = false := by simpa using h1
      go_enter Try.func68, Try.ntmps68
      go_wp2
      go_ret
      exact ⟨ret_bool H.out.symm, rfl⟩
  · have H := hid (show goesB n = false by unfold goesB; simp; omega)
    have d1 : decide (0 ≤ n) = false := by simpa using h0
    go_enter Try.func68, Try.ntmps68
    go_wp2
    go_ret
    exact ⟨ret_bool H.out.symm, rfl⟩

theorem opOfVals (v0 v1 v2 v3 : Nat) (w : World) (h0 : v0 < 4294967296) (h1 : v1 < 4294967296) (h2 : v2 < 4294967296) (h3 : v3 < 4294967296) :
    Calls Try.prog 31 #[.agg #[.int .u32 v0, .int .u32 v1, .int .u32 v2, .int .u32 v3]] w fun e w' => e = .returned (.tuple #[.int .i64 v0, .agg #[.int .i64 v1, .int .i64 v2, .int .i64 v3]]) ∧ Below w.heap.size w w' := by
  go_enter Try.func31, Try.ntmps31
  go_wp2
  go_region
  go_wp2
  exact bodyPost_ret (v := .tuple #[.int .i64 v0, .agg #[.int .i64 v1, .int .i64 v2, .int .i64 v3]]) (by simp [results, Try.results31, go_sem]) rfl ⟨rfl, bel⟩

theorem valsNo (num e o a : Int) (h : ¬ ((0 ≤ num ∧ num ≤ 2147483647) ∧ (0 ≤ e ∧ e ≤ 4294967295) ∧ (0 ≤ o ∧ o ≤ 4294967295) ∧ (0 ≤ a ∧ a ≤ 4294967295))) :
    valsOf num e o a = .tuple #[.agg #[.int .u32 0, .int .u32 0, .int .u32 0, .int .u32 0], .bool false] := if_neg h
theorem valsYes (num e o a : Int) (h : (0 ≤ num ∧ num ≤ 2147483647) ∧ (0 ≤ e ∧ e ≤ 4294967295) ∧ (0 ≤ o ∧ o ≤ 4294967295) ∧ (0 ≤ a ∧ a ≤ 4294967295)) :
    valsOf num e o a = .tuple #[.agg #[.int .u32 num, .int .u32 e, .int .u32 o, .int .u32 a], .bool true] := if_pos h

set_option maxHeartbeats 800000 in
theorem opVals (num e o a : Int) (w : World) :
    Calls Try.prog 29 #[.int .i64 num, .agg #[.int .i64 e, .int .i64 o, .int .i64 a]] w fun r w' => r = .returned (valsOf num e o a) ∧ Below w.heap.size w w' := by
  by_cases c0 : num < 0
  · have H := hid (valsNo num e o a (by omega))
    have d0 : decide (num < 0) = true := by simpa using c0
    go_enter Try.func29, Try.ntmps29
    go_wp2_with (go_at_call 68; refine (opGoes _ _).mono ?_; rintro e w' ⟨rfl, rfl⟩)
    exact bodyPost_ret (v := .tuple #[.agg #[.int .u32 0, .int .u32 0, .int .u32 0, .int .u32 0], .bool false]) (by simp [results, Try.results29, go_sem]) rfl ⟨by rw [H.out], bel⟩
  by_cases c1 : 2147483647 < num
  · have H := hid (valsNo num e o a (by omega))
    have d0 : decide (num < 0) = false := by simpa using c0
    have d1 : decide (2147483647 < num) = true := by simpa using c1
    go_enter Try.func29, Try.ntmps29
    go_wp2_with (go_at_call 68; refine (opGoes _ _).mono ?_; rintro e w' ⟨rfl, rfl⟩)
    exact bodyPost_ret (v := .tuple #[.agg #[.int .u32 0, .int .u32 0, .int .u32 0, .int .u32 0], .bool false]) (by simp [results, Try.results29, go_sem]) rfl ⟨by rw [H.out], bel⟩
  by_cases c2 : ¬ (0 ≤ e ∧ e ≤ 4294967295)
  · have H := hid (valsNo num e o a (by omega))
    have d0 : decide (num < 0) = false := by simpa using c0
    have d1 : decide (2147483647 < num) = false := by simpa using c1
    have d2 : goesB e = false := by unfold goesB; simpa using c2
    go_enter Try.func29, Try.ntmps29
    go_wp2_with (go_at_call 68; refine (opGoes _ _).mono ?_; rintro e w' ⟨rfl, rfl⟩)
    exact bodyPost_ret (v := .tuple #[.agg #[.int .u32 0, .int .u32 0, .int .u32 0, .int .u32 0], .bool false]) (by simp [results, Try.results29, go_sem]) rfl ⟨by rw [H.out], bel⟩
  by_cases c3 : ¬ (0 ≤ o ∧ o ≤ 4294967295)
  · have H := hid (valsNo num e o a (by omega))
    have d0 : decide (num < 0) = false := by simpa using c0
    have d1 : decide (2147483647 < num) = false := by simpa using c1
    have d2 : goesB e = true := by unfold goesB; simpa using c2
    have d3 : goesB o = false := by unfold goesB; simpa using c3
    go_enter Try.func29, Try.ntmps29
    go_wp2_with (go_at_call 68; refine (opGoes _ _).mono ?_; rintro e w' ⟨rfl, rfl⟩)
    exact bodyPost_ret (v := .tuple #[.agg #[.int .u32 0, .int .u32 0, .int .u32 0, .int .u32 0], .bool false]) (by simp [results, Try.results29, go_sem]) rfl ⟨by rw [H.out], bel⟩
  by_cases c4 : ¬ (0 ≤ a ∧ a ≤ 4294967295)
  · have H := hid (valsNo num e o a (by omega))
    have d0 : decide (num < 0) = false := by simpa using c0
    have d1 : decide (2147483647 < num) = false := by simpa using c1
    have d2 : goesB e = true := by unfold goesB; simpa using c2
    have d3 : goesB o = true := by unfold goesB; simpa using c3
    have d4 : goesB a = false := by unfold goesB; simpa using c4
    go_enter Try.func29, Try.ntmps29
    go_wp2_with (go_at_call 68; refine (opGoes _ _).mono ?_; rintro e w' ⟨rfl, rfl⟩)
    exact bodyPost_ret (v := .tuple #[.agg #[.int .u32 0, .int .u32 0, .int .u32 0, .int .u32 0], .bool false]) (by simp [results, Try.results29, go_sem]) rfl ⟨by rw [H.out], bel⟩
  have H := hid (valsYes num e o a (by omega))
  have d0 : decide (num < 0) = false := by simpa using c0
  have d1 : decide (2147483647 < num) = false := by simpa using c1
  have d2 : goesB e = true := by unfold goesB; simpa using c2
  have d3 : goesB o = true := by unfold goesB; simpa using c3
  have d4 : goesB a = true := by unfold goesB; simpa using c4
  obtain ⟨b1, b2, b3, b4, b5, b6, b7, b8⟩ : 0 ≤ num ∧ num ≤ 2147483647 ∧ 0 ≤ e ∧ e ≤ 4294967295 ∧ 0 ≤ o ∧ o ≤ 4294967295 ∧ 0 ≤ a ∧ a ≤ 4294967295 := by omega
  clear c0 c1 c2 c3 c4
  go_enter Try.func29, Try.ntmps29
  go_wp2_with (go_at_call 68; refine (opGoes _ _).mono ?_; rintro e w' ⟨rfl, rfl⟩)
  exact bodyPost_ret (v := .tuple #[.agg #[.int .u32 num, .int .u32 e, .int .u32 o, .int .u32 a], .bool true]) (by simp [results, Try.results29, go_sem]) rfl ⟨by rw [H.out], bel⟩

set_option maxHeartbeats 800000 in
theorem refVals (num e o a : Int) (w : World) :
    Calls Try.prog 30 #[.int .i64 num, .agg #[.int .i64 e, .int .i64 o, .int .i64 a]] w fun r w' => r = .returned (valsOf num e o a) ∧ Below w.heap.size w w' := by
  by_cases c0 : num < 0
  · have H := hid (valsNo num e o a (by omega))
    have d0 : decide (num < 0) = true := by simpa using c0
    go_enter Try.func30, Try.ntmps30
    go_wp2
    exact bodyPost_ret (v := .tuple #[.agg #[.int .u32 0, .int .u32 0, .int .u32 0, .int .u32 0], .bool false]) (by simp [results, Try.results30, go_sem]) rfl ⟨by rw [H.out], bel⟩
  by_cases c1 : 2147483647 < num
  · have H := hid (valsNo num e o a (by omega))
    have d0 : decide (num < 0) = false := by simpa using c0
    have d1 : decide (2147483647 < num) = true := by simpa using c1
    go_enter Try.func30, Try.ntmps30
    go_wp2
    exact bodyPost_ret (v := .tuple #[.agg #[.int .u32 0, .int .u32 0, .int .u32 0, .int .u32 0], .bool false]) (by simp [results, Try.results30, go_sem]) rfl ⟨by rw [H.out], bel⟩
  by_cases c2 : e < 0
  · have H := hid (valsNo num e o a (by omega))
    have d0 : decide (num < 0) = false := by simpa using c0
    have d1 : decide (2147483647 < num) = false := by simpa using c1
    have d2 : decide (e < 0) = true := by simpa using c2
    go_enter Try.func30, Try.ntmps30
    go_wp2
    exact bodyPost_ret (v := .tuple #[.agg #[.int .u32 0, .int .u32 0, .int .u32 0, .int .u32 0], .bool false]) (by simp [results, Try.results30, go_sem]) rfl ⟨by rw [H.out], bel⟩
  by_cases c3 : 4294967295 < e
  · have H := hid (valsNo num e o a (by omega))
    have d0 : decide (num < 0) = false := by simpa using c0
    have d1 : decide (2147483647 < num) = false := by simpa using c1
    have d2 : decide (e < 0) = false := by simpa using c2
    have d3 : decide (4294967295 < e) = true := by simpa using c3
    go_enter Try.func30, Try.ntmps30
    go_wp2
    exact bodyPost_ret (v := .tuple #[.agg #[.int .u32 0, .int .u32 0, .int .u32 0, .int .u32 0], .bool false]) (by simp [results, Try.results30, go_sem]) rfl ⟨by rw [H.out], bel⟩
  by_cases c4 : o < 0
  · have H := hid (valsNo num e o a (by omega))
    have d0 : decide (num < 0) = false := by simpa using c0
    have d1 : decide (2147483647 < num) = false := by simpa using c1
    have d2 : decide (e < 0) = false := by simpa using c2
    have d3 : decide (4294967295 < e) = false := by simpa using c3
    have d4 : decide (o < 0) = true := by simpa using c4
    go_enter Try.func30, Try.ntmps30
    go_wp2
    exact bodyPost_ret (v := .tuple #[.agg #[.int .u32 0, .int .u32 0, .int .u32 0, .int .u32 0], .bool false]) (by simp [results, Try.results30, go_sem]) rfl ⟨by rw [H.out], bel⟩
  by_cases c5 : 4294967295 < o
  · have H := hid (valsNo num e o a (by omega))
    have d0 : decide (num < 0) = false := by simpa using c0
    have d1 : decide (2147483647 < num) = false := by simpa using c1
    have d2 : decide (e < 0) = false := by simpa using c2
    have d3 : decide (4294967295 < e) = false := by simpa using c3
    have d4 : decide (o < 0) = false := by simpa using c4
    have d5 : decide (4294967295 < o) = true := by simpa using c5
    go_enter Try.func30, Try.ntmps30
    go_wp2
    exact bodyPost_ret (v := .tuple #[.agg #[.int .u32 0, .int .u32 0, .int .u32 0, .int .u32 0], .bool false]) (by simp [results, Try.results30, go_sem]) rfl ⟨by rw [H.out], bel⟩
  by_cases c6 : a < 0
  · have H := hid (valsNo num e o a (by omega))
    have d0 : decide (num < 0) = false := by simpa using c0
    have d1 : decide (2147483647 < num) = false := by simpa using c1
    have d2 : decide (e < 0) = false := by simpa using c2
    have d3 : decide (4294967295 < e) = false := by simpa using c3
    have d4 : decide (o < 0) = false := by simpa using c4
    have d5 : decide (4294967295 < o) = false := by simpa using c5
    have d6 : decide (a < 0) = true := by simpa using c6
    go_enter Try.func30, Try.ntmps30
    go_wp2
    exact bodyPost_ret (v := .tuple #[.agg #[.int .u32 0, .int .u32 0, .int .u32 0, .int .u32 0], .bool false]) (by simp [results, Try.results30, go_sem]) rfl ⟨by rw [H.out], bel⟩
  by_cases c7 : 4294967295 < a
  · have H := hid (valsNo num e o a (by omega))
    have d0 : decide (num < 0) = false := by simpa using c0
    have d1 : decide (2147483647 < num) = false := by simpa using c1
    have d2 : decide (e < 0) = false := by simpa using c2
    have d3 : decide (4294967295 < e) = false := by simpa using c3
    have d4 : decide (o < 0) = false := by simpa using c4
    have d5 : decide (4294967295 < o) = false := by simpa using c5
    have d6 : decide (a < 0) = false := by simpa using c6
    have d7 : decide (4294967295 < a) = true := by simpa using c7
    go_enter Try.func30, Try.ntmps30
    go_wp2
    exact bodyPost_ret (v := .tuple #[.agg #[.int .u32 0, .int .u32 0, .int .u32 0, .int .u32 0], .bool false]) (by simp [results, Try.results30, go_sem]) rfl ⟨by rw [H.out], bel⟩
  have H := hid (valsYes num e o a (by omega))
  have d0 : decide (num < 0) = false := by simpa using c0
  have d1 : decide (2147483647 < num) = false := by simpa using c1
  have d2 : decide (e < 0) = false := by simpa using c2
  have d3 : decide (4294967295 < e) = false := by simpa using c3
  have d4 : decide (o < 0) = false := by simpa using c4
  have d5 : decide (4294967295 < o) = false := by simpa using c5
  have d6 : decide (a < 0) = false := by simpa using c6
  have d7 : decide (4294967295 < a) = false := by simpa using c7
  obtain ⟨b1, b2, b3, b4, b5, b6, b7, b8⟩ : 0 ≤ num ∧ num ≤ 2147483647 ∧ 0 ≤ e ∧ e ≤ 4294967295 ∧ 0 ≤ o ∧ o ≤ 4294967295 ∧ 0 ≤ a ∧ a ≤ 4294967295 := by omega
  clear c0 c1 c2 c3 c4 c5 c6 c7
  go_enter Try.func30, Try.ntmps30
  go_wp2
  exact bodyPost_ret (v := .tuple #[.agg #[.int .u32 num, .int .u32 e, .int .u32 o, .int .u32 a], .bool true]) (by simp [results, Try.results30, go_sem]) rfl ⟨by rw [H.out], bel⟩

end Go.Proofs.Ytdobepeeenjeeaa
