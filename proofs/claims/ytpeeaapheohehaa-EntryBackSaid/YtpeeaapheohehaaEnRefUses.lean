/- The walks of the reference's uses, goes, bare. -/
import Derived.Test.YtpeeaapheohehaaEnUses
import Derived.Test.YtpeeaapheohehaaEnRefPut
namespace Go.Proofs.Ytpeeaapheohehaa
open Go.RowKit
set_option linter.unusedVariables false
set_option linter.unusedSimpArgs false

set_option maxHeartbeats 1600000 in
theorem ref32useT (k : Int) (w : World) : Calls Try.prog 76 #[.int .i64 k, .int .i64 0] w fun e w' => e = .returned (.bool (useT k)) ∧ w = w' := by
  rcases enKinds k with rfl | rfl | rfl | rfl | rfl | ⟨h1, h2, h3, h5, h6⟩
  case inr.inr.inr.inr.inr =>
    have H := hid (show useT k = false by simp [useT, h1, h2, h3, h5, h6])
    have h1 := beq_eq_false_iff_ne.2 h1; have h2 := beq_eq_false_iff_ne.2 h2; have h3 := beq_eq_false_iff_ne.2 h3; have h5 := beq_eq_false_iff_ne.2 h5; have h6 := beq_eq_false_iff_ne.2 h6
    go_enter Try.func76, Try.ntmps76
    go_wp2
    go_ret
    exact ⟨ret_bool (by rw [H.out]), rfl⟩
  all_goals
    go_enter Try.func76, Try.ntmps76
    go_wp2
    go_ret
    exact ⟨ret_bool (by simp [useT]), rfl⟩
set_option maxHeartbeats 1600000 in
theorem ref32useNum (k : Int) (w : World) : Calls Try.prog 76 #[.int .i64 k, .int .i64 1] w fun e w' => e = .returned (.bool (useNum k)) ∧ w = w' := by
  rcases enKinds k with rfl | rfl | rfl | rfl | rfl | ⟨h1, h2, h3, h5, h6⟩
  case inr.inr.inr.inr.inr =>
    have H := hid (show useNum k = false by simp [useNum, h1, h2, h3, h5, h6])
    have h1 := beq_eq_false_iff_ne.2 h1; have h2 := beq_eq_false_iff_ne.2 h2; have h3 := beq_eq_false_iff_ne.2 h3; have h5 := beq_eq_false_iff_ne.2 h5; have h6 := beq_eq_false_iff_ne.2 h6
    go_enter Try.func76, Try.ntmps76
    go_wp2
    go_ret
    exact ⟨ret_bool (by rw [H.out]), rfl⟩
  all_goals
    go_enter Try.func76, Try.ntmps76
    go_wp2
    go_ret
    exact ⟨ret_bool (by simp [useNum]), rfl⟩
set_option maxHeartbeats 1600000 in
theorem ref32useOp (k : Int) (w : World) : Calls Try.prog 76 #[.int .i64 k, .int .i64 2] w fun e w' => e = .returned (.bool (useOp k)) ∧ w = w' := by
  rcases enKinds k with rfl | rfl | rfl | rfl | rfl | ⟨h1, h2, h3, h5, h6⟩
  case inr.inr.inr.inr.inr =>
    have H := hid (show useOp k = false by simp [useOp, h1, h2, h3, h5, h6])
    have h1 := beq_eq_false_iff_ne.2 h1; have h2 := beq_eq_false_iff_ne.2 h2; have h3 := beq_eq_false_iff_ne.2 h3; have h5 := beq_eq_false_iff_ne.2 h5; have h6 := beq_eq_false_iff_ne.2 h6
    go_enter Try.func76, Try.ntmps76
    go_wp2
    go_ret
    exact ⟨ret_bool (by rw [H.out]), rfl⟩
  all_goals
    go_enter Try.func76, Try.ntmps76
    go_wp2
    go_ret
    exact ⟨ret_bool (by simp [useOp]), rfl⟩
set_option maxHeartbeats 1600000 in
theorem ref32useN (k : Int) (w : World) : Calls Try.prog 76 #[.int .i64 k, .int .i64 3] w fun e w' => e = .returned (.bool (useN k)) ∧ w = w' := by
  rcases enKinds k with rfl | rfl | rfl | rfl | rfl | ⟨h1, h2, h3, h5, h6⟩
  case inr.inr.inr.inr.inr =>
    have H := hid (show useN k = false by simp [useN, h1, h2, h3, h5, h6])
    have h1 := beq_eq_false_iff_ne.2 h1; have h2 := beq_eq_false_iff_ne.2 h2; have h3 := beq_eq_false_iff_ne.2 h3; have h5 := beq_eq_false_iff_ne.2 h5; have h6 := beq_eq_false_iff_ne.2 h6
    go_enter Try.func76, Try.ntmps76
    go_wp2
    go_ret
    exact ⟨ret_bool (by rw [H.out]), rfl⟩
  all_goals
    go_enter Try.func76, Try.ntmps76
    go_wp2
    go_ret
    exact ⟨ret_bool (by simp [useN]), rfl⟩
set_option maxHeartbeats 1600000 in
theorem ref32useM (k : Int) (w : World) : Calls Try.prog 76 #[.int .i64 k, .int .i64 4] w fun e w' => e = .returned (.bool (useM k)) ∧ w = w' := by
  rcases enKinds k with rfl | rfl | rfl | rfl | rfl | ⟨h1, h2, h3, h5, h6⟩
  case inr.inr.inr.inr.inr =>
    have H := hid (show useM k = false by simp [useM, h1, h2, h3, h5, h6])
    have h1 := beq_eq_false_iff_ne.2 h1; have h2 := beq_eq_false_iff_ne.2 h2; have h3 := beq_eq_false_iff_ne.2 h3; have h5 := beq_eq_false_iff_ne.2 h5; have h6 := beq_eq_false_iff_ne.2 h6
    go_enter Try.func76, Try.ntmps76
    go_wp2
    go_ret
    exact ⟨ret_bool (by rw [H.out]), rfl⟩
  all_goals
    go_enter Try.func76, Try.ntmps76
    go_wp2
    go_ret
    exact ⟨ret_bool (by simp [useM]), rfl⟩
theorem ref32goes (n m : Int) (w : World) : Calls Try.prog 75 #[.int .i64 n, .int .i64 m] w fun e w' => e = .returned (.bool (decide (0 ≤ n ∧ n ≤ m))) ∧ w = w' := by
  by_cases h1 : 0 ≤ n
  · by_cases h2 : n ≤ m
    · go_enter Try.func75, Try.ntmps75
      go_wp2
      go_ret
      exact ⟨ret_bool (by simp [h1, h2]), rfl⟩
    · go_enter Try.func75, Try.ntmps75
      go_wp2
      go_ret
      exact ⟨ret_bool (by simp [h1, h2]; try omega), rfl⟩
  · go_enter Try.func75, Try.ntmps75
    go_wp2
    go_ret
    exact ⟨ret_bool (by simp; omega), rfl⟩

set_option maxHeartbeats 6400000 in
theorem ref32bare (k t num ok oa ob n m : Int) (w : World) : Calls Try.prog 74 #[.agg #[.int .i64 k, .int .i64 t, .int .i64 num, .int .i64 ok, .int .i64 oa, .int .i64 ob, .int .i64 n, .int .i64 m]] w fun e w' => e = .returned (.bool (bareB ⟨k, t, num, ok, oa, ob, n, m⟩)) ∧ Below w.heap.size w w' := by
  rcases enKinds k with rfl | rfl | rfl | rfl | rfl | ⟨h1, h2, h3, h5, h6⟩
  · skip
    have U0 := hidAll fun w => (show Calls Try.prog 76 #[.int .i64 1, .int .i64 0] w fun e w' => e = .returned (.bool true) ∧ w = w' from ref32useT 1 w)
    have U1 := hidAll fun w => (show Calls Try.prog 76 #[.int .i64 1, .int .i64 1] w fun e w' => e = .returned (.bool true) ∧ w = w' from ref32useNum 1 w)
    have U2 := hidAll fun w => (show Calls Try.prog 76 #[.int .i64 1, .int .i64 2] w fun e w' => e = .returned (.bool true) ∧ w = w' from ref32useOp 1 w)
    have U3 := hidAll fun w => (show Calls Try.prog 76 #[.int .i64 1, .int .i64 3] w fun e w' => e = .returned (.bool false) ∧ w = w' from ref32useN 1 w)
    have U4 := hidAll fun w => (show Calls Try.prog 76 #[.int .i64 1, .int .i64 4] w fun e w' => e = .returned (.bool false) ∧ w = w' from ref32useM 1 w)
    by_cases hx : n = 0
    · subst hx
      by_cases hx : m = 0
      · subst hx
        have HB := hid (show bareB ⟨1, t, num, ok, oa, ob, 0, 0⟩ = true by simp [bareB, useT, useNum, useOp, useN, useM])
        rw [HB.out]
        go_enter Try.func74, Try.ntmps74
        go_wp2_with fail
        refine (U0.out _).mono ?_
        rintro e _ ⟨rfl, rfl⟩
        go_wp2_with fail
        refine (U1.out _).mono ?_
        rintro e _ ⟨rfl, rfl⟩
        go_wp2_with fail
        refine (U2.out _).mono ?_
        rintro e _ ⟨rfl, rfl⟩
        go_wp2_with fail
        refine (U3.out _).mono ?_
        rintro e _ ⟨rfl, rfl⟩
        go_wp2_with fail
        refine (U4.out _).mono ?_
        rintro e _ ⟨rfl, rfl⟩
        go_wp2_with fail
        go_ret
        exact ⟨rfl, bel⟩
      · skip
        have HB := hid (show bareB ⟨1, t, num, ok, oa, ob, 0, m⟩ = false by simp [bareB, useT, useNum, useOp, useN, useM, hx])
        have hx := beq_eq_false_iff_ne.2 hx
        rw [HB.out]
        go_enter Try.func74, Try.ntmps74
        go_wp2_with fail
        refine (U0.out _).mono ?_
        rintro e _ ⟨rfl, rfl⟩
        go_wp2_with fail
        refine (U1.out _).mono ?_
        rintro e _ ⟨rfl, rfl⟩
        go_wp2_with fail
        refine (U2.out _).mono ?_
        rintro e _ ⟨rfl, rfl⟩
        go_wp2_with fail
        refine (U3.out _).mono ?_
        rintro e _ ⟨rfl, rfl⟩
        go_wp2_with fail
        refine (U4.out _).mono ?_
        rintro e _ ⟨rfl, rfl⟩
        go_wp2_with fail
        go_ret
        exact ⟨rfl, bel⟩
    · skip
      have HB := hid (show bareB ⟨1, t, num, ok, oa, ob, n, m⟩ = false by simp [bareB, useT, useNum, useOp, useN, useM, hx])
      have hx := beq_eq_false_iff_ne.2 hx
      rw [HB.out]
      go_enter Try.func74, Try.ntmps74
      go_wp2_with fail
      refine (U0.out _).mono ?_
      rintro e _ ⟨rfl, rfl⟩
      go_wp2_with fail
      refine (U1.out _).mono ?_
      rintro e _ ⟨rfl, rfl⟩
      go_wp2_with fail
      refine (U2.out _).mono ?_
      rintro e _ ⟨rfl, rfl⟩
      go_wp2_with fail
      refine (U3.out _).mono ?_
      rintro e _ ⟨rfl, rfl⟩
      go_wp2_with fail
      go_ret
      exact ⟨rfl, bel⟩
  · skip
    have U0 := hidAll fun w => (show Calls Try.prog 76 #[.int .i64 2, .int .i64 0] w fun e w' => e = .returned (.bool true) ∧ w = w' from ref32useT 2 w)
    have U1 := hidAll fun w => (show Calls Try.prog 76 #[.int .i64 2, .int .i64 1] w fun e w' => e = .returned (.bool false) ∧ w = w' from ref32useNum 2 w)
    have U2 := hidAll fun w => (show Calls Try.prog 76 #[.int .i64 2, .int .i64 2] w fun e w' => e = .returned (.bool false) ∧ w = w' from ref32useOp 2 w)
    have U3 := hidAll fun w => (show Calls Try.prog 76 #[.int .i64 2, .int .i64 3] w fun e w' => e = .returned (.bool true) ∧ w = w' from ref32useN 2 w)
    have U4 := hidAll fun w => (show Calls Try.prog 76 #[.int .i64 2, .int .i64 4] w fun e w' => e = .returned (.bool false) ∧ w = w' from ref32useM 2 w)
    by_cases hx : num = 0
    · subst hx
      by_cases hx : ok = 0
      · subst hx
        by_cases hx : oa = 0
        · subst hx
          by_cases hx : ob = 0
          · subst hx
            by_cases hx : m = 0
            · subst hx
              have HB := hid (show bareB ⟨2, t, 0, 0, 0, 0, n, 0⟩ = true by simp [bareB, useT, useNum, useOp, useN, useM])
              rw [HB.out]
              go_enter Try.func74, Try.ntmps74
              go_wp2_with fail
              refine (U0.out _).mono ?_
              rintro e _ ⟨rfl, rfl⟩
              go_wp2_with fail
              refine (U1.out _).mono ?_
              rintro e _ ⟨rfl, rfl⟩
              go_wp2_with fail
              refine (U2.out _).mono ?_
              rintro e _ ⟨rfl, rfl⟩
              go_wp2_with fail
              refine (U3.out _).mono ?_
              rintro e _ ⟨rfl, rfl⟩
              go_wp2_with fail
              refine (U4.out _).mono ?_
              rintro e _ ⟨rfl, rfl⟩
              go_wp2_with fail
              go_ret
              exact ⟨rfl, bel⟩
            · skip
              have HB := hid (show bareB ⟨2, t, 0, 0, 0, 0, n, m⟩ = false by simp [bareB, useT, useNum, useOp, useN, useM, hx])
              have hx := beq_eq_false_iff_ne.2 hx
              rw [HB.out]
              go_enter Try.func74, Try.ntmps74
              go_wp2_with fail
              refine (U0.out _).mono ?_
              rintro e _ ⟨rfl, rfl⟩
              go_wp2_with fail
              refine (U1.out _).mono ?_
              rintro e _ ⟨rfl, rfl⟩
              go_wp2_with fail
              refine (U2.out _).mono ?_
              rintro e _ ⟨rfl, rfl⟩
              go_wp2_with fail
              refine (U3.out _).mono ?_
              rintro e _ ⟨rfl, rfl⟩
              go_wp2_with fail
              refine (U4.out _).mono ?_
              rintro e _ ⟨rfl, rfl⟩
              go_wp2_with fail
              go_ret
              exact ⟨rfl, bel⟩
          · skip
            have HB := hid (show bareB ⟨2, t, 0, 0, 0, ob, n, m⟩ = false by simp [bareB, useT, useNum, useOp, useN, useM, hx])
            have hx := beq_eq_false_iff_ne.2 hx
            rw [HB.out]
            go_enter Try.func74, Try.ntmps74
            go_wp2_with fail
            refine (U0.out _).mono ?_
            rintro e _ ⟨rfl, rfl⟩
            go_wp2_with fail
            refine (U1.out _).mono ?_
            rintro e _ ⟨rfl, rfl⟩
            go_wp2_with fail
            refine (U2.out _).mono ?_
            rintro e _ ⟨rfl, rfl⟩
            go_wp2_with fail
            go_ret
            exact ⟨rfl, bel⟩
        · skip
          have HB := hid (show bareB ⟨2, t, 0, 0, oa, ob, n, m⟩ = false by simp [bareB, useT, useNum, useOp, useN, useM, hx])
          have hx := beq_eq_false_iff_ne.2 hx
          rw [HB.out]
          go_enter Try.func74, Try.ntmps74
          go_wp2_with fail
          refine (U0.out _).mono ?_
          rintro e _ ⟨rfl, rfl⟩
          go_wp2_with fail
          refine (U1.out _).mono ?_
          rintro e _ ⟨rfl, rfl⟩
          go_wp2_with fail
          refine (U2.out _).mono ?_
          rintro e _ ⟨rfl, rfl⟩
          go_wp2_with fail
          go_ret
          exact ⟨rfl, bel⟩
      · skip
        have HB := hid (show bareB ⟨2, t, 0, ok, oa, ob, n, m⟩ = false by simp [bareB, useT, useNum, useOp, useN, useM, hx])
        have hx := beq_eq_false_iff_ne.2 hx
        rw [HB.out]
        go_enter Try.func74, Try.ntmps74
        go_wp2_with fail
        refine (U0.out _).mono ?_
        rintro e _ ⟨rfl, rfl⟩
        go_wp2_with fail
        refine (U1.out _).mono ?_
        rintro e _ ⟨rfl, rfl⟩
        go_wp2_with fail
        refine (U2.out _).mono ?_
        rintro e _ ⟨rfl, rfl⟩
        go_wp2_with fail
        go_ret
        exact ⟨rfl, bel⟩
    · skip
      have HB := hid (show bareB ⟨2, t, num, ok, oa, ob, n, m⟩ = false by simp [bareB, useT, useNum, useOp, useN, useM, hx])
      have hx := beq_eq_false_iff_ne.2 hx
      rw [HB.out]
      go_enter Try.func74, Try.ntmps74
      go_wp2_with fail
      refine (U0.out _).mono ?_
      rintro e _ ⟨rfl, rfl⟩
      go_wp2_with fail
      refine (U1.out _).mono ?_
      rintro e _ ⟨rfl, rfl⟩
      go_wp2_with fail
      go_ret
      exact ⟨rfl, bel⟩
  · skip
    have U0 := hidAll fun w => (show Calls Try.prog 76 #[.int .i64 3, .int .i64 0] w fun e w' => e = .returned (.bool false) ∧ w = w' from ref32useT 3 w)
    have U1 := hidAll fun w => (show Calls Try.prog 76 #[.int .i64 3, .int .i64 1] w fun e w' => e = .returned (.bool false) ∧ w = w' from ref32useNum 3 w)
    have U2 := hidAll fun w => (show Calls Try.prog 76 #[.int .i64 3, .int .i64 2] w fun e w' => e = .returned (.bool false) ∧ w = w' from ref32useOp 3 w)
    have U3 := hidAll fun w => (show Calls Try.prog 76 #[.int .i64 3, .int .i64 3] w fun e w' => e = .returned (.bool true) ∧ w = w' from ref32useN 3 w)
    have U4 := hidAll fun w => (show Calls Try.prog 76 #[.int .i64 3, .int .i64 4] w fun e w' => e = .returned (.bool true) ∧ w = w' from ref32useM 3 w)
    by_cases hx : t = 0
    · subst hx
      by_cases hx : num = 0
      · subst hx
        by_cases hx : ok = 0
        · subst hx
          by_cases hx : oa = 0
          · subst hx
            by_cases hx : ob = 0
            · subst hx
              have HB := hid (show bareB ⟨3, 0, 0, 0, 0, 0, n, m⟩ = true by simp [bareB, useT, useNum, useOp, useN, useM])
              rw [HB.out]
              go_enter Try.func74, Try.ntmps74
              go_wp2_with fail
              refine (U0.out _).mono ?_
              rintro e _ ⟨rfl, rfl⟩
              go_wp2_with fail
              refine (U1.out _).mono ?_
              rintro e _ ⟨rfl, rfl⟩
              go_wp2_with fail
              refine (U2.out _).mono ?_
              rintro e _ ⟨rfl, rfl⟩
              go_wp2_with fail
              refine (U3.out _).mono ?_
              rintro e _ ⟨rfl, rfl⟩
              go_wp2_with fail
              refine (U4.out _).mono ?_
              rintro e _ ⟨rfl, rfl⟩
              go_wp2_with fail
              go_ret
              exact ⟨rfl, bel⟩
            · skip
              have HB := hid (show bareB ⟨3, 0, 0, 0, 0, ob, n, m⟩ = false by simp [bareB, useT, useNum, useOp, useN, useM, hx])
              have hx := beq_eq_false_iff_ne.2 hx
              rw [HB.out]
              go_enter Try.func74, Try.ntmps74
              go_wp2_with fail
              refine (U0.out _).mono ?_
              rintro e _ ⟨rfl, rfl⟩
              go_wp2_with fail
              refine (U1.out _).mono ?_
              rintro e _ ⟨rfl, rfl⟩
              go_wp2_with fail
              refine (U2.out _).mono ?_
              rintro e _ ⟨rfl, rfl⟩
              go_wp2_with fail
              go_ret
              exact ⟨rfl, bel⟩
          · skip
            have HB := hid (show bareB ⟨3, 0, 0, 0, oa, ob, n, m⟩ = false by simp [bareB, useT, useNum, useOp, useN, useM, hx])
            have hx := beq_eq_false_iff_ne.2 hx
            rw [HB.out]
            go_enter Try.func74, Try.ntmps74
            go_wp2_with fail
            refine (U0.out _).mono ?_
            rintro e _ ⟨rfl, rfl⟩
            go_wp2_with fail
            refine (U1.out _).mono ?_
            rintro e _ ⟨rfl, rfl⟩
            go_wp2_with fail
            refine (U2.out _).mono ?_
            rintro e _ ⟨rfl, rfl⟩
            go_wp2_with fail
            go_ret
            exact ⟨rfl, bel⟩
        · skip
          have HB := hid (show bareB ⟨3, 0, 0, ok, oa, ob, n, m⟩ = false by simp [bareB, useT, useNum, useOp, useN, useM, hx])
          have hx := beq_eq_false_iff_ne.2 hx
          rw [HB.out]
          go_enter Try.func74, Try.ntmps74
          go_wp2_with fail
          refine (U0.out _).mono ?_
          rintro e _ ⟨rfl, rfl⟩
          go_wp2_with fail
          refine (U1.out _).mono ?_
          rintro e _ ⟨rfl, rfl⟩
          go_wp2_with fail
          refine (U2.out _).mono ?_
          rintro e _ ⟨rfl, rfl⟩
          go_wp2_with fail
          go_ret
          exact ⟨rfl, bel⟩
      · skip
        have HB := hid (show bareB ⟨3, 0, num, ok, oa, ob, n, m⟩ = false by simp [bareB, useT, useNum, useOp, useN, useM, hx])
        have hx := beq_eq_false_iff_ne.2 hx
        rw [HB.out]
        go_enter Try.func74, Try.ntmps74
        go_wp2_with fail
        refine (U0.out _).mono ?_
        rintro e _ ⟨rfl, rfl⟩
        go_wp2_with fail
        refine (U1.out _).mono ?_
        rintro e _ ⟨rfl, rfl⟩
        go_wp2_with fail
        go_ret
        exact ⟨rfl, bel⟩
    · skip
      have HB := hid (show bareB ⟨3, t, num, ok, oa, ob, n, m⟩ = false by simp [bareB, useT, useNum, useOp, useN, useM, hx])
      have hx := beq_eq_false_iff_ne.2 hx
      rw [HB.out]
      go_enter Try.func74, Try.ntmps74
      go_wp2_with fail
      refine (U0.out _).mono ?_
      rintro e _ ⟨rfl, rfl⟩
      go_wp2_with fail
      go_ret
      exact ⟨rfl, bel⟩
  · skip
    have U0 := hidAll fun w => (show Calls Try.prog 76 #[.int .i64 5, .int .i64 0] w fun e w' => e = .returned (.bool false) ∧ w = w' from ref32useT 5 w)
    have U1 := hidAll fun w => (show Calls Try.prog 76 #[.int .i64 5, .int .i64 1] w fun e w' => e = .returned (.bool false) ∧ w = w' from ref32useNum 5 w)
    have U2 := hidAll fun w => (show Calls Try.prog 76 #[.int .i64 5, .int .i64 2] w fun e w' => e = .returned (.bool false) ∧ w = w' from ref32useOp 5 w)
    have U3 := hidAll fun w => (show Calls Try.prog 76 #[.int .i64 5, .int .i64 3] w fun e w' => e = .returned (.bool true) ∧ w = w' from ref32useN 5 w)
    have U4 := hidAll fun w => (show Calls Try.prog 76 #[.int .i64 5, .int .i64 4] w fun e w' => e = .returned (.bool false) ∧ w = w' from ref32useM 5 w)
    by_cases hx : t = 0
    · subst hx
      by_cases hx : num = 0
      · subst hx
        by_cases hx : ok = 0
        · subst hx
          by_cases hx : oa = 0
          · subst hx
            by_cases hx : ob = 0
            · subst hx
              by_cases hx : m = 0
              · subst hx
                have HB := hid (show bareB ⟨5, 0, 0, 0, 0, 0, n, 0⟩ = true by simp [bareB, useT, useNum, useOp, useN, useM])
                rw [HB.out]
                go_enter Try.func74, Try.ntmps74
                go_wp2_with fail
                refine (U0.out _).mono ?_
                rintro e _ ⟨rfl, rfl⟩
                go_wp2_with fail
                refine (U1.out _).mono ?_
                rintro e _ ⟨rfl, rfl⟩
                go_wp2_with fail
                refine (U2.out _).mono ?_
                rintro e _ ⟨rfl, rfl⟩
                go_wp2_with fail
                refine (U3.out _).mono ?_
                rintro e _ ⟨rfl, rfl⟩
                go_wp2_with fail
                refine (U4.out _).mono ?_
                rintro e _ ⟨rfl, rfl⟩
                go_wp2_with fail
                go_ret
                exact ⟨rfl, bel⟩
              · skip
                have HB := hid (show bareB ⟨5, 0, 0, 0, 0, 0, n, m⟩ = false by simp [bareB, useT, useNum, useOp, useN, useM, hx])
                have hx := beq_eq_false_iff_ne.2 hx
                rw [HB.out]
                go_enter Try.func74, Try.ntmps74
                go_wp2_with fail
                refine (U0.out _).mono ?_
                rintro e _ ⟨rfl, rfl⟩
                go_wp2_with fail
                refine (U1.out _).mono ?_
                rintro e _ ⟨rfl, rfl⟩
                go_wp2_with fail
                refine (U2.out _).mono ?_
                rintro e _ ⟨rfl, rfl⟩
                go_wp2_with fail
                refine (U3.out _).mono ?_
                rintro e _ ⟨rfl, rfl⟩
                go_wp2_with fail
                refine (U4.out _).mono ?_
                rintro e _ ⟨rfl, rfl⟩
                go_wp2_with fail
                go_ret
                exact ⟨rfl, bel⟩
            · skip
              have HB := hid (show bareB ⟨5, 0, 0, 0, 0, ob, n, m⟩ = false by simp [bareB, useT, useNum, useOp, useN, useM, hx])
              have hx := beq_eq_false_iff_ne.2 hx
              rw [HB.out]
              go_enter Try.func74, Try.ntmps74
              go_wp2_with fail
              refine (U0.out _).mono ?_
              rintro e _ ⟨rfl, rfl⟩
              go_wp2_with fail
              refine (U1.out _).mono ?_
              rintro e _ ⟨rfl, rfl⟩
              go_wp2_with fail
              refine (U2.out _).mono ?_
              rintro e _ ⟨rfl, rfl⟩
              go_wp2_with fail
              go_ret
              exact ⟨rfl, bel⟩
          · skip
            have HB := hid (show bareB ⟨5, 0, 0, 0, oa, ob, n, m⟩ = false by simp [bareB, useT, useNum, useOp, useN, useM, hx])
            have hx := beq_eq_false_iff_ne.2 hx
            rw [HB.out]
            go_enter Try.func74, Try.ntmps74
            go_wp2_with fail
            refine (U0.out _).mono ?_
            rintro e _ ⟨rfl, rfl⟩
            go_wp2_with fail
            refine (U1.out _).mono ?_
            rintro e _ ⟨rfl, rfl⟩
            go_wp2_with fail
            refine (U2.out _).mono ?_
            rintro e _ ⟨rfl, rfl⟩
            go_wp2_with fail
            go_ret
            exact ⟨rfl, bel⟩
        · skip
          have HB := hid (show bareB ⟨5, 0, 0, ok, oa, ob, n, m⟩ = false by simp [bareB, useT, useNum, useOp, useN, useM, hx])
          have hx := beq_eq_false_iff_ne.2 hx
          rw [HB.out]
          go_enter Try.func74, Try.ntmps74
          go_wp2_with fail
          refine (U0.out _).mono ?_
          rintro e _ ⟨rfl, rfl⟩
          go_wp2_with fail
          refine (U1.out _).mono ?_
          rintro e _ ⟨rfl, rfl⟩
          go_wp2_with fail
          refine (U2.out _).mono ?_
          rintro e _ ⟨rfl, rfl⟩
          go_wp2_with fail
          go_ret
          exact ⟨rfl, bel⟩
      · skip
        have HB := hid (show bareB ⟨5, 0, num, ok, oa, ob, n, m⟩ = false by simp [bareB, useT, useNum, useOp, useN, useM, hx])
        have hx := beq_eq_false_iff_ne.2 hx
        rw [HB.out]
        go_enter Try.func74, Try.ntmps74
        go_wp2_with fail
        refine (U0.out _).mono ?_
        rintro e _ ⟨rfl, rfl⟩
        go_wp2_with fail
        refine (U1.out _).mono ?_
        rintro e _ ⟨rfl, rfl⟩
        go_wp2_with fail
        go_ret
        exact ⟨rfl, bel⟩
    · skip
      have HB := hid (show bareB ⟨5, t, num, ok, oa, ob, n, m⟩ = false by simp [bareB, useT, useNum, useOp, useN, useM, hx])
      have hx := beq_eq_false_iff_ne.2 hx
      rw [HB.out]
      go_enter Try.func74, Try.ntmps74
      go_wp2_with fail
      refine (U0.out _).mono ?_
      rintro e _ ⟨rfl, rfl⟩
      go_wp2_with fail
      go_ret
      exact ⟨rfl, bel⟩
  · skip
    have U0 := hidAll fun w => (show Calls Try.prog 76 #[.int .i64 6, .int .i64 0] w fun e w' => e = .returned (.bool true) ∧ w = w' from ref32useT 6 w)
    have U1 := hidAll fun w => (show Calls Try.prog 76 #[.int .i64 6, .int .i64 1] w fun e w' => e = .returned (.bool true) ∧ w = w' from ref32useNum 6 w)
    have U2 := hidAll fun w => (show Calls Try.prog 76 #[.int .i64 6, .int .i64 2] w fun e w' => e = .returned (.bool false) ∧ w = w' from ref32useOp 6 w)
    have U3 := hidAll fun w => (show Calls Try.prog 76 #[.int .i64 6, .int .i64 3] w fun e w' => e = .returned (.bool false) ∧ w = w' from ref32useN 6 w)
    have U4 := hidAll fun w => (show Calls Try.prog 76 #[.int .i64 6, .int .i64 4] w fun e w' => e = .returned (.bool false) ∧ w = w' from ref32useM 6 w)
    by_cases hx : ok = 0
    · subst hx
      by_cases hx : oa = 0
      · subst hx
        by_cases hx : ob = 0
        · subst hx
          by_cases hx : n = 0
          · subst hx
            by_cases hx : m = 0
            · subst hx
              have HB := hid (show bareB ⟨6, t, num, 0, 0, 0, 0, 0⟩ = true by simp [bareB, useT, useNum, useOp, useN, useM])
              rw [HB.out]
              go_enter Try.func74, Try.ntmps74
              go_wp2_with fail
              refine (U0.out _).mono ?_
              rintro e _ ⟨rfl, rfl⟩
              go_wp2_with fail
              refine (U1.out _).mono ?_
              rintro e _ ⟨rfl, rfl⟩
              go_wp2_with fail
              refine (U2.out _).mono ?_
              rintro e _ ⟨rfl, rfl⟩
              go_wp2_with fail
              refine (U3.out _).mono ?_
              rintro e _ ⟨rfl, rfl⟩
              go_wp2_with fail
              refine (U4.out _).mono ?_
              rintro e _ ⟨rfl, rfl⟩
              go_wp2_with fail
              go_ret
              exact ⟨rfl, bel⟩
            · skip
              have HB := hid (show bareB ⟨6, t, num, 0, 0, 0, 0, m⟩ = false by simp [bareB, useT, useNum, useOp, useN, useM, hx])
              have hx := beq_eq_false_iff_ne.2 hx
              rw [HB.out]
              go_enter Try.func74, Try.ntmps74
              go_wp2_with fail
              refine (U0.out _).mono ?_
              rintro e _ ⟨rfl, rfl⟩
              go_wp2_with fail
              refine (U1.out _).mono ?_
              rintro e _ ⟨rfl, rfl⟩
              go_wp2_with fail
              refine (U2.out _).mono ?_
              rintro e _ ⟨rfl, rfl⟩
              go_wp2_with fail
              refine (U3.out _).mono ?_
              rintro e _ ⟨rfl, rfl⟩
              go_wp2_with fail
              refine (U4.out _).mono ?_
              rintro e _ ⟨rfl, rfl⟩
              go_wp2_with fail
              go_ret
              exact ⟨rfl, bel⟩
          · skip
            have HB := hid (show bareB ⟨6, t, num, 0, 0, 0, n, m⟩ = false by simp [bareB, useT, useNum, useOp, useN, useM, hx])
            have hx := beq_eq_false_iff_ne.2 hx
            rw [HB.out]
            go_enter Try.func74, Try.ntmps74
            go_wp2_with fail
            refine (U0.out _).mono ?_
            rintro e _ ⟨rfl, rfl⟩
            go_wp2_with fail
            refine (U1.out _).mono ?_
            rintro e _ ⟨rfl, rfl⟩
            go_wp2_with fail
            refine (U2.out _).mono ?_
            rintro e _ ⟨rfl, rfl⟩
            go_wp2_with fail
            refine (U3.out _).mono ?_
            rintro e _ ⟨rfl, rfl⟩
            go_wp2_with fail
            go_ret
            exact ⟨rfl, bel⟩
        · skip
          have HB := hid (show bareB ⟨6, t, num, 0, 0, ob, n, m⟩ = false by simp [bareB, useT, useNum, useOp, useN, useM, hx])
          have hx := beq_eq_false_iff_ne.2 hx
          rw [HB.out]
          go_enter Try.func74, Try.ntmps74
          go_wp2_with fail
          refine (U0.out _).mono ?_
          rintro e _ ⟨rfl, rfl⟩
          go_wp2_with fail
          refine (U1.out _).mono ?_
          rintro e _ ⟨rfl, rfl⟩
          go_wp2_with fail
          refine (U2.out _).mono ?_
          rintro e _ ⟨rfl, rfl⟩
          go_wp2_with fail
          go_ret
          exact ⟨rfl, bel⟩
      · skip
        have HB := hid (show bareB ⟨6, t, num, 0, oa, ob, n, m⟩ = false by simp [bareB, useT, useNum, useOp, useN, useM, hx])
        have hx := beq_eq_false_iff_ne.2 hx
        rw [HB.out]
        go_enter Try.func74, Try.ntmps74
        go_wp2_with fail
        refine (U0.out _).mono ?_
        rintro e _ ⟨rfl, rfl⟩
        go_wp2_with fail
        refine (U1.out _).mono ?_
        rintro e _ ⟨rfl, rfl⟩
        go_wp2_with fail
        refine (U2.out _).mono ?_
        rintro e _ ⟨rfl, rfl⟩
        go_wp2_with fail
        go_ret
        exact ⟨rfl, bel⟩
    · skip
      have HB := hid (show bareB ⟨6, t, num, ok, oa, ob, n, m⟩ = false by simp [bareB, useT, useNum, useOp, useN, useM, hx])
      have hx := beq_eq_false_iff_ne.2 hx
      rw [HB.out]
      go_enter Try.func74, Try.ntmps74
      go_wp2_with fail
      refine (U0.out _).mono ?_
      rintro e _ ⟨rfl, rfl⟩
      go_wp2_with fail
      refine (U1.out _).mono ?_
      rintro e _ ⟨rfl, rfl⟩
      go_wp2_with fail
      refine (U2.out _).mono ?_
      rintro e _ ⟨rfl, rfl⟩
      go_wp2_with fail
      go_ret
      exact ⟨rfl, bel⟩
  · skip
    have U0 := hidAll fun w => (show Calls Try.prog 76 #[.int .i64 k, .int .i64 0] w fun e w' => e = .returned (.bool false) ∧ w = w' from by have h := ref32useT k w; rw [show useT k = false by simp [useT, h1, h2, h3, h5, h6]] at h; exact h)
    have U1 := hidAll fun w => (show Calls Try.prog 76 #[.int .i64 k, .int .i64 1] w fun e w' => e = .returned (.bool false) ∧ w = w' from by have h := ref32useNum k w; rw [show useNum k = false by simp [useNum, h1, h2, h3, h5, h6]] at h; exact h)
    have U2 := hidAll fun w => (show Calls Try.prog 76 #[.int .i64 k, .int .i64 2] w fun e w' => e = .returned (.bool false) ∧ w = w' from by have h := ref32useOp k w; rw [show useOp k = false by simp [useOp, h1, h2, h3, h5, h6]] at h; exact h)
    have U3 := hidAll fun w => (show Calls Try.prog 76 #[.int .i64 k, .int .i64 3] w fun e w' => e = .returned (.bool false) ∧ w = w' from by have h := ref32useN k w; rw [show useN k = false by simp [useN, h1, h2, h3, h5, h6]] at h; exact h)
    have U4 := hidAll fun w => (show Calls Try.prog 76 #[.int .i64 k, .int .i64 4] w fun e w' => e = .returned (.bool false) ∧ w = w' from by have h := ref32useM k w; rw [show useM k = false by simp [useM, h1, h2, h3, h5, h6]] at h; exact h)
    by_cases hx : t = 0
    · subst hx
      by_cases hx : num = 0
      · subst hx
        by_cases hx : ok = 0
        · subst hx
          by_cases hx : oa = 0
          · subst hx
            by_cases hx : ob = 0
            · subst hx
              by_cases hx : n = 0
              · subst hx
                by_cases hx : m = 0
                · subst hx
                  have HB := hid (show bareB ⟨k, 0, 0, 0, 0, 0, 0, 0⟩ = true by simp [bareB, useT, useNum, useOp, useN, useM, h1, h2, h3, h5, h6])
                  clear h1 h2 h3 h5 h6
                  rw [HB.out]
                  go_enter Try.func74, Try.ntmps74
                  go_wp2_with fail
                  refine (U0.out _).mono ?_
                  rintro e _ ⟨rfl, rfl⟩
                  go_wp2_with fail
                  refine (U1.out _).mono ?_
                  rintro e _ ⟨rfl, rfl⟩
                  go_wp2_with fail
                  refine (U2.out _).mono ?_
                  rintro e _ ⟨rfl, rfl⟩
                  go_wp2_with fail
                  refine (U3.out _).mono ?_
                  rintro e _ ⟨rfl, rfl⟩
                  go_wp2_with fail
                  refine (U4.out _).mono ?_
                  rintro e _ ⟨rfl, rfl⟩
                  go_wp2_with fail
                  go_ret
                  exact ⟨rfl, bel⟩
                · skip
                  have HB := hid (show bareB ⟨k, 0, 0, 0, 0, 0, 0, m⟩ = false by simp [bareB, useT, useNum, useOp, useN, useM, h1, h2, h3, h5, h6, hx])
                  have hx := beq_eq_false_iff_ne.2 hx
                  clear h1 h2 h3 h5 h6
                  rw [HB.out]
                  go_enter Try.func74, Try.ntmps74
                  go_wp2_with fail
                  refine (U0.out _).mono ?_
                  rintro e _ ⟨rfl, rfl⟩
                  go_wp2_with fail
                  refine (U1.out _).mono ?_
                  rintro e _ ⟨rfl, rfl⟩
                  go_wp2_with fail
                  refine (U2.out _).mono ?_
                  rintro e _ ⟨rfl, rfl⟩
                  go_wp2_with fail
                  refine (U3.out _).mono ?_
                  rintro e _ ⟨rfl, rfl⟩
                  go_wp2_with fail
                  refine (U4.out _).mono ?_
                  rintro e _ ⟨rfl, rfl⟩
                  go_wp2_with fail
                  go_ret
                  exact ⟨rfl, bel⟩
              · skip
                have HB := hid (show bareB ⟨k, 0, 0, 0, 0, 0, n, m⟩ = false by simp [bareB, useT, useNum, useOp, useN, useM, h1, h2, h3, h5, h6, hx])
                have hx := beq_eq_false_iff_ne.2 hx
                clear h1 h2 h3 h5 h6
                rw [HB.out]
                go_enter Try.func74, Try.ntmps74
                go_wp2_with fail
                refine (U0.out _).mono ?_
                rintro e _ ⟨rfl, rfl⟩
                go_wp2_with fail
                refine (U1.out _).mono ?_
                rintro e _ ⟨rfl, rfl⟩
                go_wp2_with fail
                refine (U2.out _).mono ?_
                rintro e _ ⟨rfl, rfl⟩
                go_wp2_with fail
                refine (U3.out _).mono ?_
                rintro e _ ⟨rfl, rfl⟩
                go_wp2_with fail
                go_ret
                exact ⟨rfl, bel⟩
            · skip
              have HB := hid (show bareB ⟨k, 0, 0, 0, 0, ob, n, m⟩ = false by simp [bareB, useT, useNum, useOp, useN, useM, h1, h2, h3, h5, h6, hx])
              have hx := beq_eq_false_iff_ne.2 hx
              clear h1 h2 h3 h5 h6
              rw [HB.out]
              go_enter Try.func74, Try.ntmps74
              go_wp2_with fail
              refine (U0.out _).mono ?_
              rintro e _ ⟨rfl, rfl⟩
              go_wp2_with fail
              refine (U1.out _).mono ?_
              rintro e _ ⟨rfl, rfl⟩
              go_wp2_with fail
              refine (U2.out _).mono ?_
              rintro e _ ⟨rfl, rfl⟩
              go_wp2_with fail
              go_ret
              exact ⟨rfl, bel⟩
          · skip
            have HB := hid (show bareB ⟨k, 0, 0, 0, oa, ob, n, m⟩ = false by simp [bareB, useT, useNum, useOp, useN, useM, h1, h2, h3, h5, h6, hx])
            have hx := beq_eq_false_iff_ne.2 hx
            clear h1 h2 h3 h5 h6
            rw [HB.out]
            go_enter Try.func74, Try.ntmps74
            go_wp2_with fail
            refine (U0.out _).mono ?_
            rintro e _ ⟨rfl, rfl⟩
            go_wp2_with fail
            refine (U1.out _).mono ?_
            rintro e _ ⟨rfl, rfl⟩
            go_wp2_with fail
            refine (U2.out _).mono ?_
            rintro e _ ⟨rfl, rfl⟩
            go_wp2_with fail
            go_ret
            exact ⟨rfl, bel⟩
        · skip
          have HB := hid (show bareB ⟨k, 0, 0, ok, oa, ob, n, m⟩ = false by simp [bareB, useT, useNum, useOp, useN, useM, h1, h2, h3, h5, h6, hx])
          have hx := beq_eq_false_iff_ne.2 hx
          clear h1 h2 h3 h5 h6
          rw [HB.out]
          go_enter Try.func74, Try.ntmps74
          go_wp2_with fail
          refine (U0.out _).mono ?_
          rintro e _ ⟨rfl, rfl⟩
          go_wp2_with fail
          refine (U1.out _).mono ?_
          rintro e _ ⟨rfl, rfl⟩
          go_wp2_with fail
          refine (U2.out _).mono ?_
          rintro e _ ⟨rfl, rfl⟩
          go_wp2_with fail
          go_ret
          exact ⟨rfl, bel⟩
      · skip
        have HB := hid (show bareB ⟨k, 0, num, ok, oa, ob, n, m⟩ = false by simp [bareB, useT, useNum, useOp, useN, useM, h1, h2, h3, h5, h6, hx])
        have hx := beq_eq_false_iff_ne.2 hx
        clear h1 h2 h3 h5 h6
        rw [HB.out]
        go_enter Try.func74, Try.ntmps74
        go_wp2_with fail
        refine (U0.out _).mono ?_
        rintro e _ ⟨rfl, rfl⟩
        go_wp2_with fail
        refine (U1.out _).mono ?_
        rintro e _ ⟨rfl, rfl⟩
        go_wp2_with fail
        go_ret
        exact ⟨rfl, bel⟩
    · skip
      have HB := hid (show bareB ⟨k, t, num, ok, oa, ob, n, m⟩ = false by simp [bareB, useT, useNum, useOp, useN, useM, h1, h2, h3, h5, h6, hx])
      have hx := beq_eq_false_iff_ne.2 hx
      clear h1 h2 h3 h5 h6
      rw [HB.out]
      go_enter Try.func74, Try.ntmps74
      go_wp2_with fail
      refine (U0.out _).mono ?_
      rintro e _ ⟨rfl, rfl⟩
      go_wp2_with fail
      go_ret
      exact ⟨rfl, bel⟩
end Go.Proofs.Ytpeeaapheohehaa
