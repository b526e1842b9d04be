/- The walk of the reference's Encode of entries. -/
import Derived.Test.YtpeeaapheohehaaEnEnc
import Derived.Test.YtpeeaapheohehaaEnRefUses
namespace Go.Proofs.Ytpeeaapheohehaa
open Go.RowKit
set_option linter.unusedVariables false
set_option linter.unusedSimpArgs false

set_option maxRecDepth 100000 in
set_option maxHeartbeats 6400000 in
theorem ref32encNo (k t num ok oa ob n m : Int) (w : World) (h : encB ⟨k, t, num, ok, oa, ob, n, m⟩ = false) : Calls Try.prog 20 #[.agg #[.int .i64 k, .int .i64 t, .int .i64 num, .int .i64 ok, .int .i64 oa, .int .i64 ob, .int .i64 n, .int .i64 m]] w (EncPost w ⟨k, t, num, ok, oa, ob, n, m⟩) := by
  have E := hid h
  by_cases k0 : k < 0
  · clear h
    go_enter Try.func20, Try.ntmps20
    go_wp2_with fail
    go_ret2
    exact .inr ⟨E.out, rfl, bel⟩
  by_cases k6 : 6 < k
  · clear h
    go_enter Try.func20, Try.ntmps20
    go_wp2_with fail
    go_ret2
    exact .inr ⟨E.out, rfl, bel⟩
  have k0 : 0 ≤ k := by omega
  have k6 : k ≤ 6 := by omega
  have BR := hidAll fun w => ref32bare k t num ok oa ob n m w
  by_cases hb : bareB ⟨k, t, num, ok, oa, ob, n, m⟩ = true
  · rw [hb] at BR
    have hg : goesB ⟨k, t, num, ok, oa, ob, n, m⟩ = false := by
      rw [encB, hb, Bool.and_true] at h
      have hd : decide (0 ≤ k ∧ k ≤ 6) = true := decide_eq_true ⟨k0, k6⟩
      simp only [hd, Bool.true_and] at h
      exact h
    clear h hb
    by_cases g0 : 0 ≤ t ∧ t ≤ 255
    · skip
      by_cases g1 : 0 ≤ num ∧ num ≤ 4294967295
      · skip
        by_cases g2 : 0 ≤ ok ∧ ok ≤ 255
        · skip
          by_cases g3 : 0 ≤ n ∧ n ≤ 65535
          · skip
            by_cases g4 : 0 ≤ m ∧ m ≤ 255
            · exact absurd (show goesB ⟨k, t, num, ok, oa, ob, n, m⟩ = true from decide_eq_true ⟨g0, g1, g2, g3, g4⟩) (by rw [hg]; decide)
            · clear hg
              have G0 := hidAll fun w => ref32goes t 255 w
              rw [decide_eq_true g0] at G0
              have G1 := hidAll fun w => ref32goes num 4294967295 w
              rw [decide_eq_true g1] at G1
              have G2 := hidAll fun w => ref32goes ok 255 w
              rw [decide_eq_true g2] at G2
              have G3 := hidAll fun w => ref32goes n 65535 w
              rw [decide_eq_true g3] at G3
              have G4 := hidAll fun w => ref32goes m 255 w
              rw [decide_eq_false g4] at G4
              clear g0 g1 g2 g3 g4
              go_enter Try.func20, Try.ntmps20
              go_wp2_with fail
              refine (BR.out _).mono ?_
              rintro e w1 ⟨rfl, hb1⟩
              have hk1 := blkT_call hb1 (blkT_new (W := w) (T := 32) rfl)
              have hB1 : Below w.heap.size w w1 := bel
              clear hb1
              have c0 : w1.cell? ⟨w.heap.size, 0, none⟩ = some (.int .i64 k) := blkT_cell hk1 rfl
              have c1 : w1.cell? ⟨w.heap.size, 1, none⟩ = some (.int .i64 t) := blkT_cell hk1 rfl
              have c2 : w1.cell? ⟨w.heap.size, 2, none⟩ = some (.int .i64 num) := blkT_cell hk1 rfl
              have c3 : w1.cell? ⟨w.heap.size, 3, none⟩ = some (.int .i64 ok) := blkT_cell hk1 rfl
              have c4 : w1.cell? ⟨w.heap.size, 4, none⟩ = some (.int .i64 oa) := blkT_cell hk1 rfl
              have c5 : w1.cell? ⟨w.heap.size, 5, none⟩ = some (.int .i64 ob) := blkT_cell hk1 rfl
              have c6 : w1.cell? ⟨w.heap.size, 6, none⟩ = some (.int .i64 n) := blkT_cell hk1 rfl
              have c7 : w1.cell? ⟨w.heap.size, 7, none⟩ = some (.int .i64 m) := blkT_cell hk1 rfl
              go_wp2_with fail
              refine (G0.out _).mono ?_
              rintro e _ ⟨rfl, rfl⟩
              go_wp2_with fail
              refine (G1.out _).mono ?_
              rintro e _ ⟨rfl, rfl⟩
              go_wp2_with fail
              refine (G2.out _).mono ?_
              rintro e _ ⟨rfl, rfl⟩
              go_wp2_with fail
              refine (G3.out _).mono ?_
              rintro e _ ⟨rfl, rfl⟩
              go_wp2_with fail
              refine (G4.out _).mono ?_
              rintro e _ ⟨rfl, rfl⟩
              go_wp2_with fail
              go_ret2
              exact .inr ⟨E.out, rfl, hB1⟩
          · clear hg
            have G0 := hidAll fun w => ref32goes t 255 w
            rw [decide_eq_true g0] at G0
            have G1 := hidAll fun w => ref32goes num 4294967295 w
            rw [decide_eq_true g1] at G1
            have G2 := hidAll fun w => ref32goes ok 255 w
            rw [decide_eq_true g2] at G2
            have G3 := hidAll fun w => ref32goes n 65535 w
            rw [decide_eq_false g3] at G3
            clear g0 g1 g2 g3
            go_enter Try.func20, Try.ntmps20
            go_wp2_with fail
            refine (BR.out _).mono ?_
            rintro e w1 ⟨rfl, hb1⟩
            have hk1 := blkT_call hb1 (blkT_new (W := w) (T := 32) rfl)
            have hB1 : Below w.heap.size w w1 := bel
            clear hb1
            have c0 : w1.cell? ⟨w.heap.size, 0, none⟩ = some (.int .i64 k) := blkT_cell hk1 rfl
            have c1 : w1.cell? ⟨w.heap.size, 1, none⟩ = some (.int .i64 t) := blkT_cell hk1 rfl
            have c2 : w1.cell? ⟨w.heap.size, 2, none⟩ = some (.int .i64 num) := blkT_cell hk1 rfl
            have c3 : w1.cell? ⟨w.heap.size, 3, none⟩ = some (.int .i64 ok) := blkT_cell hk1 rfl
            have c4 : w1.cell? ⟨w.heap.size, 4, none⟩ = some (.int .i64 oa) := blkT_cell hk1 rfl
            have c5 : w1.cell? ⟨w.heap.size, 5, none⟩ = some (.int .i64 ob) := blkT_cell hk1 rfl
            have c6 : w1.cell? ⟨w.heap.size, 6, none⟩ = some (.int .i64 n) := blkT_cell hk1 rfl
            have c7 : w1.cell? ⟨w.heap.size, 7, none⟩ = some (.int .i64 m) := blkT_cell hk1 rfl
            go_wp2_with fail
            refine (G0.out _).mono ?_
            rintro e _ ⟨rfl, rfl⟩
            go_wp2_with fail
            refine (G1.out _).mono ?_
            rintro e _ ⟨rfl, rfl⟩
            go_wp2_with fail
            refine (G2.out _).mono ?_
            rintro e _ ⟨rfl, rfl⟩
            go_wp2_with fail
            refine (G3.out _).mono ?_
            rintro e _ ⟨rfl, rfl⟩
            go_wp2_with fail
            go_ret2
            exact .inr ⟨E.out, rfl, hB1⟩
        · clear hg
          have G0 := hidAll fun w => ref32goes t 255 w
          rw [decide_eq_true g0] at G0
          have G1 := hidAll fun w => ref32goes num 4294967295 w
          rw [decide_eq_true g1] at G1
          have G2 := hidAll fun w => ref32goes ok 255 w
          rw [decide_eq_false g2] at G2
          clear g0 g1 g2
          go_enter Try.func20, Try.ntmps20
          go_wp2_with fail
          refine (BR.out _).mono ?_
          rintro e w1 ⟨rfl, hb1⟩
          have hk1 := blkT_call hb1 (blkT_new (W := w) (T := 32) rfl)
          have hB1 : Below w.heap.size w w1 := bel
          clear hb1
          have c0 : w1.cell? ⟨w.heap.size, 0, none⟩ = some (.int .i64 k) := blkT_cell hk1 rfl
          have c1 : w1.cell? ⟨w.heap.size, 1, none⟩ = some (.int .i64 t) := blkT_cell hk1 rfl
          have c2 : w1.cell? ⟨w.heap.size, 2, none⟩ = some (.int .i64 num) := blkT_cell hk1 rfl
          have c3 : w1.cell? ⟨w.heap.size, 3, none⟩ = some (.int .i64 ok) := blkT_cell hk1 rfl
          have c4 : w1.cell? ⟨w.heap.size, 4, none⟩ = some (.int .i64 oa) := blkT_cell hk1 rfl
          have c5 : w1.cell? ⟨w.heap.size, 5, none⟩ = some (.int .i64 ob) := blkT_cell hk1 rfl
          have c6 : w1.cell? ⟨w.heap.size, 6, none⟩ = some (.int .i64 n) := blkT_cell hk1 rfl
          have c7 : w1.cell? ⟨w.heap.size, 7, none⟩ = some (.int .i64 m) := blkT_cell hk1 rfl
          go_wp2_with fail
          refine (G0.out _).mono ?_
          rintro e _ ⟨rfl, rfl⟩
          go_wp2_with fail
          refine (G1.out _).mono ?_
          rintro e _ ⟨rfl, rfl⟩
          go_wp2_with fail
          refine (G2.out _).mono ?_
          rintro e _ ⟨rfl, rfl⟩
          go_wp2_with fail
          go_ret2
          exact .inr ⟨E.out, rfl, hB1⟩
      · clear hg
        have G0 := hidAll fun w => ref32goes t 255 w
        rw [decide_eq_true g0] at G0
        have G1 := hidAll fun w => ref32goes num 4294967295 w
        rw [decide_eq_false g1] at G1
        clear g0 g1
        go_enter Try.func20, Try.ntmps20
        go_wp2_with fail
        refine (BR.out _).mono ?_
        rintro e w1 ⟨rfl, hb1⟩
        have hk1 := blkT_call hb1 (blkT_new (W := w) (T := 32) rfl)
        have hB1 : Below w.heap.size w w1 := bel
        clear hb1
        have c0 : w1.cell? ⟨w.heap.size, 0, none⟩ = some (.int .i64 k) := blkT_cell hk1 rfl
        have c1 : w1.cell? ⟨w.heap.size, 1, none⟩ = some (.int .i64 t) := blkT_cell hk1 rfl
        have c2 : w1.cell? ⟨w.heap.size, 2, none⟩ = some (.int .i64 num) := blkT_cell hk1 rfl
        have c3 : w1.cell? ⟨w.heap.size, 3, none⟩ = some (.int .i64 ok) := blkT_cell hk1 rfl
        have c4 : w1.cell? ⟨w.heap.size, 4, none⟩ = some (.int .i64 oa) := blkT_cell hk1 rfl
        have c5 : w1.cell? ⟨w.heap.size, 5, none⟩ = some (.int .i64 ob) := blkT_cell hk1 rfl
        have c6 : w1.cell? ⟨w.heap.size, 6, none⟩ = some (.int .i64 n) := blkT_cell hk1 rfl
        have c7 : w1.cell? ⟨w.heap.size, 7, none⟩ = some (.int .i64 m) := blkT_cell hk1 rfl
        go_wp2_with fail
        refine (G0.out _).mono ?_
        rintro e _ ⟨rfl, rfl⟩
        go_wp2_with fail
        refine (G1.out _).mono ?_
        rintro e _ ⟨rfl, rfl⟩
        go_wp2_with fail
        go_ret2
        exact .inr ⟨E.out, rfl, hB1⟩
    · clear hg
      have G0 := hidAll fun w => ref32goes t 255 w
      rw [decide_eq_false g0] at G0
      clear g0
      go_enter Try.func20, Try.ntmps20
      go_wp2_with fail
      refine (BR.out _).mono ?_
      rintro e w1 ⟨rfl, hb1⟩
      have hk1 := blkT_call hb1 (blkT_new (W := w) (T := 32) rfl)
      have hB1 : Below w.heap.size w w1 := bel
      clear hb1
      have c0 : w1.cell? ⟨w.heap.size, 0, none⟩ = some (.int .i64 k) := blkT_cell hk1 rfl
      have c1 : w1.cell? ⟨w.heap.size, 1, none⟩ = some (.int .i64 t) := blkT_cell hk1 rfl
      have c2 : w1.cell? ⟨w.heap.size, 2, none⟩ = some (.int .i64 num) := blkT_cell hk1 rfl
      have c3 : w1.cell? ⟨w.heap.size, 3, none⟩ = some (.int .i64 ok) := blkT_cell hk1 rfl
      have c4 : w1.cell? ⟨w.heap.size, 4, none⟩ = some (.int .i64 oa) := blkT_cell hk1 rfl
      have c5 : w1.cell? ⟨w.heap.size, 5, none⟩ = some (.int .i64 ob) := blkT_cell hk1 rfl
      have c6 : w1.cell? ⟨w.heap.size, 6, none⟩ = some (.int .i64 n) := blkT_cell hk1 rfl
      have c7 : w1.cell? ⟨w.heap.size, 7, none⟩ = some (.int .i64 m) := blkT_cell hk1 rfl
      go_wp2_with fail
      refine (G0.out _).mono ?_
      rintro e _ ⟨rfl, rfl⟩
      go_wp2_with fail
      go_ret2
      exact .inr ⟨E.out, rfl, hB1⟩
  · rw [show bareB ⟨k, t, num, ok, oa, ob, n, m⟩ = false by simpa using hb] at BR
    clear h hb
    go_enter Try.func20, Try.ntmps20
    go_wp2_with fail
    refine (BR.out _).mono ?_
    rintro e w1 ⟨rfl, hb1⟩
    go_wp2_with fail
    go_ret2
    exact .inr ⟨E.out, rfl, bel⟩

set_option maxRecDepth 100000 in
set_option maxHeartbeats 6400000 in
theorem ref32enc0 (w : World)  : Calls Try.prog 20 #[.agg #[.int .i64 0, .int .i64 0, .int .i64 0, .int .i64 0, .int .i64 0, .int .i64 0, .int .i64 0, .int .i64 0]] w (EncPost w ⟨0, 0, 0, 0, 0, 0, 0, 0⟩) := by
  have EB : encB ⟨0, 0, 0, 0, 0, 0, 0, 0⟩ = true := by simp [encB, bareB, goesB, useT, useNum, useOp, useN, useM]
  have EY : bytesE ⟨0, 0, 0, 0, 0, 0, 0, 0⟩ = [0] := by simp [bytesE, useT, useNum, useOp, useN, useM]
  have EB := hid EB
  have EY := hid EY
  have BR := hidAll fun w => (show Calls Try.prog 74 #[.agg #[.int .i64 0, .int .i64 0, .int .i64 0, .int .i64 0, .int .i64 0, .int .i64 0, .int .i64 0, .int .i64 0]] w fun e w' => e = .returned (.bool true) ∧ Below w.heap.size w w' from by have h := ref32bare 0 0 0 0 0 0 0 0 w; rw [show bareB ⟨0, 0, 0, 0, 0, 0, 0, 0⟩ = true by simp [bareB, useT, useNum, useOp, useN, useM]] at h; exact h)
  have G0 := hidAll fun w => (show Calls Try.prog 75 #[.int .i64 0, .int .i64 255] w fun e w' => e = .returned (.bool true) ∧ w = w' from by have h := ref32goes 0 255 w; rw [decide_eq_true (by omega)] at h; exact h)
  have G1 := hidAll fun w => (show Calls Try.prog 75 #[.int .i64 0, .int .i64 4294967295] w fun e w' => e = .returned (.bool true) ∧ w = w' from by have h := ref32goes 0 4294967295 w; rw [decide_eq_true (by omega)] at h; exact h)
  have G2 := hidAll fun w => (show Calls Try.prog 75 #[.int .i64 0, .int .i64 255] w fun e w' => e = .returned (.bool true) ∧ w = w' from by have h := ref32goes 0 255 w; rw [decide_eq_true (by omega)] at h; exact h)
  have G3 := hidAll fun w => (show Calls Try.prog 75 #[.int .i64 0, .int .i64 65535] w fun e w' => e = .returned (.bool true) ∧ w = w' from by have h := ref32goes 0 65535 w; rw [decide_eq_true (by omega)] at h; exact h)
  have G4 := hidAll fun w => (show Calls Try.prog 75 #[.int .i64 0, .int .i64 255] w fun e w' => e = .returned (.bool true) ∧ w = w' from by have h := ref32goes 0 255 w; rw [decide_eq_true (by omega)] at h; exact h)
  have U0 := hidAll fun w => (show Calls Try.prog 76 #[.int .i64 0, .int .i64 0] w fun e w' => e = .returned (.bool false) ∧ w = w' from ref32useT 0 w)
  have U1 := hidAll fun w => (show Calls Try.prog 76 #[.int .i64 0, .int .i64 1] w fun e w' => e = .returned (.bool false) ∧ w = w' from ref32useNum 0 w)
  have U2 := hidAll fun w => (show Calls Try.prog 76 #[.int .i64 0, .int .i64 2] w fun e w' => e = .returned (.bool false) ∧ w = w' from ref32useOp 0 w)
  have U3 := hidAll fun w => (show Calls Try.prog 76 #[.int .i64 0, .int .i64 3] w fun e w' => e = .returned (.bool false) ∧ w = w' from ref32useN 0 w)
  have U4 := hidAll fun w => (show Calls Try.prog 76 #[.int .i64 0, .int .i64 4] w fun e w' => e = .returned (.bool false) ∧ w = w' from ref32useM 0 w)
  go_enter Try.func20, Try.ntmps20
  go_wp2_with fail
  refine (BR.out _).mono ?_
  rintro e w1 ⟨rfl, hb1⟩
  have hk1 := blkT_call hb1 (blkT_new (W := w) (T := 32) rfl)
  have z1 : w.heap.size < w1.heap.size := blkT_lt hk1
  have hB1 : Below w.heap.size w w1 := bel
  clear hb1
  have c0 : w1.cell? ⟨w.heap.size, 0, none⟩ = some (.int .i64 0) := blkT_cell hk1 rfl
  have c1 : w1.cell? ⟨w.heap.size, 1, none⟩ = some (.int .i64 0) := blkT_cell hk1 rfl
  have c2 : w1.cell? ⟨w.heap.size, 2, none⟩ = some (.int .i64 0) := blkT_cell hk1 rfl
  have c3 : w1.cell? ⟨w.heap.size, 3, none⟩ = some (.int .i64 0) := blkT_cell hk1 rfl
  have c4 : w1.cell? ⟨w.heap.size, 4, none⟩ = some (.int .i64 0) := blkT_cell hk1 rfl
  have c5 : w1.cell? ⟨w.heap.size, 5, none⟩ = some (.int .i64 0) := blkT_cell hk1 rfl
  have c6 : w1.cell? ⟨w.heap.size, 6, none⟩ = some (.int .i64 0) := blkT_cell hk1 rfl
  have c7 : w1.cell? ⟨w.heap.size, 7, none⟩ = some (.int .i64 0) := blkT_cell hk1 rfl
  go_wp2_with fail
  refine (G0.out _).mono ?_
  rintro e _ ⟨rfl, rfl⟩
  go_wp2_with fail
  refine (G1.out _).mono ?_
  rintro e _ ⟨rfl, rfl⟩
  go_wp2_with fail
  refine (G2.out _).mono ?_
  rintro e _ ⟨rfl, rfl⟩
  go_wp2_with fail
  refine (G3.out _).mono ?_
  rintro e _ ⟨rfl, rfl⟩
  go_wp2_with fail
  refine (G4.out _).mono ?_
  rintro e _ ⟨rfl, rfl⟩
  clear BR G0 G1 G2 G3 G4
  go_wp2_with fail
  refine (U0.out _).mono ?_
  rintro e _ ⟨rfl, rfl⟩
  have hr : Own 5 .u8 (w1.alloc (.cells #[.int .u8 0] 5)) (w.heap.size + 1) (.slice (some ⟨w1.heap.size, 0, none⟩) 1 1) [0] := Own.built 5 .u8 w1 (w.heap.size + 1) [0] #[.int .u8 0] 1 z1 rfl (by decide) rfl
  have hk : BlkT 32 (w1.alloc (.cells #[.int .u8 0] 5)) w.heap.size #[.int .i64 0, .int .i64 0, .int .i64 0, .int .i64 0, .int .i64 0, .int .i64 0, .int .i64 0, .int .i64 0] := blkT_old hk1
  have hB : Below w.heap.size w (w1.alloc (.cells #[.int .u8 0] 5)) := hB1.alloc (by omega) _
  have zz : w.heap.size + 1 ≤ (w1.alloc (.cells #[.int .u8 0] 5)).heap.size := by simp; omega
  clear hk1 hB1
  go_wp2_with fail
  refine (U1.out _).mono ?_
  rintro e _ ⟨rfl, rfl⟩
  go_wp2_with fail
  refine (U2.out _).mono ?_
  rintro e _ ⟨rfl, rfl⟩
  go_wp2_with fail
  refine (U3.out _).mono ?_
  rintro e _ ⟨rfl, rfl⟩
  go_wp2_with fail
  refine (U4.out _).mono ?_
  rintro e _ ⟨rfl, rfl⟩
  go_wp2_with fail
  have hr : Own 5 .u8 _ w.heap.size _ _ := Own.down hr (show w.heap.size ≤ _ by omega)
  rw [← EY.out] at hr
  go_ret2
  exact .inl ⟨EB.out, _, rfl, hr, hB⟩

set_option maxRecDepth 100000 in
set_option maxHeartbeats 6400000 in
theorem ref32enc1 (t num ok : Nat) (oa ob : Int) (w : World) (ht : t ≤ 255) (hnum : num ≤ 4294967295) (hok : ok ≤ 255) : Calls Try.prog 20 #[.agg #[.int .i64 1, .int .i64 (t : Int), .int .i64 (num : Int), .int .i64 (ok : Int), .int .i64 oa, .int .i64 ob, .int .i64 0, .int .i64 0]] w (EncPost w ⟨1, (t : Int), (num : Int), (ok : Int), oa, ob, 0, 0⟩) := by
  have EB : encB ⟨1, (t : Int), (num : Int), (ok : Int), oa, ob, 0, 0⟩ = true := by simp [encB, bareB, goesB, useT, useNum, useOp, useN, useM]; omega
  have EY : bytesE ⟨1, (t : Int), (num : Int), (ok : Int), oa, ob, 0, 0⟩ = ((((([1] ++ be 1 t) ++ be 4 num) ++ be 1 ok) ++ be 8 (u64N oa)) ++ be 8 (u64N ob)) := by simp [bytesE, useT, useNum, useOp, useN, useM]
  have EB := hid EB
  have EY := hid EY
  have BR := hidAll fun w => (show Calls Try.prog 74 #[.agg #[.int .i64 1, .int .i64 (t : Int), .int .i64 (num : Int), .int .i64 (ok : Int), .int .i64 oa, .int .i64 ob, .int .i64 0, .int .i64 0]] w fun e w' => e = .returned (.bool true) ∧ Below w.heap.size w w' from by have h := ref32bare 1 (t : Int) (num : Int) (ok : Int) oa ob 0 0 w; rw [show bareB ⟨1, (t : Int), (num : Int), (ok : Int), oa, ob, 0, 0⟩ = true by simp [bareB, useT, useNum, useOp, useN, useM]] at h; exact h)
  have G0 := hidAll fun w => (show Calls Try.prog 75 #[.int .i64 (t : Int), .int .i64 255] w fun e w' => e = .returned (.bool true) ∧ w = w' from by have h := ref32goes (t : Int) 255 w; rw [decide_eq_true (by omega)] at h; exact h)
  have G1 := hidAll fun w => (show Calls Try.prog 75 #[.int .i64 (num : Int), .int .i64 4294967295] w fun e w' => e = .returned (.bool true) ∧ w = w' from by have h := ref32goes (num : Int) 4294967295 w; rw [decide_eq_true (by omega)] at h; exact h)
  have G2 := hidAll fun w => (show Calls Try.prog 75 #[.int .i64 (ok : Int), .int .i64 255] w fun e w' => e = .returned (.bool true) ∧ w = w' from by have h := ref32goes (ok : Int) 255 w; rw [decide_eq_true (by omega)] at h; exact h)
  have G3 := hidAll fun w => (show Calls Try.prog 75 #[.int .i64 0, .int .i64 65535] w fun e w' => e = .returned (.bool true) ∧ w = w' from by have h := ref32goes 0 65535 w; rw [decide_eq_true (by omega)] at h; exact h)
  have G4 := hidAll fun w => (show Calls Try.prog 75 #[.int .i64 0, .int .i64 255] w fun e w' => e = .returned (.bool true) ∧ w = w' from by have h := ref32goes 0 255 w; rw [decide_eq_true (by omega)] at h; exact h)
  have U0 := hidAll fun w => (show Calls Try.prog 76 #[.int .i64 1, .int .i64 0] w fun e w' => e = .returned (.bool true) ∧ w = w' from ref32useT 1 w)
  have U1 := hidAll fun w => (show Calls Try.prog 76 #[.int .i64 1, .int .i64 1] w fun e w' => e = .returned (.bool true) ∧ w = w' from ref32useNum 1 w)
  have U2 := hidAll fun w => (show Calls Try.prog 76 #[.int .i64 1, .int .i64 2] w fun e w' => e = .returned (.bool true) ∧ w = w' from ref32useOp 1 w)
  have U3 := hidAll fun w => (show Calls Try.prog 76 #[.int .i64 1, .int .i64 3] w fun e w' => e = .returned (.bool false) ∧ w = w' from ref32useN 1 w)
  have U4 := hidAll fun w => (show Calls Try.prog 76 #[.int .i64 1, .int .i64 4] w fun e w' => e = .returned (.bool false) ∧ w = w' from ref32useM 1 w)
  have Woa : IntKind.u64.wrap oa = ((u64N oa : Nat) : Int) := by rw [IntKind.wrap_u64]; unfold u64N; omega
  have Wob : IntKind.u64.wrap ob = ((u64N ob : Nat) : Int) := by rw [IntKind.wrap_u64]; unfold u64N; omega
  have Loa := hid (u64N_lt oa)
  have Lob := hid (u64N_lt ob)
  go_enter Try.func20, Try.ntmps20
  go_wp2_with fail
  refine (BR.out _).mono ?_
  rintro e w1 ⟨rfl, hb1⟩
  have hk1 := blkT_call hb1 (blkT_new (W := w) (T := 32) rfl)
  have z1 : w.heap.size < w1.heap.size := blkT_lt hk1
  have hB1 : Below w.heap.size w w1 := bel
  clear hb1
  have c0 : w1.cell? ⟨w.heap.size, 0, none⟩ = some (.int .i64 1) := blkT_cell hk1 rfl
  have c1 : w1.cell? ⟨w.heap.size, 1, none⟩ = some (.int .i64 (t : Int)) := blkT_cell hk1 rfl
  have c2 : w1.cell? ⟨w.heap.size, 2, none⟩ = some (.int .i64 (num : Int)) := blkT_cell hk1 rfl
  have c3 : w1.cell? ⟨w.heap.size, 3, none⟩ = some (.int .i64 (ok : Int)) := blkT_cell hk1 rfl
  have c4 : w1.cell? ⟨w.heap.size, 4, none⟩ = some (.int .i64 oa) := blkT_cell hk1 rfl
  have c5 : w1.cell? ⟨w.heap.size, 5, none⟩ = some (.int .i64 ob) := blkT_cell hk1 rfl
  have c6 : w1.cell? ⟨w.heap.size, 6, none⟩ = some (.int .i64 0) := blkT_cell hk1 rfl
  have c7 : w1.cell? ⟨w.heap.size, 7, none⟩ = some (.int .i64 0) := blkT_cell hk1 rfl
  go_wp2_with fail
  refine (G0.out _).mono ?_
  rintro e _ ⟨rfl, rfl⟩
  go_wp2_with fail
  refine (G1.out _).mono ?_
  rintro e _ ⟨rfl, rfl⟩
  go_wp2_with fail
  refine (G2.out _).mono ?_
  rintro e _ ⟨rfl, rfl⟩
  go_wp2_with fail
  refine (G3.out _).mono ?_
  rintro e _ ⟨rfl, rfl⟩
  go_wp2_with fail
  refine (G4.out _).mono ?_
  rintro e _ ⟨rfl, rfl⟩
  clear BR G0 G1 G2 G3 G4
  go_wp2_with fail
  refine (U0.out _).mono ?_
  rintro e _ ⟨rfl, rfl⟩
  have hr : Own 5 .u8 (w1.alloc (.cells #[.int .u8 1] 5)) (w.heap.size + 1) (.slice (some ⟨w1.heap.size, 0, none⟩) 1 1) [1] := Own.built 5 .u8 w1 (w.heap.size + 1) [1] #[.int .u8 1] 1 z1 rfl (by decide) rfl
  have hk : BlkT 32 (w1.alloc (.cells #[.int .u8 1] 5)) w.heap.size #[.int .i64 1, .int .i64 (t : Int), .int .i64 (num : Int), .int .i64 (ok : Int), .int .i64 oa, .int .i64 ob, .int .i64 0, .int .i64 0] := blkT_old hk1
  have hB : Below w.heap.size w (w1.alloc (.cells #[.int .u8 1] 5)) := hB1.alloc (by omega) _
  have zz : w.heap.size + 1 ≤ (w1.alloc (.cells #[.int .u8 1] 5)).heap.size := by simp; omega
  clear hk1 hB1
  go_wp2_with (at_builtin; refine wpAppend rfl (.tmp 56) (.tmp 60) 33 5 rfl .u8 (.int .u8 0) 1 Try.underlying33 infoU8 rfl _ (w.heap.size + 1) _ [1] rfl (hr.kept ((Below.refl _ _).alloc (Nat.le_refl _) _) (Nat.le_refl _)) _ _ _ (be 1 t) rfl (Seen.builtAt .u8 _ (be 1 t) _ _ 1 _ (by first | rfl | (simp; done)) rfl (by decide) (by simp [be]; try omega)) (by simp [be_length, maxLen]) (by simp [be_length]) (by first | omega | (simp; omega)) ?_; intro v2 x2 hown hgrow; have hBq : Below (w.heap.size + 1) (w1.alloc (.cells #[.int .u8 1] 5)) x2 := ((Below.refl _ _).alloc (by first | omega | (simp; omega)) _).grown hgrow (by first | omega | (simp; omega)) (by intro q hq; exact hr.block hq); have hk := blkT_below hBq (Nat.lt_succ_self _) hk; have hB : Below w.heap.size w x2 := hB.trans (hBq.mono (by omega)); have zz : w.heap.size + 1 ≤ x2.heap.size := (by have := hBq.size; omega); have zx2 : w.heap.size < x2.heap.size := (by omega); have hr : Own 5 .u8 x2 (w.heap.size + 1) v2 ([1] ++ be 1 t) := hown; clear hown hgrow hBq; have c0 : x2.cell? ⟨w.heap.size, 0, none⟩ = some (.int .i64 1) := blkT_cell hk rfl; have c1 : x2.cell? ⟨w.heap.size, 1, none⟩ = some (.int .i64 (t : Int)) := blkT_cell hk rfl; have c2 : x2.cell? ⟨w.heap.size, 2, none⟩ = some (.int .i64 (num : Int)) := blkT_cell hk rfl; have c3 : x2.cell? ⟨w.heap.size, 3, none⟩ = some (.int .i64 (ok : Int)) := blkT_cell hk rfl; have c4 : x2.cell? ⟨w.heap.size, 4, none⟩ = some (.int .i64 oa) := blkT_cell hk rfl; have c5 : x2.cell? ⟨w.heap.size, 5, none⟩ = some (.int .i64 ob) := blkT_cell hk rfl; have c6 : x2.cell? ⟨w.heap.size, 6, none⟩ = some (.int .i64 0) := blkT_cell hk rfl; have c7 : x2.cell? ⟨w.heap.size, 7, none⟩ = some (.int .i64 0) := blkT_cell hk rfl; obtain ⟨a2, cap2, hv⟩ := hr.anyForm; subst hv)
  go_wp2_with fail
  refine (U1.out _).mono ?_
  rintro e _ ⟨rfl, rfl⟩
  go_wp2_with fail
  refine (refPut32 num 4 _ (by decide) (by omega)).mono ?_
  rintro e y3 ⟨p3, rfl, hop, hbp⟩
  have hr := hr.kept hbp (Nat.le_refl _)
  have hk := blkT_call hbp hk
  have hB : Below w.heap.size w y3 := hB.trans (hbp.mono (by omega))
  have zz : w.heap.size + 1 ≤ y3.heap.size := by have := hbp.size; omega
  obtain ⟨b3, e3, hv⟩ := hop.anyForm
  subst hv
  have hsr := hop.seen
  clear hbp hop
  go_wp2_with (at_builtin; refine wpAppend rfl (.tmp 65) (.tmp 69) 33 5 rfl .u8 (.int .u8 0) 1 Try.underlying33 infoU8 rfl _ (w.heap.size + 1) _ ([1] ++ be 1 t) rfl hr _ _ _ (be 4 num) rfl hsr (by simp [be_length, maxLen]) (by simp [be_length]) zz ?_; intro v3 x3 hown hgrow; clear hsr; have hBq : Below (w.heap.size + 1) y3 x3 := (Below.refl _ _).grown hgrow (by omega) (by intro q hq; exact hr.block hq); have hk := blkT_below hBq (Nat.lt_succ_self _) hk; have hB : Below w.heap.size w x3 := hB.trans (hBq.mono (by omega)); have zz : w.heap.size + 1 ≤ x3.heap.size := (by have := hBq.size; omega); have zx3 : w.heap.size < x3.heap.size := (by omega); have hr : Own 5 .u8 x3 (w.heap.size + 1) v3 (([1] ++ be 1 t) ++ be 4 num) := hown; clear hown hgrow hBq; have c0 : x3.cell? ⟨w.heap.size, 0, none⟩ = some (.int .i64 1) := blkT_cell hk rfl; have c1 : x3.cell? ⟨w.heap.size, 1, none⟩ = some (.int .i64 (t : Int)) := blkT_cell hk rfl; have c2 : x3.cell? ⟨w.heap.size, 2, none⟩ = some (.int .i64 (num : Int)) := blkT_cell hk rfl; have c3 : x3.cell? ⟨w.heap.size, 3, none⟩ = some (.int .i64 (ok : Int)) := blkT_cell hk rfl; have c4 : x3.cell? ⟨w.heap.size, 4, none⟩ = some (.int .i64 oa) := blkT_cell hk rfl; have c5 : x3.cell? ⟨w.heap.size, 5, none⟩ = some (.int .i64 ob) := blkT_cell hk rfl; have c6 : x3.cell? ⟨w.heap.size, 6, none⟩ = some (.int .i64 0) := blkT_cell hk rfl; have c7 : x3.cell? ⟨w.heap.size, 7, none⟩ = some (.int .i64 0) := blkT_cell hk rfl; obtain ⟨a3, cap3, hv⟩ := hr.anyForm; subst hv)
  go_wp2_with fail
  refine (U2.out _).mono ?_
  rintro e _ ⟨rfl, rfl⟩
  go_wp2_with (at_builtin; refine wpAppend rfl (.tmp 74) (.tmp 79) 33 5 rfl .u8 (.int .u8 0) 1 Try.underlying33 infoU8 rfl _ (w.heap.size + 1) _ (([1] ++ be 1 t) ++ be 4 num) rfl (hr.kept ((Below.refl _ _).alloc (Nat.le_refl _) _) (Nat.le_refl _)) _ _ _ (be 1 ok) rfl (Seen.builtAt .u8 _ (be 1 ok) _ _ 1 _ (by first | rfl | (simp; done)) rfl (by decide) (by simp [be]; try omega)) (by simp [be_length, maxLen]) (by simp [be_length]) (by first | omega | (simp; omega)) ?_; intro v4 x4 hown hgrow; have hBq : Below (w.heap.size + 1) x3 x4 := ((Below.refl _ _).alloc (by first | omega | (simp; omega)) _).grown hgrow (by first | omega | (simp; omega)) (by intro q hq; exact hr.block hq); have hk := blkT_below hBq (Nat.lt_succ_self _) hk; have hB : Below w.heap.size w x4 := hB.trans (hBq.mono (by omega)); have zz : w.heap.size + 1 ≤ x4.heap.size := (by have := hBq.size; omega); have zx4 : w.heap.size < x4.heap.size := (by omega); have hr : Own 5 .u8 x4 (w.heap.size + 1) v4 ((([1] ++ be 1 t) ++ be 4 num) ++ be 1 ok) := hown; clear hown hgrow hBq; have c0 : x4.cell? ⟨w.heap.size, 0, none⟩ = some (.int .i64 1) := blkT_cell hk rfl; have c1 : x4.cell? ⟨w.heap.size, 1, none⟩ = some (.int .i64 (t : Int)) := blkT_cell hk rfl; have c2 : x4.cell? ⟨w.heap.size, 2, none⟩ = some (.int .i64 (num : Int)) := blkT_cell hk rfl; have c3 : x4.cell? ⟨w.heap.size, 3, none⟩ = some (.int .i64 (ok : Int)) := blkT_cell hk rfl; have c4 : x4.cell? ⟨w.heap.size, 4, none⟩ = some (.int .i64 oa) := blkT_cell hk rfl; have c5 : x4.cell? ⟨w.heap.size, 5, none⟩ = some (.int .i64 ob) := blkT_cell hk rfl; have c6 : x4.cell? ⟨w.heap.size, 6, none⟩ = some (.int .i64 0) := blkT_cell hk rfl; have c7 : x4.cell? ⟨w.heap.size, 7, none⟩ = some (.int .i64 0) := blkT_cell hk rfl; obtain ⟨a4, cap4, hv⟩ := hr.anyForm; subst hv)
  go_wp2_with fail
  refine (refPut32 (u64N oa) 8 _ (by decide) Loa.out).mono ?_
  rintro e y5 ⟨p5, rfl, hop, hbp⟩
  have hr := hr.kept hbp (Nat.le_refl _)
  have hk := blkT_call hbp hk
  have hB : Below w.heap.size w y5 := hB.trans (hbp.mono (by omega))
  have zz : w.heap.size + 1 ≤ y5.heap.size := by have := hbp.size; omega
  obtain ⟨b5, e5, hv⟩ := hop.anyForm
  subst hv
  have hsr := hop.seen
  clear hbp hop
  go_wp2_with (at_builtin; refine wpAppend rfl (.tmp 81) (.tmp 86) 33 5 rfl .u8 (.int .u8 0) 1 Try.underlying33 infoU8 rfl _ (w.heap.size + 1) _ ((([1] ++ be 1 t) ++ be 4 num) ++ be 1 ok) rfl hr _ _ _ (be 8 (u64N oa)) rfl hsr (by simp [be_length, maxLen]) (by simp [be_length]) zz ?_; intro v5 x5 hown hgrow; clear hsr; have hBq : Below (w.heap.size + 1) y5 x5 := (Below.refl _ _).grown hgrow (by omega) (by intro q hq; exact hr.block hq); have hk := blkT_below hBq (Nat.lt_succ_self _) hk; have hB : Below w.heap.size w x5 := hB.trans (hBq.mono (by omega)); have zz : w.heap.size + 1 ≤ x5.heap.size := (by have := hBq.size; omega); have zx5 : w.heap.size < x5.heap.size := (by omega); have hr : Own 5 .u8 x5 (w.heap.size + 1) v5 (((([1] ++ be 1 t) ++ be 4 num) ++ be 1 ok) ++ be 8 (u64N oa)) := hown; clear hown hgrow hBq; have c0 : x5.cell? ⟨w.heap.size, 0, none⟩ = some (.int .i64 1) := blkT_cell hk rfl; have c1 : x5.cell? ⟨w.heap.size, 1, none⟩ = some (.int .i64 (t : Int)) := blkT_cell hk rfl; have c2 : x5.cell? ⟨w.heap.size, 2, none⟩ = some (.int .i64 (num : Int)) := blkT_cell hk rfl; have c3 : x5.cell? ⟨w.heap.size, 3, none⟩ = some (.int .i64 (ok : Int)) := blkT_cell hk rfl; have c4 : x5.cell? ⟨w.heap.size, 4, none⟩ = some (.int .i64 oa) := blkT_cell hk rfl; have c5 : x5.cell? ⟨w.heap.size, 5, none⟩ = some (.int .i64 ob) := blkT_cell hk rfl; have c6 : x5.cell? ⟨w.heap.size, 6, none⟩ = some (.int .i64 0) := blkT_cell hk rfl; have c7 : x5.cell? ⟨w.heap.size, 7, none⟩ = some (.int .i64 0) := blkT_cell hk rfl; obtain ⟨a5, cap5, hv⟩ := hr.anyForm; subst hv)
  go_wp2_with fail
  refine (refPut32 (u64N ob) 8 _ (by decide) Lob.out).mono ?_
  rintro e y6 ⟨p6, rfl, hop, hbp⟩
  have hr := hr.kept hbp (Nat.le_refl _)
  have hk := blkT_call hbp hk
  have hB : Below w.heap.size w y6 := hB.trans (hbp.mono (by omega))
  have zz : w.heap.size + 1 ≤ y6.heap.size := by have := hbp.size; omega
  obtain ⟨b6, e6, hv⟩ := hop.anyForm
  subst hv
  have hsr := hop.seen
  clear hbp hop
  go_wp2_with (at_builtin; refine wpAppend rfl (.tmp 88) (.tmp 93) 33 5 rfl .u8 (.int .u8 0) 1 Try.underlying33 infoU8 rfl _ (w.heap.size + 1) _ (((([1] ++ be 1 t) ++ be 4 num) ++ be 1 ok) ++ be 8 (u64N oa)) rfl hr _ _ _ (be 8 (u64N ob)) rfl hsr (by simp [be_length, maxLen]) (by simp [be_length]) zz ?_; intro v6 x6 hown hgrow; clear hsr; have hBq : Below (w.heap.size + 1) y6 x6 := (Below.refl _ _).grown hgrow (by omega) (by intro q hq; exact hr.block hq); have hk := blkT_below hBq (Nat.lt_succ_self _) hk; have hB : Below w.heap.size w x6 := hB.trans (hBq.mono (by omega)); have zz : w.heap.size + 1 ≤ x6.heap.size := (by have := hBq.size; omega); have zx6 : w.heap.size < x6.heap.size := (by omega); have hr : Own 5 .u8 x6 (w.heap.size + 1) v6 ((((([1] ++ be 1 t) ++ be 4 num) ++ be 1 ok) ++ be 8 (u64N oa)) ++ be 8 (u64N ob)) := hown; clear hown hgrow hBq; have c0 : x6.cell? ⟨w.heap.size, 0, none⟩ = some (.int .i64 1) := blkT_cell hk rfl; have c1 : x6.cell? ⟨w.heap.size, 1, none⟩ = some (.int .i64 (t : Int)) := blkT_cell hk rfl; have c2 : x6.cell? ⟨w.heap.size, 2, none⟩ = some (.int .i64 (num : Int)) := blkT_cell hk rfl; have c3 : x6.cell? ⟨w.heap.size, 3, none⟩ = some (.int .i64 (ok : Int)) := blkT_cell hk rfl; have c4 : x6.cell? ⟨w.heap.size, 4, none⟩ = some (.int .i64 oa) := blkT_cell hk rfl; have c5 : x6.cell? ⟨w.heap.size, 5, none⟩ = some (.int .i64 ob) := blkT_cell hk rfl; have c6 : x6.cell? ⟨w.heap.size, 6, none⟩ = some (.int .i64 0) := blkT_cell hk rfl; have c7 : x6.cell? ⟨w.heap.size, 7, none⟩ = some (.int .i64 0) := blkT_cell hk rfl; obtain ⟨a6, cap6, hv⟩ := hr.anyForm; subst hv)
  go_wp2_with fail
  refine (U3.out _).mono ?_
  rintro e _ ⟨rfl, rfl⟩
  go_wp2_with fail
  refine (U4.out _).mono ?_
  rintro e _ ⟨rfl, rfl⟩
  go_wp2_with fail
  have hr : Own 5 .u8 _ w.heap.size _ _ := Own.down hr (show w.heap.size ≤ _ by omega)
  rw [← EY.out] at hr
  go_ret2
  exact .inl ⟨EB.out, _, rfl, hr, hB⟩

set_option maxRecDepth 100000 in
set_option maxHeartbeats 6400000 in
theorem ref32enc2 (t n : Nat) (w : World) (ht : t ≤ 255) (hn : n ≤ 65535) : Calls Try.prog 20 #[.agg #[.int .i64 2, .int .i64 (t : Int), .int .i64 0, .int .i64 0, .int .i64 0, .int .i64 0, .int .i64 (n : Int), .int .i64 0]] w (EncPost w ⟨2, (t : Int), 0, 0, 0, 0, (n : Int), 0⟩) := by
  have EB : encB ⟨2, (t : Int), 0, 0, 0, 0, (n : Int), 0⟩ = true := by simp [encB, bareB, goesB, useT, useNum, useOp, useN, useM]; omega
  have EY : bytesE ⟨2, (t : Int), 0, 0, 0, 0, (n : Int), 0⟩ = (([2] ++ be 1 t) ++ be 2 n) := by simp [bytesE, useT, useNum, useOp, useN, useM]
  have EB := hid EB
  have EY := hid EY
  have BR := hidAll fun w => (show Calls Try.prog 74 #[.agg #[.int .i64 2, .int .i64 (t : Int), .int .i64 0, .int .i64 0, .int .i64 0, .int .i64 0, .int .i64 (n : Int), .int .i64 0]] w fun e w' => e = .returned (.bool true) ∧ Below w.heap.size w w' from by have h := ref32bare 2 (t : Int) 0 0 0 0 (n : Int) 0 w; rw [show bareB ⟨2, (t : Int), 0, 0, 0, 0, (n : Int), 0⟩ = true by simp [bareB, useT, useNum, useOp, useN, useM]] at h; exact h)
  have G0 := hidAll fun w => (show Calls Try.prog 75 #[.int .i64 (t : Int), .int .i64 255] w fun e w' => e = .returned (.bool true) ∧ w = w' from by have h := ref32goes (t : Int) 255 w; rw [decide_eq_true (by omega)] at h; exact h)
  have G1 := hidAll fun w => (show Calls Try.prog 75 #[.int .i64 0, .int .i64 4294967295] w fun e w' => e = .returned (.bool true) ∧ w = w' from by have h := ref32goes 0 4294967295 w; rw [decide_eq_true (by omega)] at h; exact h)
  have G2 := hidAll fun w => (show Calls Try.prog 75 #[.int .i64 0, .int .i64 255] w fun e w' => e = .returned (.bool true) ∧ w = w' from by have h := ref32goes 0 255 w; rw [decide_eq_true (by omega)] at h; exact h)
  have G3 := hidAll fun w => (show Calls Try.prog 75 #[.int .i64 (n : Int), .int .i64 65535] w fun e w' => e = .returned (.bool true) ∧ w = w' from by have h := ref32goes (n : Int) 65535 w; rw [decide_eq_true (by omega)] at h; exact h)
  have G4 := hidAll fun w => (show Calls Try.prog 75 #[.int .i64 0, .int .i64 255] w fun e w' => e = .returned (.bool true) ∧ w = w' from by have h := ref32goes 0 255 w; rw [decide_eq_true (by omega)] at h; exact h)
  have U0 := hidAll fun w => (show Calls Try.prog 76 #[.int .i64 2, .int .i64 0] w fun e w' => e = .returned (.bool true) ∧ w = w' from ref32useT 2 w)
  have U1 := hidAll fun w => (show Calls Try.prog 76 #[.int .i64 2, .int .i64 1] w fun e w' => e = .returned (.bool false) ∧ w = w' from ref32useNum 2 w)
  have U2 := hidAll fun w => (show Calls Try.prog 76 #[.int .i64 2, .int .i64 2] w fun e w' => e = .returned (.bool false) ∧ w = w' from ref32useOp 2 w)
  have U3 := hidAll fun w => (show Calls Try.prog 76 #[.int .i64 2, .int .i64 3] w fun e w' => e = .returned (.bool true) ∧ w = w' from ref32useN 2 w)
  have U4 := hidAll fun w => (show Calls Try.prog 76 #[.int .i64 2, .int .i64 4] w fun e w' => e = .returned (.bool false) ∧ w = w' from ref32useM 2 w)
  go_enter Try.func20, Try.ntmps20
  go_wp2_with fail
  refine (BR.out _).mono ?_
  rintro e w1 ⟨rfl, hb1⟩
  have hk1 := blkT_call hb1 (blkT_new (W := w) (T := 32) rfl)
  have z1 : w.heap.size < w1.heap.size := blkT_lt hk1
  have hB1 : Below w.heap.size w w1 := bel
  clear hb1
  have c0 : w1.cell? ⟨w.heap.size, 0, none⟩ = some (.int .i64 2) := blkT_cell hk1 rfl
  have c1 : w1.cell? ⟨w.heap.size, 1, none⟩ = some (.int .i64 (t : Int)) := blkT_cell hk1 rfl
  have c2 : w1.cell? ⟨w.heap.size, 2, none⟩ = some (.int .i64 0) := blkT_cell hk1 rfl
  have c3 : w1.cell? ⟨w.heap.size, 3, none⟩ = some (.int .i64 0) := blkT_cell hk1 rfl
  have c4 : w1.cell? ⟨w.heap.size, 4, none⟩ = some (.int .i64 0) := blkT_cell hk1 rfl
  have c5 : w1.cell? ⟨w.heap.size, 5, none⟩ = some (.int .i64 0) := blkT_cell hk1 rfl
  have c6 : w1.cell? ⟨w.heap.size, 6, none⟩ = some (.int .i64 (n : Int)) := blkT_cell hk1 rfl
  have c7 : w1.cell? ⟨w.heap.size, 7, none⟩ = some (.int .i64 0) := blkT_cell hk1 rfl
  go_wp2_with fail
  refine (G0.out _).mono ?_
  rintro e _ ⟨rfl, rfl⟩
  go_wp2_with fail
  refine (G1.out _).mono ?_
  rintro e _ ⟨rfl, rfl⟩
  go_wp2_with fail
  refine (G2.out _).mono ?_
  rintro e _ ⟨rfl, rfl⟩
  go_wp2_with fail
  refine (G3.out _).mono ?_
  rintro e _ ⟨rfl, rfl⟩
  go_wp2_with fail
  refine (G4.out _).mono ?_
  rintro e _ ⟨rfl, rfl⟩
  clear BR G0 G1 G2 G3 G4
  go_wp2_with fail
  refine (U0.out _).mono ?_
  rintro e _ ⟨rfl, rfl⟩
  have hr : Own 5 .u8 (w1.alloc (.cells #[.int .u8 2] 5)) (w.heap.size + 1) (.slice (some ⟨w1.heap.size, 0, none⟩) 1 1) [2] := Own.built 5 .u8 w1 (w.heap.size + 1) [2] #[.int .u8 2] 1 z1 rfl (by decide) rfl
  have hk : BlkT 32 (w1.alloc (.cells #[.int .u8 2] 5)) w.heap.size #[.int .i64 2, .int .i64 (t : Int), .int .i64 0, .int .i64 0, .int .i64 0, .int .i64 0, .int .i64 (n : Int), .int .i64 0] := blkT_old hk1
  have hB : Below w.heap.size w (w1.alloc (.cells #[.int .u8 2] 5)) := hB1.alloc (by omega) _
  have zz : w.heap.size + 1 ≤ (w1.alloc (.cells #[.int .u8 2] 5)).heap.size := by simp; omega
  clear hk1 hB1
  go_wp2_with (at_builtin; refine wpAppend rfl (.tmp 56) (.tmp 60) 33 5 rfl .u8 (.int .u8 0) 1 Try.underlying33 infoU8 rfl _ (w.heap.size + 1) _ [2] rfl (hr.kept ((Below.refl _ _).alloc (Nat.le_refl _) _) (Nat.le_refl _)) _ _ _ (be 1 t) rfl (Seen.builtAt .u8 _ (be 1 t) _ _ 1 _ (by first | rfl | (simp; done)) rfl (by decide) (by simp [be]; try omega)) (by simp [be_length, maxLen]) (by simp [be_length]) (by first | omega | (simp; omega)) ?_; intro v2 x2 hown hgrow; have hBq : Below (w.heap.size + 1) (w1.alloc (.cells #[.int .u8 2] 5)) x2 := ((Below.refl _ _).alloc (by first | omega | (simp; omega)) _).grown hgrow (by first | omega | (simp; omega)) (by intro q hq; exact hr.block hq); have hk := blkT_below hBq (Nat.lt_succ_self _) hk; have hB : Below w.heap.size w x2 := hB.trans (hBq.mono (by omega)); have zz : w.heap.size + 1 ≤ x2.heap.size := (by have := hBq.size; omega); have zx2 : w.heap.size < x2.heap.size := (by omega); have hr : Own 5 .u8 x2 (w.heap.size + 1) v2 ([2] ++ be 1 t) := hown; clear hown hgrow hBq; have c0 : x2.cell? ⟨w.heap.size, 0, none⟩ = some (.int .i64 2) := blkT_cell hk rfl; have c1 : x2.cell? ⟨w.heap.size, 1, none⟩ = some (.int .i64 (t : Int)) := blkT_cell hk rfl; have c2 : x2.cell? ⟨w.heap.size, 2, none⟩ = some (.int .i64 0) := blkT_cell hk rfl; have c3 : x2.cell? ⟨w.heap.size, 3, none⟩ = some (.int .i64 0) := blkT_cell hk rfl; have c4 : x2.cell? ⟨w.heap.size, 4, none⟩ = some (.int .i64 0) := blkT_cell hk rfl; have c5 : x2.cell? ⟨w.heap.size, 5, none⟩ = some (.int .i64 0) := blkT_cell hk rfl; have c6 : x2.cell? ⟨w.heap.size, 6, none⟩ = some (.int .i64 (n : Int)) := blkT_cell hk rfl; have c7 : x2.cell? ⟨w.heap.size, 7, none⟩ = some (.int .i64 0) := blkT_cell hk rfl; obtain ⟨a2, cap2, hv⟩ := hr.anyForm; subst hv)
  go_wp2_with fail
  refine (U1.out _).mono ?_
  rintro e _ ⟨rfl, rfl⟩
  go_wp2_with fail
  refine (U2.out _).mono ?_
  rintro e _ ⟨rfl, rfl⟩
  go_wp2_with fail
  refine (U3.out _).mono ?_
  rintro e _ ⟨rfl, rfl⟩
  go_wp2_with fail
  refine (refPut32 n 2 _ (by decide) (by omega)).mono ?_
  rintro e y3 ⟨p3, rfl, hop, hbp⟩
  have hr := hr.kept hbp (Nat.le_refl _)
  have hk := blkT_call hbp hk
  have hB : Below w.heap.size w y3 := hB.trans (hbp.mono (by omega))
  have zz : w.heap.size + 1 ≤ y3.heap.size := by have := hbp.size; omega
  obtain ⟨b3, e3, hv⟩ := hop.anyForm
  subst hv
  have hsr := hop.seen
  clear hbp hop
  go_wp2_with (at_builtin; refine wpAppend rfl (.tmp 98) (.tmp 102) 33 5 rfl .u8 (.int .u8 0) 1 Try.underlying33 infoU8 rfl _ (w.heap.size + 1) _ ([2] ++ be 1 t) rfl hr _ _ _ (be 2 n) rfl hsr (by simp [be_length, maxLen]) (by simp [be_length]) zz ?_; intro v3 x3 hown hgrow; clear hsr; have hBq : Below (w.heap.size + 1) y3 x3 := (Below.refl _ _).grown hgrow (by omega) (by intro q hq; exact hr.block hq); have hk := blkT_below hBq (Nat.lt_succ_self _) hk; have hB : Below w.heap.size w x3 := hB.trans (hBq.mono (by omega)); have zz : w.heap.size + 1 ≤ x3.heap.size := (by have := hBq.size; omega); have zx3 : w.heap.size < x3.heap.size := (by omega); have hr : Own 5 .u8 x3 (w.heap.size + 1) v3 (([2] ++ be 1 t) ++ be 2 n) := hown; clear hown hgrow hBq; have c0 : x3.cell? ⟨w.heap.size, 0, none⟩ = some (.int .i64 2) := blkT_cell hk rfl; have c1 : x3.cell? ⟨w.heap.size, 1, none⟩ = some (.int .i64 (t : Int)) := blkT_cell hk rfl; have c2 : x3.cell? ⟨w.heap.size, 2, none⟩ = some (.int .i64 0) := blkT_cell hk rfl; have c3 : x3.cell? ⟨w.heap.size, 3, none⟩ = some (.int .i64 0) := blkT_cell hk rfl; have c4 : x3.cell? ⟨w.heap.size, 4, none⟩ = some (.int .i64 0) := blkT_cell hk rfl; have c5 : x3.cell? ⟨w.heap.size, 5, none⟩ = some (.int .i64 0) := blkT_cell hk rfl; have c6 : x3.cell? ⟨w.heap.size, 6, none⟩ = some (.int .i64 (n : Int)) := blkT_cell hk rfl; have c7 : x3.cell? ⟨w.heap.size, 7, none⟩ = some (.int .i64 0) := blkT_cell hk rfl; obtain ⟨a3, cap3, hv⟩ := hr.anyForm; subst hv)
  go_wp2_with fail
  refine (U4.out _).mono ?_
  rintro e _ ⟨rfl, rfl⟩
  go_wp2_with fail
  have hr : Own 5 .u8 _ w.heap.size _ _ := Own.down hr (show w.heap.size ≤ _ by omega)
  rw [← EY.out] at hr
  go_ret2
  exact .inl ⟨EB.out, _, rfl, hr, hB⟩

set_option maxRecDepth 100000 in
set_option maxHeartbeats 6400000 in
theorem ref32enc3 (n m : Nat) (w : World) (hn : n ≤ 65535) (hm : m ≤ 255) : Calls Try.prog 20 #[.agg #[.int .i64 3, .int .i64 0, .int .i64 0, .int .i64 0, .int .i64 0, .int .i64 0, .int .i64 (n : Int), .int .i64 (m : Int)]] w (EncPost w ⟨3, 0, 0, 0, 0, 0, (n : Int), (m : Int)⟩) := by
  have EB : encB ⟨3, 0, 0, 0, 0, 0, (n : Int), (m : Int)⟩ = true := by simp [encB, bareB, goesB, useT, useNum, useOp, useN, useM]; omega
  have EY : bytesE ⟨3, 0, 0, 0, 0, 0, (n : Int), (m : Int)⟩ = (([3] ++ be 2 n) ++ be 1 m) := by simp [bytesE, useT, useNum, useOp, useN, useM]
  have EB := hid EB
  have EY := hid EY
  have BR := hidAll fun w => (show Calls Try.prog 74 #[.agg #[.int .i64 3, .int .i64 0, .int .i64 0, .int .i64 0, .int .i64 0, .int .i64 0, .int .i64 (n : Int), .int .i64 (m : Int)]] w fun e w' => e = .returned (.bool true) ∧ Below w.heap.size w w' from by have h := ref32bare 3 0 0 0 0 0 (n : Int) (m : Int) w; rw [show bareB ⟨3, 0, 0, 0, 0, 0, (n : Int), (m : Int)⟩ = true by simp [bareB, useT, useNum, useOp, useN, useM]] at h; exact h)
  have G0 := hidAll fun w => (show Calls Try.prog 75 #[.int .i64 0, .int .i64 255] w fun e w' => e = .returned (.bool true) ∧ w = w' from by have h := ref32goes 0 255 w; rw [decide_eq_true (by omega)] at h; exact h)
  have G1 := hidAll fun w => (show Calls Try.prog 75 #[.int .i64 0, .int .i64 4294967295] w fun e w' => e = .returned (.bool true) ∧ w = w' from by have h := ref32goes 0 4294967295 w; rw [decide_eq_true (by omega)] at h; exact h)
  have G2 := hidAll fun w => (show Calls Try.prog 75 #[.int .i64 0, .int .i64 255] w fun e w' => e = .returned (.bool true) ∧ w = w' from by have h := ref32goes 0 255 w; rw [decide_eq_true (by omega)] at h; exact h)
  have G3 := hidAll fun w => (show Calls Try.prog 75 #[.int .i64 (n : Int), .int .i64 65535] w fun e w' => e = .returned (.bool true) ∧ w = w' from by have h := ref32goes (n : Int) 65535 w; rw [decide_eq_true (by omega)] at h; exact h)
  have G4 := hidAll fun w => (show Calls Try.prog 75 #[.int .i64 (m : Int), .int .i64 255] w fun e w' => e = .returned (.bool true) ∧ w = w' from by have h := ref32goes (m : Int) 255 w; rw [decide_eq_true (by omega)] at h; exact h)
  have U0 := hidAll fun w => (show Calls Try.prog 76 #[.int .i64 3, .int .i64 0] w fun e w' => e = .returned (.bool false) ∧ w = w' from ref32useT 3 w)
  have U1 := hidAll fun w => (show Calls Try.prog 76 #[.int .i64 3, .int .i64 1] w fun e w' => e = .returned (.bool false) ∧ w = w' from ref32useNum 3 w)
  have U2 := hidAll fun w => (show Calls Try.prog 76 #[.int .i64 3, .int .i64 2] w fun e w' => e = .returned (.bool false) ∧ w = w' from ref32useOp 3 w)
  have U3 := hidAll fun w => (show Calls Try.prog 76 #[.int .i64 3, .int .i64 3] w fun e w' => e = .returned (.bool true) ∧ w = w' from ref32useN 3 w)
  have U4 := hidAll fun w => (show Calls Try.prog 76 #[.int .i64 3, .int .i64 4] w fun e w' => e = .returned (.bool true) ∧ w = w' from ref32useM 3 w)
  go_enter Try.func20, Try.ntmps20
  go_wp2_with fail
  refine (BR.out _).mono ?_
  rintro e w1 ⟨rfl, hb1⟩
  have hk1 := blkT_call hb1 (blkT_new (W := w) (T := 32) rfl)
  have z1 : w.heap.size < w1.heap.size := blkT_lt hk1
  have hB1 : Below w.heap.size w w1 := bel
  clear hb1
  have c0 : w1.cell? ⟨w.heap.size, 0, none⟩ = some (.int .i64 3) := blkT_cell hk1 rfl
  have c1 : w1.cell? ⟨w.heap.size, 1, none⟩ = some (.int .i64 0) := blkT_cell hk1 rfl
  have c2 : w1.cell? ⟨w.heap.size, 2, none⟩ = some (.int .i64 0) := blkT_cell hk1 rfl
  have c3 : w1.cell? ⟨w.heap.size, 3, none⟩ = some (.int .i64 0) := blkT_cell hk1 rfl
  have c4 : w1.cell? ⟨w.heap.size, 4, none⟩ = some (.int .i64 0) := blkT_cell hk1 rfl
  have c5 : w1.cell? ⟨w.heap.size, 5, none⟩ = some (.int .i64 0) := blkT_cell hk1 rfl
  have c6 : w1.cell? ⟨w.heap.size, 6, none⟩ = some (.int .i64 (n : Int)) := blkT_cell hk1 rfl
  have c7 : w1.cell? ⟨w.heap.size, 7, none⟩ = some (.int .i64 (m : Int)) := blkT_cell hk1 rfl
  go_wp2_with fail
  refine (G0.out _).mono ?_
  rintro e _ ⟨rfl, rfl⟩
  go_wp2_with fail
  refine (G1.out _).mono ?_
  rintro e _ ⟨rfl, rfl⟩
  go_wp2_with fail
  refine (G2.out _).mono ?_
  rintro e _ ⟨rfl, rfl⟩
  go_wp2_with fail
  refine (G3.out _).mono ?_
  rintro e _ ⟨rfl, rfl⟩
  go_wp2_with fail
  refine (G4.out _).mono ?_
  rintro e _ ⟨rfl, rfl⟩
  clear BR G0 G1 G2 G3 G4
  go_wp2_with fail
  refine (U0.out _).mono ?_
  rintro e _ ⟨rfl, rfl⟩
  have hr : Own 5 .u8 (w1.alloc (.cells #[.int .u8 3] 5)) (w.heap.size + 1) (.slice (some ⟨w1.heap.size, 0, none⟩) 1 1) [3] := Own.built 5 .u8 w1 (w.heap.size + 1) [3] #[.int .u8 3] 1 z1 rfl (by decide) rfl
  have hk : BlkT 32 (w1.alloc (.cells #[.int .u8 3] 5)) w.heap.size #[.int .i64 3, .int .i64 0, .int .i64 0, .int .i64 0, .int .i64 0, .int .i64 0, .int .i64 (n : Int), .int .i64 (m : Int)] := blkT_old hk1
  have hB : Below w.heap.size w (w1.alloc (.cells #[.int .u8 3] 5)) := hB1.alloc (by omega) _
  have zz : w.heap.size + 1 ≤ (w1.alloc (.cells #[.int .u8 3] 5)).heap.size := by simp; omega
  clear hk1 hB1
  go_wp2_with fail
  refine (U1.out _).mono ?_
  rintro e _ ⟨rfl, rfl⟩
  go_wp2_with fail
  refine (U2.out _).mono ?_
  rintro e _ ⟨rfl, rfl⟩
  go_wp2_with fail
  refine (U3.out _).mono ?_
  rintro e _ ⟨rfl, rfl⟩
  go_wp2_with fail
  refine (refPut32 n 2 _ (by decide) (by omega)).mono ?_
  rintro e y2 ⟨p2, rfl, hop, hbp⟩
  have hr := hr.kept hbp (Nat.le_refl _)
  have hk := blkT_call hbp hk
  have hB : Below w.heap.size w y2 := hB.trans (hbp.mono (by omega))
  have zz : w.heap.size + 1 ≤ y2.heap.size := by have := hbp.size; omega
  obtain ⟨b2, e2, hv⟩ := hop.anyForm
  subst hv
  have hsr := hop.seen
  clear hbp hop
  go_wp2_with (at_builtin; refine wpAppend rfl (.tmp 98) (.tmp 102) 33 5 rfl .u8 (.int .u8 0) 1 Try.underlying33 infoU8 rfl _ (w.heap.size + 1) _ [3] rfl hr _ _ _ (be 2 n) rfl hsr (by simp [be_length, maxLen]) (by simp [be_length]) zz ?_; intro v2 x2 hown hgrow; clear hsr; have hBq : Below (w.heap.size + 1) y2 x2 := (Below.refl _ _).grown hgrow (by omega) (by intro q hq; exact hr.block hq); have hk := blkT_below hBq (Nat.lt_succ_self _) hk; have hB : Below w.heap.size w x2 := hB.trans (hBq.mono (by omega)); have zz : w.heap.size + 1 ≤ x2.heap.size := (by have := hBq.size; omega); have zx2 : w.heap.size < x2.heap.size := (by omega); have hr : Own 5 .u8 x2 (w.heap.size + 1) v2 ([3] ++ be 2 n) := hown; clear hown hgrow hBq; have c0 : x2.cell? ⟨w.heap.size, 0, none⟩ = some (.int .i64 3) := blkT_cell hk rfl; have c1 : x2.cell? ⟨w.heap.size, 1, none⟩ = some (.int .i64 0) := blkT_cell hk rfl; have c2 : x2.cell? ⟨w.heap.size, 2, none⟩ = some (.int .i64 0) := blkT_cell hk rfl; have c3 : x2.cell? ⟨w.heap.size, 3, none⟩ = some (.int .i64 0) := blkT_cell hk rfl; have c4 : x2.cell? ⟨w.heap.size, 4, none⟩ = some (.int .i64 0) := blkT_cell hk rfl; have c5 : x2.cell? ⟨w.heap.size, 5, none⟩ = some (.int .i64 0) := blkT_cell hk rfl; have c6 : x2.cell? ⟨w.heap.size, 6, none⟩ = some (.int .i64 (n : Int)) := blkT_cell hk rfl; have c7 : x2.cell? ⟨w.heap.size, 7, none⟩ = some (.int .i64 (m : Int)) := blkT_cell hk rfl; obtain ⟨a2, cap2, hv⟩ := hr.anyForm; subst hv)
  go_wp2_with fail
  refine (U4.out _).mono ?_
  rintro e _ ⟨rfl, rfl⟩
  go_wp2_with (at_builtin; refine wpAppend rfl (.tmp 107) (.tmp 111) 33 5 rfl .u8 (.int .u8 0) 1 Try.underlying33 infoU8 rfl _ (w.heap.size + 1) _ ([3] ++ be 2 n) rfl (hr.kept ((Below.refl _ _).alloc (Nat.le_refl _) _) (Nat.le_refl _)) _ _ _ (be 1 m) rfl (Seen.builtAt .u8 _ (be 1 m) _ _ 1 _ (by first | rfl | (simp; done)) rfl (by decide) (by simp [be]; try omega)) (by simp [be_length, maxLen]) (by simp [be_length]) (by first | omega | (simp; omega)) ?_; intro v3 x3 hown hgrow; have hBq : Below (w.heap.size + 1) x2 x3 := ((Below.refl _ _).alloc (by first | omega | (simp; omega)) _).grown hgrow (by first | omega | (simp; omega)) (by intro q hq; exact hr.block hq); have hk := blkT_below hBq (Nat.lt_succ_self _) hk; have hB : Below w.heap.size w x3 := hB.trans (hBq.mono (by omega)); have zz : w.heap.size + 1 ≤ x3.heap.size := (by have := hBq.size; omega); have zx3 : w.heap.size < x3.heap.size := (by omega); have hr : Own 5 .u8 x3 (w.heap.size + 1) v3 (([3] ++ be 2 n) ++ be 1 m) := hown; clear hown hgrow hBq; have c0 : x3.cell? ⟨w.heap.size, 0, none⟩ = some (.int .i64 3) := blkT_cell hk rfl; have c1 : x3.cell? ⟨w.heap.size, 1, none⟩ = some (.int .i64 0) := blkT_cell hk rfl; have c2 : x3.cell? ⟨w.heap.size, 2, none⟩ = some (.int .i64 0) := blkT_cell hk rfl; have c3 : x3.cell? ⟨w.heap.size, 3, none⟩ = some (.int .i64 0) := blkT_cell hk rfl; have c4 : x3.cell? ⟨w.heap.size, 4, none⟩ = some (.int .i64 0) := blkT_cell hk rfl; have c5 : x3.cell? ⟨w.heap.size, 5, none⟩ = some (.int .i64 0) := blkT_cell hk rfl; have c6 : x3.cell? ⟨w.heap.size, 6, none⟩ = some (.int .i64 (n : Int)) := blkT_cell hk rfl; have c7 : x3.cell? ⟨w.heap.size, 7, none⟩ = some (.int .i64 (m : Int)) := blkT_cell hk rfl; obtain ⟨a3, cap3, hv⟩ := hr.anyForm; subst hv)
  go_wp2_with fail
  have hr : Own 5 .u8 _ w.heap.size _ _ := Own.down hr (show w.heap.size ≤ _ by omega)
  rw [← EY.out] at hr
  go_ret2
  exact .inl ⟨EB.out, _, rfl, hr, hB⟩

set_option maxRecDepth 100000 in
set_option maxHeartbeats 6400000 in
theorem ref32enc4 (w : World)  : Calls Try.prog 20 #[.agg #[.int .i64 4, .int .i64 0, .int .i64 0, .int .i64 0, .int .i64 0, .int .i64 0, .int .i64 0, .int .i64 0]] w (EncPost w ⟨4, 0, 0, 0, 0, 0, 0, 0⟩) := by
  have EB : encB ⟨4, 0, 0, 0, 0, 0, 0, 0⟩ = true := by simp [encB, bareB, goesB, useT, useNum, useOp, useN, useM]
  have EY : bytesE ⟨4, 0, 0, 0, 0, 0, 0, 0⟩ = [4] := by simp [bytesE, useT, useNum, useOp, useN, useM]
  have EB := hid EB
  have EY := hid EY
  have BR := hidAll fun w => (show Calls Try.prog 74 #[.agg #[.int .i64 4, .int .i64 0, .int .i64 0, .int .i64 0, .int .i64 0, .int .i64 0, .int .i64 0, .int .i64 0]] w fun e w' => e = .returned (.bool true) ∧ Below w.heap.size w w' from by have h := ref32bare 4 0 0 0 0 0 0 0 w; rw [show bareB ⟨4, 0, 0, 0, 0, 0, 0, 0⟩ = true by simp [bareB, useT, useNum, useOp, useN, useM]] at h; exact h)
  have G0 := hidAll fun w => (show Calls Try.prog 75 #[.int .i64 0, .int .i64 255] w fun e w' => e = .returned (.bool true) ∧ w = w' from by have h := ref32goes 0 255 w; rw [decide_eq_true (by omega)] at h; exact h)
  have G1 := hidAll fun w => (show Calls Try.prog 75 #[.int .i64 0, .int .i64 4294967295] w fun e w' => e = .returned (.bool true) ∧ w = w' from by have h := ref32goes 0 4294967295 w; rw [decide_eq_true (by omega)] at h; exact h)
  have G2 := hidAll fun w => (show Calls Try.prog 75 #[.int .i64 0, .int .i64 255] w fun e w' => e = .returned (.bool true) ∧ w = w' from by have h := ref32goes 0 255 w; rw [decide_eq_true (by omega)] at h; exact h)
  have G3 := hidAll fun w => (show Calls Try.prog 75 #[.int .i64 0, .int .i64 65535] w fun e w' => e = .returned (.bool true) ∧ w = w' from by have h := ref32goes 0 65535 w; rw [decide_eq_true (by omega)] at h; exact h)
  have G4 := hidAll fun w => (show Calls Try.prog 75 #[.int .i64 0, .int .i64 255] w fun e w' => e = .returned (.bool true) ∧ w = w' from by have h := ref32goes 0 255 w; rw [decide_eq_true (by omega)] at h; exact h)
  have U0 := hidAll fun w => (show Calls Try.prog 76 #[.int .i64 4, .int .i64 0] w fun e w' => e = .returned (.bool false) ∧ w = w' from ref32useT 4 w)
  have U1 := hidAll fun w => (show Calls Try.prog 76 #[.int .i64 4, .int .i64 1] w fun e w' => e = .returned (.bool false) ∧ w = w' from ref32useNum 4 w)
  have U2 := hidAll fun w => (show Calls Try.prog 76 #[.int .i64 4, .int .i64 2] w fun e w' => e = .returned (.bool false) ∧ w = w' from ref32useOp 4 w)
  have U3 := hidAll fun w => (show Calls Try.prog 76 #[.int .i64 4, .int .i64 3] w fun e w' => e = .returned (.bool false) ∧ w = w' from ref32useN 4 w)
  have U4 := hidAll fun w => (show Calls Try.prog 76 #[.int .i64 4, .int .i64 4] w fun e w' => e = .returned (.bool false) ∧ w = w' from ref32useM 4 w)
  go_enter Try.func20, Try.ntmps20
  go_wp2_with fail
  refine (BR.out _).mono ?_
  rintro e w1 ⟨rfl, hb1⟩
  have hk1 := blkT_call hb1 (blkT_new (W := w) (T := 32) rfl)
  have z1 : w.heap.size < w1.heap.size := blkT_lt hk1
  have hB1 : Below w.heap.size w w1 := bel
  clear hb1
  have c0 : w1.cell? ⟨w.heap.size, 0, none⟩ = some (.int .i64 4) := blkT_cell hk1 rfl
  have c1 : w1.cell? ⟨w.heap.size, 1, none⟩ = some (.int .i64 0) := blkT_cell hk1 rfl
  have c2 : w1.cell? ⟨w.heap.size, 2, none⟩ = some (.int .i64 0) := blkT_cell hk1 rfl
  have c3 : w1.cell? ⟨w.heap.size, 3, none⟩ = some (.int .i64 0) := blkT_cell hk1 rfl
  have c4 : w1.cell? ⟨w.heap.size, 4, none⟩ = some (.int .i64 0) := blkT_cell hk1 rfl
  have c5 : w1.cell? ⟨w.heap.size, 5, none⟩ = some (.int .i64 0) := blkT_cell hk1 rfl
  have c6 : w1.cell? ⟨w.heap.size, 6, none⟩ = some (.int .i64 0) := blkT_cell hk1 rfl
  have c7 : w1.cell? ⟨w.heap.size, 7, none⟩ = some (.int .i64 0) := blkT_cell hk1 rfl
  go_wp2_with fail
  refine (G0.out _).mono ?_
  rintro e _ ⟨rfl, rfl⟩
  go_wp2_with fail
  refine (G1.out _).mono ?_
  rintro e _ ⟨rfl, rfl⟩
  go_wp2_with fail
  refine (G2.out _).mono ?_
  rintro e _ ⟨rfl, rfl⟩
  go_wp2_with fail
  refine (G3.out _).mono ?_
  rintro e _ ⟨rfl, rfl⟩
  go_wp2_with fail
  refine (G4.out _).mono ?_
  rintro e _ ⟨rfl, rfl⟩
  clear BR G0 G1 G2 G3 G4
  go_wp2_with fail
  refine (U0.out _).mono ?_
  rintro e _ ⟨rfl, rfl⟩
  have hr : Own 5 .u8 (w1.alloc (.cells #[.int .u8 4] 5)) (w.heap.size + 1) (.slice (some ⟨w1.heap.size, 0, none⟩) 1 1) [4] := Own.built 5 .u8 w1 (w.heap.size + 1) [4] #[.int .u8 4] 1 z1 rfl (by decide) rfl
  have hk : BlkT 32 (w1.alloc (.cells #[.int .u8 4] 5)) w.heap.size #[.int .i64 4, .int .i64 0, .int .i64 0, .int .i64 0, .int .i64 0, .int .i64 0, .int .i64 0, .int .i64 0] := blkT_old hk1
  have hB : Below w.heap.size w (w1.alloc (.cells #[.int .u8 4] 5)) := hB1.alloc (by omega) _
  have zz : w.heap.size + 1 ≤ (w1.alloc (.cells #[.int .u8 4] 5)).heap.size := by simp; omega
  clear hk1 hB1
  go_wp2_with fail
  refine (U1.out _).mono ?_
  rintro e _ ⟨rfl, rfl⟩
  go_wp2_with fail
  refine (U2.out _).mono ?_
  rintro e _ ⟨rfl, rfl⟩
  go_wp2_with fail
  refine (U3.out _).mono ?_
  rintro e _ ⟨rfl, rfl⟩
  go_wp2_with fail
  refine (U4.out _).mono ?_
  rintro e _ ⟨rfl, rfl⟩
  go_wp2_with fail
  have hr : Own 5 .u8 _ w.heap.size _ _ := Own.down hr (show w.heap.size ≤ _ by omega)
  rw [← EY.out] at hr
  go_ret2
  exact .inl ⟨EB.out, _, rfl, hr, hB⟩

set_option maxRecDepth 100000 in
set_option maxHeartbeats 6400000 in
theorem ref32enc5 (n : Nat) (w : World) (hn : n ≤ 65535) : Calls Try.prog 20 #[.agg #[.int .i64 5, .int .i64 0, .int .i64 0, .int .i64 0, .int .i64 0, .int .i64 0, .int .i64 (n : Int), .int .i64 0]] w (EncPost w ⟨5, 0, 0, 0, 0, 0, (n : Int), 0⟩) := by
  have EB : encB ⟨5, 0, 0, 0, 0, 0, (n : Int), 0⟩ = true := by simp [encB, bareB, goesB, useT, useNum, useOp, useN, useM]; omega
  have EY : bytesE ⟨5, 0, 0, 0, 0, 0, (n : Int), 0⟩ = ([5] ++ be 2 n) := by simp [bytesE, useT, useNum, useOp, useN, useM]
  have EB := hid EB
  have EY := hid EY
  have BR := hidAll fun w => (show Calls Try.prog 74 #[.agg #[.int .i64 5, .int .i64 0, .int .i64 0, .int .i64 0, .int .i64 0, .int .i64 0, .int .i64 (n : Int), .int .i64 0]] w fun e w' => e = .returned (.bool true) ∧ Below w.heap.size w w' from by have h := ref32bare 5 0 0 0 0 0 (n : Int) 0 w; rw [show bareB ⟨5, 0, 0, 0, 0, 0, (n : Int), 0⟩ = true by simp [bareB, useT, useNum, useOp, useN, useM]] at h; exact h)
  have G0 := hidAll fun w => (show Calls Try.prog 75 #[.int .i64 0, .int .i64 255] w fun e w' => e = .returned (.bool true) ∧ w = w' from by have h := ref32goes 0 255 w; rw [decide_eq_true (by omega)] at h; exact h)
  have G1 := hidAll fun w => (show Calls Try.prog 75 #[.int .i64 0, .int .i64 4294967295] w fun e w' => e = .returned (.bool true) ∧ w = w' from by have h := ref32goes 0 4294967295 w; rw [decide_eq_true (by omega)] at h; exact h)
  have G2 := hidAll fun w => (show Calls Try.prog 75 #[.int .i64 0, .int .i64 255] w fun e w' => e = .returned (.bool true) ∧ w = w' from by have h := ref32goes 0 255 w; rw [decide_eq_true (by omega)] at h; exact h)
  have G3 := hidAll fun w => (show Calls Try.prog 75 #[.int .i64 (n : Int), .int .i64 65535] w fun e w' => e = .returned (.bool true) ∧ w = w' from by have h := ref32goes (n : Int) 65535 w; rw [decide_eq_true (by omega)] at h; exact h)
  have G4 := hidAll fun w => (show Calls Try.prog 75 #[.int .i64 0, .int .i64 255] w fun e w' => e = .returned (.bool true) ∧ w = w' from by have h := ref32goes 0 255 w; rw [decide_eq_true (by omega)] at h; exact h)
  have U0 := hidAll fun w => (show Calls Try.prog 76 #[.int .i64 5, .int .i64 0] w fun e w' => e = .returned (.bool false) ∧ w = w' from ref32useT 5 w)
  have U1 := hidAll fun w => (show Calls Try.prog 76 #[.int .i64 5, .int .i64 1] w fun e w' => e = .returned (.bool false) ∧ w = w' from ref32useNum 5 w)
  have U2 := hidAll fun w => (show Calls Try.prog 76 #[.int .i64 5, .int .i64 2] w fun e w' => e = .returned (.bool false) ∧ w = w' from ref32useOp 5 w)
  have U3 := hidAll fun w => (show Calls Try.prog 76 #[.int .i64 5, .int .i64 3] w fun e w' => e = .returned (.bool true) ∧ w = w' from ref32useN 5 w)
  have U4 := hidAll fun w => (show Calls Try.prog 76 #[.int .i64 5, .int .i64 4] w fun e w' => e = .returned (.bool false) ∧ w = w' from ref32useM 5 w)
  go_enter Try.func20, Try.ntmps20
  go_wp2_with fail
  refine (BR.out _).mono ?_
  rintro e w1 ⟨rfl, hb1⟩
  have hk1 := blkT_call hb1 (blkT_new (W := w) (T := 32) rfl)
  have z1 : w.heap.size < w1.heap.size := blkT_lt hk1
  have hB1 : Below w.heap.size w w1 := bel
  clear hb1
  have c0 : w1.cell? ⟨w.heap.size, 0, none⟩ = some (.int .i64 5) := blkT_cell hk1 rfl
  have c1 : w1.cell? ⟨w.heap.size, 1, none⟩ = some (.int .i64 0) := blkT_cell hk1 rfl
  have c2 : w1.cell? ⟨w.heap.size, 2, none⟩ = some (.int .i64 0) := blkT_cell hk1 rfl
  have c3 : w1.cell? ⟨w.heap.size, 3, none⟩ = some (.int .i64 0) := blkT_cell hk1 rfl
  have c4 : w1.cell? ⟨w.heap.size, 4, none⟩ = some (.int .i64 0) := blkT_cell hk1 rfl
  have c5 : w1.cell? ⟨w.heap.size, 5, none⟩ = some (.int .i64 0) := blkT_cell hk1 rfl
  have c6 : w1.cell? ⟨w.heap.size, 6, none⟩ = some (.int .i64 (n : Int)) := blkT_cell hk1 rfl
  have c7 : w1.cell? ⟨w.heap.size, 7, none⟩ = some (.int .i64 0) := blkT_cell hk1 rfl
  go_wp2_with fail
  refine (G0.out _).mono ?_
  rintro e _ ⟨rfl, rfl⟩
  go_wp2_with fail
  refine (G1.out _).mono ?_
  rintro e _ ⟨rfl, rfl⟩
  go_wp2_with fail
  refine (G2.out _).mono ?_
  rintro e _ ⟨rfl, rfl⟩
  go_wp2_with fail
  refine (G3.out _).mono ?_
  rintro e _ ⟨rfl, rfl⟩
  go_wp2_with fail
  refine (G4.out _).mono ?_
  rintro e _ ⟨rfl, rfl⟩
  clear BR G0 G1 G2 G3 G4
  go_wp2_with fail
  refine (U0.out _).mono ?_
  rintro e _ ⟨rfl, rfl⟩
  have hr : Own 5 .u8 (w1.alloc (.cells #[.int .u8 5] 5)) (w.heap.size + 1) (.slice (some ⟨w1.heap.size, 0, none⟩) 1 1) [5] := Own.built 5 .u8 w1 (w.heap.size + 1) [5] #[.int .u8 5] 1 z1 rfl (by decide) rfl
  have hk : BlkT 32 (w1.alloc (.cells #[.int .u8 5] 5)) w.heap.size #[.int .i64 5, .int .i64 0, .int .i64 0, .int .i64 0, .int .i64 0, .int .i64 0, .int .i64 (n : Int), .int .i64 0] := blkT_old hk1
  have hB : Below w.heap.size w (w1.alloc (.cells #[.int .u8 5] 5)) := hB1.alloc (by omega) _
  have zz : w.heap.size + 1 ≤ (w1.alloc (.cells #[.int .u8 5] 5)).heap.size := by simp; omega
  clear hk1 hB1
  go_wp2_with fail
  refine (U1.out _).mono ?_
  rintro e _ ⟨rfl, rfl⟩
  go_wp2_with fail
  refine (U2.out _).mono ?_
  rintro e _ ⟨rfl, rfl⟩
  go_wp2_with fail
  refine (U3.out _).mono ?_
  rintro e _ ⟨rfl, rfl⟩
  go_wp2_with fail
  refine (refPut32 n 2 _ (by decide) (by omega)).mono ?_
  rintro e y2 ⟨p2, rfl, hop, hbp⟩
  have hr := hr.kept hbp (Nat.le_refl _)
  have hk := blkT_call hbp hk
  have hB : Below w.heap.size w y2 := hB.trans (hbp.mono (by omega))
  have zz : w.heap.size + 1 ≤ y2.heap.size := by have := hbp.size; omega
  obtain ⟨b2, e2, hv⟩ := hop.anyForm
  subst hv
  have hsr := hop.seen
  clear hbp hop
  go_wp2_with (at_builtin; refine wpAppend rfl (.tmp 98) (.tmp 102) 33 5 rfl .u8 (.int .u8 0) 1 Try.underlying33 infoU8 rfl _ (w.heap.size + 1) _ [5] rfl hr _ _ _ (be 2 n) rfl hsr (by simp [be_length, maxLen]) (by simp [be_length]) zz ?_; intro v2 x2 hown hgrow; clear hsr; have hBq : Below (w.heap.size + 1) y2 x2 := (Below.refl _ _).grown hgrow (by omega) (by intro q hq; exact hr.block hq); have hk := blkT_below hBq (Nat.lt_succ_self _) hk; have hB : Below w.heap.size w x2 := hB.trans (hBq.mono (by omega)); have zz : w.heap.size + 1 ≤ x2.heap.size := (by have := hBq.size; omega); have zx2 : w.heap.size < x2.heap.size := (by omega); have hr : Own 5 .u8 x2 (w.heap.size + 1) v2 ([5] ++ be 2 n) := hown; clear hown hgrow hBq; have c0 : x2.cell? ⟨w.heap.size, 0, none⟩ = some (.int .i64 5) := blkT_cell hk rfl; have c1 : x2.cell? ⟨w.heap.size, 1, none⟩ = some (.int .i64 0) := blkT_cell hk rfl; have c2 : x2.cell? ⟨w.heap.size, 2, none⟩ = some (.int .i64 0) := blkT_cell hk rfl; have c3 : x2.cell? ⟨w.heap.size, 3, none⟩ = some (.int .i64 0) := blkT_cell hk rfl; have c4 : x2.cell? ⟨w.heap.size, 4, none⟩ = some (.int .i64 0) := blkT_cell hk rfl; have c5 : x2.cell? ⟨w.heap.size, 5, none⟩ = some (.int .i64 0) := blkT_cell hk rfl; have c6 : x2.cell? ⟨w.heap.size, 6, none⟩ = some (.int .i64 (n : Int)) := blkT_cell hk rfl; have c7 : x2.cell? ⟨w.heap.size, 7, none⟩ = some (.int .i64 0) := blkT_cell hk rfl; obtain ⟨a2, cap2, hv⟩ := hr.anyForm; subst hv)
  go_wp2_with fail
  refine (U4.out _).mono ?_
  rintro e _ ⟨rfl, rfl⟩
  go_wp2_with fail
  have hr : Own 5 .u8 _ w.heap.size _ _ := Own.down hr (show w.heap.size ≤ _ by omega)
  rw [← EY.out] at hr
  go_ret2
  exact .inl ⟨EB.out, _, rfl, hr, hB⟩

set_option maxRecDepth 100000 in
set_option maxHeartbeats 6400000 in
theorem ref32enc6 (t num : Nat) (w : World) (ht : t ≤ 255) (hnum : num ≤ 4294967295) : Calls Try.prog 20 #[.agg #[.int .i64 6, .int .i64 (t : Int), .int .i64 (num : Int), .int .i64 0, .int .i64 0, .int .i64 0, .int .i64 0, .int .i64 0]] w (EncPost w ⟨6, (t : Int), (num : Int), 0, 0, 0, 0, 0⟩) := by
  have EB : encB ⟨6, (t : Int), (num : Int), 0, 0, 0, 0, 0⟩ = true := by simp [encB, bareB, goesB, useT, useNum, useOp, useN, useM]; omega
  have EY : bytesE ⟨6, (t : Int), (num : Int), 0, 0, 0, 0, 0⟩ = (([6] ++ be 1 t) ++ be 4 num) := by simp [bytesE, useT, useNum, useOp, useN, useM]
  have EB := hid EB
  have EY := hid EY
  have BR := hidAll fun w => (show Calls Try.prog 74 #[.agg #[.int .i64 6, .int .i64 (t : Int), .int .i64 (num : Int), .int .i64 0, .int .i64 0, .int .i64 0, .int .i64 0, .int .i64 0]] w fun e w' => e = .returned (.bool true) ∧ Below w.heap.size w w' from by have h := ref32bare 6 (t : Int) (num : Int) 0 0 0 0 0 w; rw [show bareB ⟨6, (t : Int), (num : Int), 0, 0, 0, 0, 0⟩ = true by simp [bareB, useT, useNum, useOp, useN, useM]] at h; exact h)
  have G0 := hidAll fun w => (show Calls Try.prog 75 #[.int .i64 (t : Int), .int .i64 255] w fun e w' => e = .returned (.bool true) ∧ w = w' from by have h := ref32goes (t : Int) 255 w; rw [decide_eq_true (by omega)] at h; exact h)
  have G1 := hidAll fun w => (show Calls Try.prog 75 #[.int .i64 (num : Int), .int .i64 4294967295] w fun e w' => e = .returned (.bool true) ∧ w = w' from by have h := ref32goes (num : Int) 4294967295 w; rw [decide_eq_true (by omega)] at h; exact h)
  have G2 := hidAll fun w => (show Calls Try.prog 75 #[.int .i64 0, .int .i64 255] w fun e w' => e = .returned (.bool true) ∧ w = w' from by have h := ref32goes 0 255 w; rw [decide_eq_true (by omega)] at h; exact h)
  have G3 := hidAll fun w => (show Calls Try.prog 75 #[.int .i64 0, .int .i64 65535] w fun e w' => e = .returned (.bool true) ∧ w = w' from by have h := ref32goes 0 65535 w; rw [decide_eq_true (by omega)] at h; exact h)
  have G4 := hidAll fun w => (show Calls Try.prog 75 #[.int .i64 0, .int .i64 255] w fun e w' => e = .returned (.bool true) ∧ w = w' from by have h := ref32goes 0 255 w; rw [decide_eq_true (by omega)] at h; exact h)
  have U0 := hidAll fun w => (show Calls Try.prog 76 #[.int .i64 6, .int .i64 0] w fun e w' => e = .returned (.bool true) ∧ w = w' from ref32useT 6 w)
  have U1 := hidAll fun w => (show Calls Try.prog 76 #[.int .i64 6, .int .i64 1] w fun e w' => e = .returned (.bool true) ∧ w = w' from ref32useNum 6 w)
  have U2 := hidAll fun w => (show Calls Try.prog 76 #[.int .i64 6, .int .i64 2] w fun e w' => e = .returned (.bool false) ∧ w = w' from ref32useOp 6 w)
  have U3 := hidAll fun w => (show Calls Try.prog 76 #[.int .i64 6, .int .i64 3] w fun e w' => e = .returned (.bool false) ∧ w = w' from ref32useN 6 w)
  have U4 := hidAll fun w => (show Calls Try.prog 76 #[.int .i64 6, .int .i64 4] w fun e w' => e = .returned (.bool false) ∧ w = w' from ref32useM 6 w)
  go_enter Try.func20, Try.ntmps20
  go_wp2_with fail
  refine (BR.out _).mono ?_
  rintro e w1 ⟨rfl, hb1⟩
  have hk1 := blkT_call hb1 (blkT_new (W := w) (T := 32) rfl)
  have z1 : w.heap.size < w1.heap.size := blkT_lt hk1
  have hB1 : Below w.heap.size w w1 := bel
  clear hb1
  have c0 : w1.cell? ⟨w.heap.size, 0, none⟩ = some (.int .i64 6) := blkT_cell hk1 rfl
  have c1 : w1.cell? ⟨w.heap.size, 1, none⟩ = some (.int .i64 (t : Int)) := blkT_cell hk1 rfl
  have c2 : w1.cell? ⟨w.heap.size, 2, none⟩ = some (.int .i64 (num : Int)) := blkT_cell hk1 rfl
  have c3 : w1.cell? ⟨w.heap.size, 3, none⟩ = some (.int .i64 0) := blkT_cell hk1 rfl
  have c4 : w1.cell? ⟨w.heap.size, 4, none⟩ = some (.int .i64 0) := blkT_cell hk1 rfl
  have c5 : w1.cell? ⟨w.heap.size, 5, none⟩ = some (.int .i64 0) := blkT_cell hk1 rfl
  have c6 : w1.cell? ⟨w.heap.size, 6, none⟩ = some (.int .i64 0) := blkT_cell hk1 rfl
  have c7 : w1.cell? ⟨w.heap.size, 7, none⟩ = some (.int .i64 0) := blkT_cell hk1 rfl
  go_wp2_with fail
  refine (G0.out _).mono ?_
  rintro e _ ⟨rfl, rfl⟩
  go_wp2_with fail
  refine (G1.out _).mono ?_
  rintro e _ ⟨rfl, rfl⟩
  go_wp2_with fail
  refine (G2.out _).mono ?_
  rintro e _ ⟨rfl, rfl⟩
  go_wp2_with fail
  refine (G3.out _).mono ?_
  rintro e _ ⟨rfl, rfl⟩
  go_wp2_with fail
  refine (G4.out _).mono ?_
  rintro e _ ⟨rfl, rfl⟩
  clear BR G0 G1 G2 G3 G4
  go_wp2_with fail
  refine (U0.out _).mono ?_
  rintro e _ ⟨rfl, rfl⟩
  have hr : Own 5 .u8 (w1.alloc (.cells #[.int .u8 6] 5)) (w.heap.size + 1) (.slice (some ⟨w1.heap.size, 0, none⟩) 1 1) [6] := Own.built 5 .u8 w1 (w.heap.size + 1) [6] #[.int .u8 6] 1 z1 rfl (by decide) rfl
  have hk : BlkT 32 (w1.alloc (.cells #[.int .u8 6] 5)) w.heap.size #[.int .i64 6, .int .i64 (t : Int), .int .i64 (num : Int), .int .i64 0, .int .i64 0, .int .i64 0, .int .i64 0, .int .i64 0] := blkT_old hk1
  have hB : Below w.heap.size w (w1.alloc (.cells #[.int .u8 6] 5)) := hB1.alloc (by omega) _
  have zz : w.heap.size + 1 ≤ (w1.alloc (.cells #[.int .u8 6] 5)).heap.size := by simp; omega
  clear hk1 hB1
  go_wp2_with (at_builtin; refine wpAppend rfl (.tmp 56) (.tmp 60) 33 5 rfl .u8 (.int .u8 0) 1 Try.underlying33 infoU8 rfl _ (w.heap.size + 1) _ [6] rfl (hr.kept ((Below.refl _ _).alloc (Nat.le_refl _) _) (Nat.le_refl _)) _ _ _ (be 1 t) rfl (Seen.builtAt .u8 _ (be 1 t) _ _ 1 _ (by first | rfl | (simp; done)) rfl (by decide) (by simp [be]; try omega)) (by simp [be_length, maxLen]) (by simp [be_length]) (by first | omega | (simp; omega)) ?_; intro v2 x2 hown hgrow; have hBq : Below (w.heap.size + 1) (w1.alloc (.cells #[.int .u8 6] 5)) x2 := ((Below.refl _ _).alloc (by first | omega | (simp; omega)) _).grown hgrow (by first | omega | (simp; omega)) (by intro q hq; exact hr.block hq); have hk := blkT_below hBq (Nat.lt_succ_self _) hk; have hB : Below w.heap.size w x2 := hB.trans (hBq.mono (by omega)); have zz : w.heap.size + 1 ≤ x2.heap.size := (by have := hBq.size; omega); have zx2 : w.heap.size < x2.heap.size := (by omega); have hr : Own 5 .u8 x2 (w.heap.size + 1) v2 ([6] ++ be 1 t) := hown; clear hown hgrow hBq; have c0 : x2.cell? ⟨w.heap.size, 0, none⟩ = some (.int .i64 6) := blkT_cell hk rfl; have c1 : x2.cell? ⟨w.heap.size, 1, none⟩ = some (.int .i64 (t : Int)) := blkT_cell hk rfl; have c2 : x2.cell? ⟨w.heap.size, 2, none⟩ = some (.int .i64 (num : Int)) := blkT_cell hk rfl; have c3 : x2.cell? ⟨w.heap.size, 3, none⟩ = some (.int .i64 0) := blkT_cell hk rfl; have c4 : x2.cell? ⟨w.heap.size, 4, none⟩ = some (.int .i64 0) := blkT_cell hk rfl; have c5 : x2.cell? ⟨w.heap.size, 5, none⟩ = some (.int .i64 0) := blkT_cell hk rfl; have c6 : x2.cell? ⟨w.heap.size, 6, none⟩ = some (.int .i64 0) := blkT_cell hk rfl; have c7 : x2.cell? ⟨w.heap.size, 7, none⟩ = some (.int .i64 0) := blkT_cell hk rfl; obtain ⟨a2, cap2, hv⟩ := hr.anyForm; subst hv)
  go_wp2_with fail
  refine (U1.out _).mono ?_
  rintro e _ ⟨rfl, rfl⟩
  go_wp2_with fail
  refine (refPut32 num 4 _ (by decide) (by omega)).mono ?_
  rintro e y3 ⟨p3, rfl, hop, hbp⟩
  have hr := hr.kept hbp (Nat.le_refl _)
  have hk := blkT_call hbp hk
  have hB : Below w.heap.size w y3 := hB.trans (hbp.mono (by omega))
  have zz : w.heap.size + 1 ≤ y3.heap.size := by have := hbp.size; omega
  obtain ⟨b3, e3, hv⟩ := hop.anyForm
  subst hv
  have hsr := hop.seen
  clear hbp hop
  go_wp2_with (at_builtin; refine wpAppend rfl (.tmp 65) (.tmp 69) 33 5 rfl .u8 (.int .u8 0) 1 Try.underlying33 infoU8 rfl _ (w.heap.size + 1) _ ([6] ++ be 1 t) rfl hr _ _ _ (be 4 num) rfl hsr (by simp [be_length, maxLen]) (by simp [be_length]) zz ?_; intro v3 x3 hown hgrow; clear hsr; have hBq : Below (w.heap.size + 1) y3 x3 := (Below.refl _ _).grown hgrow (by omega) (by intro q hq; exact hr.block hq); have hk := blkT_below hBq (Nat.lt_succ_self _) hk; have hB : Below w.heap.size w x3 := hB.trans (hBq.mono (by omega)); have zz : w.heap.size + 1 ≤ x3.heap.size := (by have := hBq.size; omega); have zx3 : w.heap.size < x3.heap.size := (by omega); have hr : Own 5 .u8 x3 (w.heap.size + 1) v3 (([6] ++ be 1 t) ++ be 4 num) := hown; clear hown hgrow hBq; have c0 : x3.cell? ⟨w.heap.size, 0, none⟩ = some (.int .i64 6) := blkT_cell hk rfl; have c1 : x3.cell? ⟨w.heap.size, 1, none⟩ = some (.int .i64 (t : Int)) := blkT_cell hk rfl; have c2 : x3.cell? ⟨w.heap.size, 2, none⟩ = some (.int .i64 (num : Int)) := blkT_cell hk rfl; have c3 : x3.cell? ⟨w.heap.size, 3, none⟩ = some (.int .i64 0) := blkT_cell hk rfl; have c4 : x3.cell? ⟨w.heap.size, 4, none⟩ = some (.int .i64 0) := blkT_cell hk rfl; have c5 : x3.cell? ⟨w.heap.size, 5, none⟩ = some (.int .i64 0) := blkT_cell hk rfl; have c6 : x3.cell? ⟨w.heap.size, 6, none⟩ = some (.int .i64 0) := blkT_cell hk rfl; have c7 : x3.cell? ⟨w.heap.size, 7, none⟩ = some (.int .i64 0) := blkT_cell hk rfl; obtain ⟨a3, cap3, hv⟩ := hr.anyForm; subst hv)
  go_wp2_with fail
  refine (U2.out _).mono ?_
  rintro e _ ⟨rfl, rfl⟩
  go_wp2_with fail
  refine (U3.out _).mono ?_
  rintro e _ ⟨rfl, rfl⟩
  go_wp2_with fail
  refine (U4.out _).mono ?_
  rintro e _ ⟨rfl, rfl⟩
  go_wp2_with fail
  have hr : Own 5 .u8 _ w.heap.size _ _ := Own.down hr (show w.heap.size ≤ _ by omega)
  rw [← EY.out] at hr
  go_ret2
  exact .inl ⟨EB.out, _, rfl, hr, hB⟩

end Go.Proofs.Ytpeeaapheohehaa
