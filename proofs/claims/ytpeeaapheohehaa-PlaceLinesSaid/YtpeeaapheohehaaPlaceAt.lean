/- The walk of the reference's answer to what a word is. -/
import Derived.Test.YtpeeaapheohehaaPlace3
import Derived.Test.YtpeeaapheohehaaPlaceRef
namespace Go.Proofs.Ytpeeaapheohehaa
open Go.RowKit
set_option linter.unusedVariables false
set_option linter.unusedSimpArgs false


set_option maxHeartbeats 3200000 in
theorem refAtHit1 (t p s x q : Int) (w : World) (hr : rightC t p s = true) (q0 : 0 ≤ q) (q1 : q ≤ t) (r0 : makersN t p + 120 * q ≤ x) (r1 : x < makersN t p + 120 * q + 16) :
    Calls Try.prog 36 #[.agg #[.int .i64 t, .int .i64 p, .int .i64 s], .int .i64 x] w fun e w' => e = .returned (atV t p s x) ∧ Below w.heap.size w w' := by
  obtain ⟨⟨h1, h2⟩, ⟨h3, h4⟩, h5, h6⟩ := rightC_of hr
  have mb := makers_bd ⟨⟨h1, h2⟩, h3, h4⟩
  have cb : 58 ≤ cellsN t p ∧ cellsN t p ≤ 6238 := by unfold cellsN; omega
  have e1 : (x - makersN t p) / 120 = q := by omega
  have e2 : (x - makersN t p) % 120 = x - (makersN t p + 120 * q) := by omega
  have H := hid (show atV t p s x = .agg #[.int .i64 4, .int .i64 (q), .int .i64 (x - (makersN t p + 120 * q))] by rw [atV, if_pos ⟨hr, by omega, by omega⟩, if_neg (by omega), if_neg (by omega), if_pos (by omega), e1, e2, madeV, if_pos (by omega)])
  clear e1 e2
  have N := hid (show wordsC t p s = makersN t p + 120 * (t + 1) by rw [wordsC, hr]; rfl)
  have C := hid (show cellsC t p s = cellsN t p by rw [cellsC, hr]; rfl)
  have RR := hid hr
  have d8 : (x == 8) = false := by rw [beq_eq_false_iff_ne]; omega
  clear hr
  go_enter Try.func36, Try.ntmps36
  go_wp2_with fail
  refine (refWords _ _ _ _).mono ?_
  rw [N.out]
  rintro e w1 ⟨rfl, hb1⟩
  obtain ⟨hc1, hf1, hz1⟩ := after hb1
  try simp at hz1
  have z1_0 : w.heap.size < w1.heap.size := by omega
  have z1_1 : w.heap.size + 1 < w1.heap.size := by omega
  have c1_0 : w1.cell? ⟨w.heap.size, 0, none⟩ = some (.int .i64 t) := by rw [hc1 _ _ (by simp; omega)]; exact cellOld (by simp) (cellNew rfl rfl)
  have k1_0 : w1.cell? ⟨w.heap.size + 1, 0, none⟩ = some (.int .i64 0) := by rw [hc1 _ _ (by simp)]; exact cellNew (by simp) rfl
  have c1_1 : w1.cell? ⟨w.heap.size, 1, none⟩ = some (.int .i64 p) := by rw [hc1 _ _ (by simp; omega)]; exact cellOld (by simp) (cellNew rfl rfl)
  have k1_1 : w1.cell? ⟨w.heap.size + 1, 1, none⟩ = some (.int .i64 0) := by rw [hc1 _ _ (by simp)]; exact cellNew (by simp) rfl
  have c1_2 : w1.cell? ⟨w.heap.size, 2, none⟩ = some (.int .i64 s) := by rw [hc1 _ _ (by simp; omega)]; exact cellOld (by simp) (cellNew rfl rfl)
  have k1_2 : w1.cell? ⟨w.heap.size + 1, 2, none⟩ = some (.int .i64 0) := by rw [hc1 _ _ (by simp)]; exact cellNew (by simp) rfl
  have m1 : ∀ o, w1.frozen? ⟨w.heap.size + 1, o, none⟩ = false := by intro o; rw [hf1 _ _ (by (try simp) <;> omega)]; simp
  clear hc1
  go_wp2_with fail
  refine (refCells _ _ _ _).mono ?_
  rw [C.out]
  rintro e w2 ⟨rfl, hb2⟩
  obtain ⟨hc2, hf2, hz2⟩ := after hb2
  try simp at hz2
  have z2_0 : w.heap.size < w2.heap.size := by omega
  have z2_1 : w.heap.size + 1 < w2.heap.size := by omega
  have c2_0 : w2.cell? ⟨w.heap.size, 0, none⟩ = some (.int .i64 t) := by rw [hc2 _ _ (by (try simp); omega)]; first | exact c1_0 | exact cellOld (by omega) c1_0
  have k2_0 : w2.cell? ⟨w.heap.size + 1, 0, none⟩ = some (.int .i64 0) := by rw [hc2 _ _ (by (try simp); omega)]; first | exact k1_0 | exact cellOld (by omega) k1_0
  have c2_1 : w2.cell? ⟨w.heap.size, 1, none⟩ = some (.int .i64 p) := by rw [hc2 _ _ (by (try simp); omega)]; first | exact c1_1 | exact cellOld (by omega) c1_1
  have k2_1 : w2.cell? ⟨w.heap.size + 1, 1, none⟩ = some (.int .i64 0) := by rw [hc2 _ _ (by (try simp); omega)]; first | exact k1_1 | exact cellOld (by omega) k1_1
  have c2_2 : w2.cell? ⟨w.heap.size, 2, none⟩ = some (.int .i64 s) := by rw [hc2 _ _ (by (try simp); omega)]; first | exact c1_2 | exact cellOld (by omega) c1_2
  have k2_2 : w2.cell? ⟨w.heap.size + 1, 2, none⟩ = some (.int .i64 0) := by rw [hc2 _ _ (by (try simp); omega)]; first | exact k1_2 | exact cellOld (by omega) k1_2
  have m2 : ∀ o, w2.frozen? ⟨w.heap.size + 1, o, none⟩ = false := by intro o; rw [hf2 _ _ (by (try simp) <;> omega)]; first | exact m1 o | (rw [frozen?_alloc_cells]; exact m1 o)
  clear hc2
  go_wp2_with fail
  go_loopw [5] (fun v wr => ∃ k : Int, 0 ≤ k ∧ k ≤ q ∧ v = .int .i64 k ∧ Below w2.heap.size w2 wr) (fun v _ => (t + 1 - intOf v).toNat)
  case atStart => exact ⟨0, by omega, by omega, rfl, Below.refl _ _⟩
  case round =>
    obtain ⟨k, g1, g2, rfl, hbr⟩ := hrel
    obtain ⟨hcr, hfr, hzr⟩ := after hbr
    have zr_0 : w.heap.size < wr.heap.size := by omega
    have zr_1 : w.heap.size + 1 < wr.heap.size := by omega
    have cr_0 : wr.cell? ⟨w.heap.size, 0, none⟩ = some (.int .i64 t) := by rw [hcr _ _ (by (try simp); omega)]; first | exact c2_0 | exact cellOld (by omega) c2_0
    have kr_0 : wr.cell? ⟨w.heap.size + 1, 0, none⟩ = some (.int .i64 0) := by rw [hcr _ _ (by (try simp); omega)]; first | exact k2_0 | exact cellOld (by omega) k2_0
    have cr_1 : wr.cell? ⟨w.heap.size, 1, none⟩ = some (.int .i64 p) := by rw [hcr _ _ (by (try simp); omega)]; first | exact c2_1 | exact cellOld (by omega) c2_1
    have kr_1 : wr.cell? ⟨w.heap.size + 1, 1, none⟩ = some (.int .i64 0) := by rw [hcr _ _ (by (try simp); omega)]; first | exact k2_1 | exact cellOld (by omega) k2_1
    have cr_2 : wr.cell? ⟨w.heap.size, 2, none⟩ = some (.int .i64 s) := by rw [hcr _ _ (by (try simp); omega)]; first | exact c2_2 | exact cellOld (by omega) c2_2
    have kr_2 : wr.cell? ⟨w.heap.size + 1, 2, none⟩ = some (.int .i64 0) := by rw [hcr _ _ (by (try simp); omega)]; first | exact k2_2 | exact cellOld (by omega) k2_2
    have mr : ∀ o, wr.frozen? ⟨w.heap.size + 1, o, none⟩ = false := by intro o; rw [hfr _ _ (by (try simp) <;> omega)]; first | exact m2 o | (rw [frozen?_alloc_cells]; exact m2 o)
    clear hcr
    by_cases hk : k = q
    · subst hk
      have d16 : (x - (makersN t p + 120 * k) == 16) = false := by rw [beq_eq_false_iff_ne]; omega
      have M := hid (show makerV t p s k = makersN t p + 120 * k by rw [makerV, if_pos ⟨RR.out, by omega⟩])
      go_wp2_with fail
      refine (refMaker t p s k _).mono ?_
      rw [M.out]
      rintro e w5 ⟨rfl, hb5⟩
      obtain ⟨hc5, hf5, hz5⟩ := after hb5
      have z5_0 : w.heap.size < w5.heap.size := by omega
      have z5_1 : w.heap.size + 1 < w5.heap.size := by omega
      have c5_0 : w5.cell? ⟨w.heap.size, 0, none⟩ = some (.int .i64 t) := by rw [hc5 _ _ (by (try simp); omega)]; first | exact cr_0 | exact cellOld (by omega) cr_0
      have k5_0 : w5.cell? ⟨w.heap.size + 1, 0, none⟩ = some (.int .i64 0) := by rw [hc5 _ _ (by (try simp); omega)]; first | exact kr_0 | exact cellOld (by omega) kr_0
      have c5_1 : w5.cell? ⟨w.heap.size, 1, none⟩ = some (.int .i64 p) := by rw [hc5 _ _ (by (try simp); omega)]; first | exact cr_1 | exact cellOld (by omega) cr_1
      have k5_1 : w5.cell? ⟨w.heap.size + 1, 1, none⟩ = some (.int .i64 0) := by rw [hc5 _ _ (by (try simp); omega)]; first | exact kr_1 | exact cellOld (by omega) kr_1
      have c5_2 : w5.cell? ⟨w.heap.size, 2, none⟩ = some (.int .i64 s) := by rw [hc5 _ _ (by (try simp); omega)]; first | exact cr_2 | exact cellOld (by omega) cr_2
      have k5_2 : w5.cell? ⟨w.heap.size + 1, 2, none⟩ = some (.int .i64 0) := by rw [hc5 _ _ (by (try simp); omega)]; first | exact kr_2 | exact cellOld (by omega) kr_2
      have m5 : ∀ o, w5.frozen? ⟨w.heap.size + 1, o, none⟩ = false := by intro o; rw [hf5 _ _ (by (try simp) <;> omega)]; first | exact mr o | (rw [frozen?_alloc_cells]; exact mr o)
      clear hc5
      go_wp2_with fail
      exact bodyPost_ret (v := .agg #[.int .i64 4, .int .i64 (k), .int .i64 (x - (makersN t p + 120 * k))]) (by simp [results, Try.results36, go_sem, k5_0, k5_1, k5_2, z5_0, z5_1]) rfl ⟨by rw [H.out], bel⟩
    · have hlt : k < q := by omega
      have d16 : (x - (makersN t p + 120 * k) == 16) = false := by rw [beq_eq_false_iff_ne]; omega
      clear hk
      have M := hid (show makerV t p s k = makersN t p + 120 * k by rw [makerV, if_pos ⟨RR.out, by omega⟩])
      go_wp2_with fail
      refine (refMaker t p s k _).mono ?_
      rw [M.out]
      rintro e w5 ⟨rfl, hb5⟩
      obtain ⟨hc5, hf5, hz5⟩ := after hb5
      have z5_0 : w.heap.size < w5.heap.size := by omega
      have z5_1 : w.heap.size + 1 < w5.heap.size := by omega
      have c5_0 : w5.cell? ⟨w.heap.size, 0, none⟩ = some (.int .i64 t) := by rw [hc5 _ _ (by (try simp); omega)]; first | exact cr_0 | exact cellOld (by omega) cr_0
      have k5_0 : w5.cell? ⟨w.heap.size + 1, 0, none⟩ = some (.int .i64 0) := by rw [hc5 _ _ (by (try simp); omega)]; first | exact kr_0 | exact cellOld (by omega) kr_0
      have c5_1 : w5.cell? ⟨w.heap.size, 1, none⟩ = some (.int .i64 p) := by rw [hc5 _ _ (by (try simp); omega)]; first | exact cr_1 | exact cellOld (by omega) cr_1
      have k5_1 : w5.cell? ⟨w.heap.size + 1, 1, none⟩ = some (.int .i64 0) := by rw [hc5 _ _ (by (try simp); omega)]; first | exact kr_1 | exact cellOld (by omega) kr_1
      have c5_2 : w5.cell? ⟨w.heap.size, 2, none⟩ = some (.int .i64 s) := by rw [hc5 _ _ (by (try simp); omega)]; first | exact cr_2 | exact cellOld (by omega) cr_2
      have k5_2 : w5.cell? ⟨w.heap.size + 1, 2, none⟩ = some (.int .i64 0) := by rw [hc5 _ _ (by (try simp); omega)]; first | exact kr_2 | exact cellOld (by omega) kr_2
      have m5 : ∀ o, w5.frozen? ⟨w.heap.size + 1, o, none⟩ = false := by intro o; rw [hf5 _ _ (by (try simp) <;> omega)]; first | exact mr o | (rw [frozen?_alloc_cells]; exact mr o)
      clear hc5
      go_wp2_with fail
      go_roundw
      case rel => exact ⟨k + 1, by omega, by omega, rfl, bel⟩
      case measure => simp [intOf]; omega

set_option maxHeartbeats 3200000 in
theorem refAtHit2 (t p s x q : Int) (w : World) (hr : rightC t p s = true) (q0 : 0 ≤ q) (q1 : q ≤ t) (r0 : x = makersN t p + 120 * q + 16) :
    Calls Try.prog 36 #[.agg #[.int .i64 t, .int .i64 p, .int .i64 s], .int .i64 x] w fun e w' => e = .returned (atV t p s x) ∧ Below w.heap.size w w' := by
  obtain ⟨⟨h1, h2⟩, ⟨h3, h4⟩, h5, h6⟩ := rightC_of hr
  have mb := makers_bd ⟨⟨h1, h2⟩, h3, h4⟩
  have cb : 58 ≤ cellsN t p ∧ cellsN t p ≤ 6238 := by unfold cellsN; omega
  have e1 : (x - makersN t p) / 120 = q := by omega
  have e2 : (x - makersN t p) % 120 = x - (makersN t p + 120 * q) := by omega
  have H := hid (show atV t p s x = .agg #[.int .i64 5, .int .i64 (q), .int .i64 (0)] by rw [atV, if_pos ⟨hr, by omega, by omega⟩, if_neg (by omega), if_neg (by omega), if_pos (by omega), e1, e2, madeV, if_neg (by omega), if_pos (by omega)])
  clear e1 e2
  have N := hid (show wordsC t p s = makersN t p + 120 * (t + 1) by rw [wordsC, hr]; rfl)
  have C := hid (show cellsC t p s = cellsN t p by rw [cellsC, hr]; rfl)
  have RR := hid hr
  have d8 : (x == 8) = false := by rw [beq_eq_false_iff_ne]; omega
  clear hr
  go_enter Try.func36, Try.ntmps36
  go_wp2_with fail
  refine (refWords _ _ _ _).mono ?_
  rw [N.out]
  rintro e w1 ⟨rfl, hb1⟩
  obtain ⟨hc1, hf1, hz1⟩ := after hb1
  try simp at hz1
  have z1_0 : w.heap.size < w1.heap.size := by omega
  have z1_1 : w.heap.size + 1 < w1.heap.size := by omega
  have c1_0 : w1.cell? ⟨w.heap.size, 0, none⟩ = some (.int .i64 t) := by rw [hc1 _ _ (by simp; omega)]; exact cellOld (by simp) (cellNew rfl rfl)
  have k1_0 : w1.cell? ⟨w.heap.size + 1, 0, none⟩ = some (.int .i64 0) := by rw [hc1 _ _ (by simp)]; exact cellNew (by simp) rfl
  have c1_1 : w1.cell? ⟨w.heap.size, 1, none⟩ = some (.int .i64 p) := by rw [hc1 _ _ (by simp; omega)]; exact cellOld (by simp) (cellNew rfl rfl)
  have k1_1 : w1.cell? ⟨w.heap.size + 1, 1, none⟩ = some (.int .i64 0) := by rw [hc1 _ _ (by simp)]; exact cellNew (by simp) rfl
  have c1_2 : w1.cell? ⟨w.heap.size, 2, none⟩ = some (.int .i64 s) := by rw [hc1 _ _ (by simp; omega)]; exact cellOld (by simp) (cellNew rfl rfl)
  have k1_2 : w1.cell? ⟨w.heap.size + 1, 2, none⟩ = some (.int .i64 0) := by rw [hc1 _ _ (by simp)]; exact cellNew (by simp) rfl
  have m1 : ∀ o, w1.frozen? ⟨w.heap.size + 1, o, none⟩ = false := by intro o; rw [hf1 _ _ (by (try simp) <;> omega)]; simp
  clear hc1
  go_wp2_with fail
  refine (refCells _ _ _ _).mono ?_
  rw [C.out]
  rintro e w2 ⟨rfl, hb2⟩
  obtain ⟨hc2, hf2, hz2⟩ := after hb2
  try simp at hz2
  have z2_0 : w.heap.size < w2.heap.size := by omega
  have z2_1 : w.heap.size + 1 < w2.heap.size := by omega
  have c2_0 : w2.cell? ⟨w.heap.size, 0, none⟩ = some (.int .i64 t) := by rw [hc2 _ _ (by (try simp); omega)]; first | exact c1_0 | exact cellOld (by omega) c1_0
  have k2_0 : w2.cell? ⟨w.heap.size + 1, 0, none⟩ = some (.int .i64 0) := by rw [hc2 _ _ (by (try simp); omega)]; first | exact k1_0 | exact cellOld (by omega) k1_0
  have c2_1 : w2.cell? ⟨w.heap.size, 1, none⟩ = some (.int .i64 p) := by rw [hc2 _ _ (by (try simp); omega)]; first | exact c1_1 | exact cellOld (by omega) c1_1
  have k2_1 : w2.cell? ⟨w.heap.size + 1, 1, none⟩ = some (.int .i64 0) := by rw [hc2 _ _ (by (try simp); omega)]; first | exact k1_1 | exact cellOld (by omega) k1_1
  have c2_2 : w2.cell? ⟨w.heap.size, 2, none⟩ = some (.int .i64 s) := by rw [hc2 _ _ (by (try simp); omega)]; first | exact c1_2 | exact cellOld (by omega) c1_2
  have k2_2 : w2.cell? ⟨w.heap.size + 1, 2, none⟩ = some (.int .i64 0) := by rw [hc2 _ _ (by (try simp); omega)]; first | exact k1_2 | exact cellOld (by omega) k1_2
  have m2 : ∀ o, w2.frozen? ⟨w.heap.size + 1, o, none⟩ = false := by intro o; rw [hf2 _ _ (by (try simp) <;> omega)]; first | exact m1 o | (rw [frozen?_alloc_cells]; exact m1 o)
  clear hc2
  go_wp2_with fail
  go_loopw [5] (fun v wr => ∃ k : Int, 0 ≤ k ∧ k ≤ q ∧ v = .int .i64 k ∧ Below w2.heap.size w2 wr) (fun v _ => (t + 1 - intOf v).toNat)
  case atStart => exact ⟨0, by omega, by omega, rfl, Below.refl _ _⟩
  case round =>
    obtain ⟨k, g1, g2, rfl, hbr⟩ := hrel
    obtain ⟨hcr, hfr, hzr⟩ := after hbr
    have zr_0 : w.heap.size < wr.heap.size := by omega
    have zr_1 : w.heap.size + 1 < wr.heap.size := by omega
    have cr_0 : wr.cell? ⟨w.heap.size, 0, none⟩ = some (.int .i64 t) := by rw [hcr _ _ (by (try simp); omega)]; first | exact c2_0 | exact cellOld (by omega) c2_0
    have kr_0 : wr.cell? ⟨w.heap.size + 1, 0, none⟩ = some (.int .i64 0) := by rw [hcr _ _ (by (try simp); omega)]; first | exact k2_0 | exact cellOld (by omega) k2_0
    have cr_1 : wr.cell? ⟨w.heap.size, 1, none⟩ = some (.int .i64 p) := by rw [hcr _ _ (by (try simp); omega)]; first | exact c2_1 | exact cellOld (by omega) c2_1
    have kr_1 : wr.cell? ⟨w.heap.size + 1, 1, none⟩ = some (.int .i64 0) := by rw [hcr _ _ (by (try simp); omega)]; first | exact k2_1 | exact cellOld (by omega) k2_1
    have cr_2 : wr.cell? ⟨w.heap.size, 2, none⟩ = some (.int .i64 s) := by rw [hcr _ _ (by (try simp); omega)]; first | exact c2_2 | exact cellOld (by omega) c2_2
    have kr_2 : wr.cell? ⟨w.heap.size + 1, 2, none⟩ = some (.int .i64 0) := by rw [hcr _ _ (by (try simp); omega)]; first | exact k2_2 | exact cellOld (by omega) k2_2
    have mr : ∀ o, wr.frozen? ⟨w.heap.size + 1, o, none⟩ = false := by intro o; rw [hfr _ _ (by (try simp) <;> omega)]; first | exact m2 o | (rw [frozen?_alloc_cells]; exact m2 o)
    clear hcr
    by_cases hk : k = q
    · subst hk
      have d16 : (x - (makersN t p + 120 * k) == 16) = true := by rw [beq_iff_eq]; omega
      have M := hid (show makerV t p s k = makersN t p + 120 * k by rw [makerV, if_pos ⟨RR.out, by omega⟩])
      go_wp2_with fail
      refine (refMaker t p s k _).mono ?_
      rw [M.out]
      rintro e w5 ⟨rfl, hb5⟩
      obtain ⟨hc5, hf5, hz5⟩ := after hb5
      have z5_0 : w.heap.size < w5.heap.size := by omega
      have z5_1 : w.heap.size + 1 < w5.heap.size := by omega
      have c5_0 : w5.cell? ⟨w.heap.size, 0, none⟩ = some (.int .i64 t) := by rw [hc5 _ _ (by (try simp); omega)]; first | exact cr_0 | exact cellOld (by omega) cr_0
      have k5_0 : w5.cell? ⟨w.heap.size + 1, 0, none⟩ = some (.int .i64 0) := by rw [hc5 _ _ (by (try simp); omega)]; first | exact kr_0 | exact cellOld (by omega) kr_0
      have c5_1 : w5.cell? ⟨w.heap.size, 1, none⟩ = some (.int .i64 p) := by rw [hc5 _ _ (by (try simp); omega)]; first | exact cr_1 | exact cellOld (by omega) cr_1
      have k5_1 : w5.cell? ⟨w.heap.size + 1, 1, none⟩ = some (.int .i64 0) := by rw [hc5 _ _ (by (try simp); omega)]; first | exact kr_1 | exact cellOld (by omega) kr_1
      have c5_2 : w5.cell? ⟨w.heap.size, 2, none⟩ = some (.int .i64 s) := by rw [hc5 _ _ (by (try simp); omega)]; first | exact cr_2 | exact cellOld (by omega) cr_2
      have k5_2 : w5.cell? ⟨w.heap.size + 1, 2, none⟩ = some (.int .i64 0) := by rw [hc5 _ _ (by (try simp); omega)]; first | exact kr_2 | exact cellOld (by omega) kr_2
      have m5 : ∀ o, w5.frozen? ⟨w.heap.size + 1, o, none⟩ = false := by intro o; rw [hf5 _ _ (by (try simp) <;> omega)]; first | exact mr o | (rw [frozen?_alloc_cells]; exact mr o)
      clear hc5
      go_wp2_with fail
      exact bodyPost_ret (v := .agg #[.int .i64 5, .int .i64 (k), .int .i64 (0)]) (by simp [results, Try.results36, go_sem, k5_0, k5_1, k5_2, z5_0, z5_1]) rfl ⟨by rw [H.out], bel⟩
    · have hlt : k < q := by omega
      have d16 : (x - (makersN t p + 120 * k) == 16) = false := by rw [beq_eq_false_iff_ne]; omega
      clear hk
      have M := hid (show makerV t p s k = makersN t p + 120 * k by rw [makerV, if_pos ⟨RR.out, by omega⟩])
      go_wp2_with fail
      refine (refMaker t p s k _).mono ?_
      rw [M.out]
      rintro e w5 ⟨rfl, hb5⟩
      obtain ⟨hc5, hf5, hz5⟩ := after hb5
      have z5_0 : w.heap.size < w5.heap.size := by omega
      have z5_1 : w.heap.size + 1 < w5.heap.size := by omega
      have c5_0 : w5.cell? ⟨w.heap.size, 0, none⟩ = some (.int .i64 t) := by rw [hc5 _ _ (by (try simp); omega)]; first | exact cr_0 | exact cellOld (by omega) cr_0
      have k5_0 : w5.cell? ⟨w.heap.size + 1, 0, none⟩ = some (.int .i64 0) := by rw [hc5 _ _ (by (try simp); omega)]; first | exact kr_0 | exact cellOld (by omega) kr_0
      have c5_1 : w5.cell? ⟨w.heap.size, 1, none⟩ = some (.int .i64 p) := by rw [hc5 _ _ (by (try simp); omega)]; first | exact cr_1 | exact cellOld (by omega) cr_1
      have k5_1 : w5.cell? ⟨w.heap.size + 1, 1, none⟩ = some (.int .i64 0) := by rw [hc5 _ _ (by (try simp); omega)]; first | exact kr_1 | exact cellOld (by omega) kr_1
      have c5_2 : w5.cell? ⟨w.heap.size, 2, none⟩ = some (.int .i64 s) := by rw [hc5 _ _ (by (try simp); omega)]; first | exact cr_2 | exact cellOld (by omega) cr_2
      have k5_2 : w5.cell? ⟨w.heap.size + 1, 2, none⟩ = some (.int .i64 0) := by rw [hc5 _ _ (by (try simp); omega)]; first | exact kr_2 | exact cellOld (by omega) kr_2
      have m5 : ∀ o, w5.frozen? ⟨w.heap.size + 1, o, none⟩ = false := by intro o; rw [hf5 _ _ (by (try simp) <;> omega)]; first | exact mr o | (rw [frozen?_alloc_cells]; exact mr o)
      clear hc5
      go_wp2_with fail
      go_roundw
      case rel => exact ⟨k + 1, by omega, by omega, rfl, bel⟩
      case measure => simp [intOf]; omega

set_option maxHeartbeats 3200000 in
theorem refAtHit3 (t p s x q : Int) (w : World) (hr : rightC t p s = true) (q0 : 0 ≤ q) (q1 : q ≤ t) (r0 : makersN t p + 120 * q + 24 ≤ x) (r1 : x < makersN t p + 120 * q + 120) :
    Calls Try.prog 36 #[.agg #[.int .i64 t, .int .i64 p, .int .i64 s], .int .i64 x] w fun e w' => e = .returned (atV t p s x) ∧ Below w.heap.size w w' := by
  obtain ⟨⟨h1, h2⟩, ⟨h3, h4⟩, h5, h6⟩ := rightC_of hr
  have mb := makers_bd ⟨⟨h1, h2⟩, h3, h4⟩
  have cb : 58 ≤ cellsN t p ∧ cellsN t p ≤ 6238 := by unfold cellsN; omega
  have e1 : (x - makersN t p) / 120 = q := by omega
  have e2 : (x - makersN t p) % 120 = x - (makersN t p + 120 * q) := by omega
  have H := hid (show atV t p s x = .agg #[.int .i64 6, .int .i64 (q), .int .i64 (x - (makersN t p + 120 * q) - 24)] by rw [atV, if_pos ⟨hr, by omega, by omega⟩, if_neg (by omega), if_neg (by omega), if_pos (by omega), e1, e2, madeV, if_neg (by omega), if_neg (by omega), if_pos (by omega)])
  clear e1 e2
  have N := hid (show wordsC t p s = makersN t p + 120 * (t + 1) by rw [wordsC, hr]; rfl)
  have C := hid (show cellsC t p s = cellsN t p by rw [cellsC, hr]; rfl)
  have RR := hid hr
  have d8 : (x == 8) = false := by rw [beq_eq_false_iff_ne]; omega
  clear hr
  go_enter Try.func36, Try.ntmps36
  go_wp2_with fail
  refine (refWords _ _ _ _).mono ?_
  rw [N.out]
  rintro e w1 ⟨rfl, hb1⟩
  obtain ⟨hc1, hf1, hz1⟩ := after hb1
  try simp at hz1
  have z1_0 : w.heap.size < w1.heap.size := by omega
  have z1_1 : w.heap.size + 1 < w1.heap.size := by omega
  have c1_0 : w1.cell? ⟨w.heap.size, 0, none⟩ = some (.int .i64 t) := by rw [hc1 _ _ (by simp; omega)]; exact cellOld (by simp) (cellNew rfl rfl)
  have k1_0 : w1.cell? ⟨w.heap.size + 1, 0, none⟩ = some (.int .i64 0) := by rw [hc1 _ _ (by simp)]; exact cellNew (by simp) rfl
  have c1_1 : w1.cell? ⟨w.heap.size, 1, none⟩ = some (.int .i64 p) := by rw [hc1 _ _ (by simp; omega)]; exact cellOld (by simp) (cellNew rfl rfl)
  have k1_1 : w1.cell? ⟨w.heap.size + 1, 1, none⟩ = some (.int .i64 0) := by rw [hc1 _ _ (by simp)]; exact cellNew (by simp) rfl
  have c1_2 : w1.cell? ⟨w.heap.size, 2, none⟩ = some (.int .i64 s) := by rw [hc1 _ _ (by simp; omega)]; exact cellOld (by simp) (cellNew rfl rfl)
  have k1_2 : w1.cell? ⟨w.heap.size + 1, 2, none⟩ = some (.int .i64 0) := by rw [hc1 _ _ (by simp)]; exact cellNew (by simp) rfl
  have m1 : ∀ o, w1.frozen? ⟨w.heap.size + 1, o, none⟩ = false := by intro o; rw [hf1 _ _ (by (try simp) <;> omega)]; simp
  clear hc1
  go_wp2_with fail
  refine (refCells _ _ _ _).mono ?_
  rw [C.out]
  rintro e w2 ⟨rfl, hb2⟩
  obtain ⟨hc2, hf2, hz2⟩ := after hb2
  try simp at hz2
  have z2_0 : w.heap.size < w2.heap.size := by omega
  have z2_1 : w.heap.size + 1 < w2.heap.size := by omega
  have c2_0 : w2.cell? ⟨w.heap.size, 0, none⟩ = some (.int .i64 t) := by rw [hc2 _ _ (by (try simp); omega)]; first | exact c1_0 | exact cellOld (by omega) c1_0
  have k2_0 : w2.cell? ⟨w.heap.size + 1, 0, none⟩ = some (.int .i64 0) := by rw [hc2 _ _ (by (try simp); omega)]; first | exact k1_0 | exact cellOld (by omega) k1_0
  have c2_1 : w2.cell? ⟨w.heap.size, 1, none⟩ = some (.int .i64 p) := by rw [hc2 _ _ (by (try simp); omega)]; first | exact c1_1 | exact cellOld (by omega) c1_1
  have k2_1 : w2.cell? ⟨w.heap.size + 1, 1, none⟩ = some (.int .i64 0) := by rw [hc2 _ _ (by (try simp); omega)]; first | exact k1_1 | exact cellOld (by omega) k1_1
  have c2_2 : w2.cell? ⟨w.heap.size, 2, none⟩ = some (.int .i64 s) := by rw [hc2 _ _ (by (try simp); omega)]; first | exact c1_2 | exact cellOld (by omega) c1_2
  have k2_2 : w2.cell? ⟨w.heap.size + 1, 2, none⟩ = some (.int .i64 0) := by rw [hc2 _ _ (by (try simp); omega)]; first | exact k1_2 | exact cellOld (by omega) k1_2
  have m2 : ∀ o, w2.frozen? ⟨w.heap.size + 1, o, none⟩ = false := by intro o; rw [hf2 _ _ (by (try simp) <;> omega)]; first | exact m1 o | (rw [frozen?_alloc_cells]; exact m1 o)
  clear hc2
  go_wp2_with fail
  go_loopw [5] (fun v wr => ∃ k : Int, 0 ≤ k ∧ k ≤ q ∧ v = .int .i64 k ∧ Below w2.heap.size w2 wr) (fun v _ => (t + 1 - intOf v).toNat)
  case atStart => exact ⟨0, by omega, by omega, rfl, Below.refl _ _⟩
  case round =>
    obtain ⟨k, g1, g2, rfl, hbr⟩ := hrel
    obtain ⟨hcr, hfr, hzr⟩ := after hbr
    have zr_0 : w.heap.size < wr.heap.size := by omega
    have zr_1 : w.heap.size + 1 < wr.heap.size := by omega
    have cr_0 : wr.cell? ⟨w.heap.size, 0, none⟩ = some (.int .i64 t) := by rw [hcr _ _ (by (try simp); omega)]; first | exact c2_0 | exact cellOld (by omega) c2_0
    have kr_0 : wr.cell? ⟨w.heap.size + 1, 0, none⟩ = some (.int .i64 0) := by rw [hcr _ _ (by (try simp); omega)]; first | exact k2_0 | exact cellOld (by omega) k2_0
    have cr_1 : wr.cell? ⟨w.heap.size, 1, none⟩ = some (.int .i64 p) := by rw [hcr _ _ (by (try simp); omega)]; first | exact c2_1 | exact cellOld (by omega) c2_1
    have kr_1 : wr.cell? ⟨w.heap.size + 1, 1, none⟩ = some (.int .i64 0) := by rw [hcr _ _ (by (try simp); omega)]; first | exact k2_1 | exact cellOld (by omega) k2_1
    have cr_2 : wr.cell? ⟨w.heap.size, 2, none⟩ = some (.int .i64 s) := by rw [hcr _ _ (by (try simp); omega)]; first | exact c2_2 | exact cellOld (by omega) c2_2
    have kr_2 : wr.cell? ⟨w.heap.size + 1, 2, none⟩ = some (.int .i64 0) := by rw [hcr _ _ (by (try simp); omega)]; first | exact k2_2 | exact cellOld (by omega) k2_2
    have mr : ∀ o, wr.frozen? ⟨w.heap.size + 1, o, none⟩ = false := by intro o; rw [hfr _ _ (by (try simp) <;> omega)]; first | exact m2 o | (rw [frozen?_alloc_cells]; exact m2 o)
    clear hcr
    by_cases hk : k = q
    · subst hk
      have d16 : (x - (makersN t p + 120 * k) == 16) = false := by rw [beq_eq_false_iff_ne]; omega
      have M := hid (show makerV t p s k = makersN t p + 120 * k by rw [makerV, if_pos ⟨RR.out, by omega⟩])
      go_wp2_with fail
      refine (refMaker t p s k _).mono ?_
      rw [M.out]
      rintro e w5 ⟨rfl, hb5⟩
      obtain ⟨hc5, hf5, hz5⟩ := after hb5
      have z5_0 : w.heap.size < w5.heap.size := by omega
      have z5_1 : w.heap.size + 1 < w5.heap.size := by omega
      have c5_0 : w5.cell? ⟨w.heap.size, 0, none⟩ = some (.int .i64 t) := by rw [hc5 _ _ (by (try simp); omega)]; first | exact cr_0 | exact cellOld (by omega) cr_0
      have k5_0 : w5.cell? ⟨w.heap.size + 1, 0, none⟩ = some (.int .i64 0) := by rw [hc5 _ _ (by (try simp); omega)]; first | exact kr_0 | exact cellOld (by omega) kr_0
      have c5_1 : w5.cell? ⟨w.heap.size, 1, none⟩ = some (.int .i64 p) := by rw [hc5 _ _ (by (try simp); omega)]; first | exact cr_1 | exact cellOld (by omega) cr_1
      have k5_1 : w5.cell? ⟨w.heap.size + 1, 1, none⟩ = some (.int .i64 0) := by rw [hc5 _ _ (by (try simp); omega)]; first | exact kr_1 | exact cellOld (by omega) kr_1
      have c5_2 : w5.cell? ⟨w.heap.size, 2, none⟩ = some (.int .i64 s) := by rw [hc5 _ _ (by (try simp); omega)]; first | exact cr_2 | exact cellOld (by omega) cr_2
      have k5_2 : w5.cell? ⟨w.heap.size + 1, 2, none⟩ = some (.int .i64 0) := by rw [hc5 _ _ (by (try simp); omega)]; first | exact kr_2 | exact cellOld (by omega) kr_2
      have m5 : ∀ o, w5.frozen? ⟨w.heap.size + 1, o, none⟩ = false := by intro o; rw [hf5 _ _ (by (try simp) <;> omega)]; first | exact mr o | (rw [frozen?_alloc_cells]; exact mr o)
      clear hc5
      go_wp2_with fail
      exact bodyPost_ret (v := .agg #[.int .i64 6, .int .i64 (k), .int .i64 (x - (makersN t p + 120 * k) - 24)]) (by simp [results, Try.results36, go_sem, k5_0, k5_1, k5_2, z5_0, z5_1]) rfl ⟨by rw [H.out], bel⟩
    · have hlt : k < q := by omega
      have d16 : (x - (makersN t p + 120 * k) == 16) = false := by rw [beq_eq_false_iff_ne]; omega
      clear hk
      have M := hid (show makerV t p s k = makersN t p + 120 * k by rw [makerV, if_pos ⟨RR.out, by omega⟩])
      go_wp2_with fail
      refine (refMaker t p s k _).mono ?_
      rw [M.out]
      rintro e w5 ⟨rfl, hb5⟩
      obtain ⟨hc5, hf5, hz5⟩ := after hb5
      have z5_0 : w.heap.size < w5.heap.size := by omega
      have z5_1 : w.heap.size + 1 < w5.heap.size := by omega
      have c5_0 : w5.cell? ⟨w.heap.size, 0, none⟩ = some (.int .i64 t) := by rw [hc5 _ _ (by (try simp); omega)]; first | exact cr_0 | exact cellOld (by omega) cr_0
      have k5_0 : w5.cell? ⟨w.heap.size + 1, 0, none⟩ = some (.int .i64 0) := by rw [hc5 _ _ (by (try simp); omega)]; first | exact kr_0 | exact cellOld (by omega) kr_0
      have c5_1 : w5.cell? ⟨w.heap.size, 1, none⟩ = some (.int .i64 p) := by rw [hc5 _ _ (by (try simp); omega)]; first | exact cr_1 | exact cellOld (by omega) cr_1
      have k5_1 : w5.cell? ⟨w.heap.size + 1, 1, none⟩ = some (.int .i64 0) := by rw [hc5 _ _ (by (try simp); omega)]; first | exact kr_1 | exact cellOld (by omega) kr_1
      have c5_2 : w5.cell? ⟨w.heap.size, 2, none⟩ = some (.int .i64 s) := by rw [hc5 _ _ (by (try simp); omega)]; first | exact cr_2 | exact cellOld (by omega) cr_2
      have k5_2 : w5.cell? ⟨w.heap.size + 1, 2, none⟩ = some (.int .i64 0) := by rw [hc5 _ _ (by (try simp); omega)]; first | exact kr_2 | exact cellOld (by omega) kr_2
      have m5 : ∀ o, w5.frozen? ⟨w.heap.size + 1, o, none⟩ = false := by intro o; rw [hf5 _ _ (by (try simp) <;> omega)]; first | exact mr o | (rw [frozen?_alloc_cells]; exact mr o)
      clear hc5
      go_wp2_with fail
      go_roundw
      case rel => exact ⟨k + 1, by omega, by omega, rfl, bel⟩
      case measure => simp [intOf]; omega

set_option maxHeartbeats 3200000 in
theorem refAtNone1 (t p s x : Int) (w : World) (hr : rightC t p s = true) (x2 : x < 16) (x0 : 8 < x) (x1 : x < makersN t p + 120 * (t + 1)) (hn : Hid (∀ k : Int, 0 ≤ k → k ≤ t → x - (makersN t p + 120 * k) < 0 ∨ (16 < x - (makersN t p + 120 * k) ∧ x - (makersN t p + 120 * k) < 24) ∨ 120 ≤ x - (makersN t p + 120 * k)))
    (H : Hid (atV t p s x = .agg #[.int .i64 0, .int .i64 0, .int .i64 0])) :
    Calls Try.prog 36 #[.agg #[.int .i64 t, .int .i64 p, .int .i64 s], .int .i64 x] w fun e w' => e = .returned (atV t p s x) ∧ Below w.heap.size w w' := by
  obtain ⟨⟨h1, h2⟩, ⟨h3, h4⟩, h5, h6⟩ := rightC_of hr
  have mb := makers_bd ⟨⟨h1, h2⟩, h3, h4⟩
  have cb : 58 ≤ cellsN t p ∧ cellsN t p ≤ 6238 := by unfold cellsN; omega
  have N := hid (show wordsC t p s = makersN t p + 120 * (t + 1) by rw [wordsC, hr]; rfl)
  have C := hid (show cellsC t p s = cellsN t p by rw [cellsC, hr]; rfl)
  have RR := hid hr
  have d8 : (x == 8) = false := by rw [beq_eq_false_iff_ne]; omega
  clear hr
  go_enter Try.func36, Try.ntmps36
  go_wp2_with fail
  refine (refWords _ _ _ _).mono ?_
  rw [N.out]
  rintro e w1 ⟨rfl, hb1⟩
  obtain ⟨hc1, hf1, hz1⟩ := after hb1
  try simp at hz1
  have z1_0 : w.heap.size < w1.heap.size := by omega
  have z1_1 : w.heap.size + 1 < w1.heap.size := by omega
  have c1_0 : w1.cell? ⟨w.heap.size, 0, none⟩ = some (.int .i64 t) := by rw [hc1 _ _ (by simp; omega)]; exact cellOld (by simp) (cellNew rfl rfl)
  have k1_0 : w1.cell? ⟨w.heap.size + 1, 0, none⟩ = some (.int .i64 0) := by rw [hc1 _ _ (by simp)]; exact cellNew (by simp) rfl
  have c1_1 : w1.cell? ⟨w.heap.size, 1, none⟩ = some (.int .i64 p) := by rw [hc1 _ _ (by simp; omega)]; exact cellOld (by simp) (cellNew rfl rfl)
  have k1_1 : w1.cell? ⟨w.heap.size + 1, 1, none⟩ = some (.int .i64 0) := by rw [hc1 _ _ (by simp)]; exact cellNew (by simp) rfl
  have c1_2 : w1.cell? ⟨w.heap.size, 2, none⟩ = some (.int .i64 s) := by rw [hc1 _ _ (by simp; omega)]; exact cellOld (by simp) (cellNew rfl rfl)
  have k1_2 : w1.cell? ⟨w.heap.size + 1, 2, none⟩ = some (.int .i64 0) := by rw [hc1 _ _ (by simp)]; exact cellNew (by simp) rfl
  have m1 : ∀ o, w1.frozen? ⟨w.heap.size + 1, o, none⟩ = false := by intro o; rw [hf1 _ _ (by (try simp) <;> omega)]; simp
  clear hc1
  go_wp2_with fail
  go_loopw [5] (fun v wr => ∃ k : Int, 0 ≤ k ∧ k ≤ t + 1 ∧ v = .int .i64 k ∧ Below w1.heap.size w1 wr) (fun v _ => (t + 1 - intOf v).toNat)
  case atStart => exact ⟨0, by omega, by omega, rfl, Below.refl _ _⟩
  case round =>
    obtain ⟨k, g1, g2, rfl, hbr⟩ := hrel
    obtain ⟨hcr, hfr, hzr⟩ := after hbr
    have zr_0 : w.heap.size < wr.heap.size := by omega
    have zr_1 : w.heap.size + 1 < wr.heap.size := by omega
    have cr_0 : wr.cell? ⟨w.heap.size, 0, none⟩ = some (.int .i64 t) := by rw [hcr _ _ (by (try simp); omega)]; first | exact c1_0 | exact cellOld (by omega) c1_0
    have kr_0 : wr.cell? ⟨w.heap.size + 1, 0, none⟩ = some (.int .i64 0) := by rw [hcr _ _ (by (try simp); omega)]; first | exact k1_0 | exact cellOld (by omega) k1_0
    have cr_1 : wr.cell? ⟨w.heap.size, 1, none⟩ = some (.int .i64 p) := by rw [hcr _ _ (by (try simp); omega)]; first | exact c1_1 | exact cellOld (by omega) c1_1
    have kr_1 : wr.cell? ⟨w.heap.size + 1, 1, none⟩ = some (.int .i64 0) := by rw [hcr _ _ (by (try simp); omega)]; first | exact k1_1 | exact cellOld (by omega) k1_1
    have cr_2 : wr.cell? ⟨w.heap.size, 2, none⟩ = some (.int .i64 s) := by rw [hcr _ _ (by (try simp); omega)]; first | exact c1_2 | exact cellOld (by omega) c1_2
    have kr_2 : wr.cell? ⟨w.heap.size + 1, 2, none⟩ = some (.int .i64 0) := by rw [hcr _ _ (by (try simp); omega)]; first | exact k1_2 | exact cellOld (by omega) k1_2
    have mr : ∀ o, wr.frozen? ⟨w.heap.size + 1, o, none⟩ = false := by intro o; rw [hfr _ _ (by (try simp) <;> omega)]; first | exact m1 o | (rw [frozen?_alloc_cells]; exact m1 o)
    clear hcr
    by_cases hk : k = t + 1
    · subst hk
      go_wp2_with fail
      exact bodyPost_ret (v := .agg #[.int .i64 0, .int .i64 (0), .int .i64 (0)]) (by simp [results, Try.results36, go_sem, kr_0, kr_1, kr_2, zr_0, zr_1]) rfl ⟨by rw [H.out], bel⟩
    · have hlt : k ≤ t := by omega
      have d16 : (x - (makersN t p + 120 * k) == 16) = false := by rw [beq_eq_false_iff_ne]; have := hn.out k g1 hlt; omega
      clear hk
      rcases (show x - (makersN t p + 120 * k) < 0 by omega) with hi
      · have M := hid (show makerV t p s k = makersN t p + 120 * k by rw [makerV, if_pos ⟨RR.out, by omega⟩])
        go_wp2_with fail
        refine (refMaker t p s k _).mono ?_
        rw [M.out]
        rintro e w5 ⟨rfl, hb5⟩
        obtain ⟨hc5, hf5, hz5⟩ := after hb5
        have z5_0 : w.heap.size < w5.heap.size := by omega
        have z5_1 : w.heap.size + 1 < w5.heap.size := by omega
        have c5_0 : w5.cell? ⟨w.heap.size, 0, none⟩ = some (.int .i64 t) := by rw [hc5 _ _ (by (try simp); omega)]; first | exact cr_0 | exact cellOld (by omega) cr_0
        have k5_0 : w5.cell? ⟨w.heap.size + 1, 0, none⟩ = some (.int .i64 0) := by rw [hc5 _ _ (by (try simp); omega)]; first | exact kr_0 | exact cellOld (by omega) kr_0
        have c5_1 : w5.cell? ⟨w.heap.size, 1, none⟩ = some (.int .i64 p) := by rw [hc5 _ _ (by (try simp); omega)]; first | exact cr_1 | exact cellOld (by omega) cr_1
        have k5_1 : w5.cell? ⟨w.heap.size + 1, 1, none⟩ = some (.int .i64 0) := by rw [hc5 _ _ (by (try simp); omega)]; first | exact kr_1 | exact cellOld (by omega) kr_1
        have c5_2 : w5.cell? ⟨w.heap.size, 2, none⟩ = some (.int .i64 s) := by rw [hc5 _ _ (by (try simp); omega)]; first | exact cr_2 | exact cellOld (by omega) cr_2
        have k5_2 : w5.cell? ⟨w.heap.size + 1, 2, none⟩ = some (.int .i64 0) := by rw [hc5 _ _ (by (try simp); omega)]; first | exact kr_2 | exact cellOld (by omega) kr_2
        have m5 : ∀ o, w5.frozen? ⟨w.heap.size + 1, o, none⟩ = false := by intro o; rw [hf5 _ _ (by (try simp) <;> omega)]; first | exact mr o | (rw [frozen?_alloc_cells]; exact mr o)
        clear hc5
        go_wp2_with fail
        go_roundw
        case rel => exact ⟨k + 1, by omega, by omega, rfl, bel⟩
        case measure => simp [intOf]; omega

set_option maxHeartbeats 3200000 in
theorem refAtNone2 (t p s x : Int) (w : World) (hr : rightC t p s = true) (x2 : 16 + cellsN t p ≤ x) (x0 : 8 < x) (x1 : x < makersN t p + 120 * (t + 1)) (hn : Hid (∀ k : Int, 0 ≤ k → k ≤ t → x - (makersN t p + 120 * k) < 0 ∨ (16 < x - (makersN t p + 120 * k) ∧ x - (makersN t p + 120 * k) < 24) ∨ 120 ≤ x - (makersN t p + 120 * k)))
    (H : Hid (atV t p s x = .agg #[.int .i64 0, .int .i64 0, .int .i64 0])) :
    Calls Try.prog 36 #[.agg #[.int .i64 t, .int .i64 p, .int .i64 s], .int .i64 x] w fun e w' => e = .returned (atV t p s x) ∧ Below w.heap.size w w' := by
  obtain ⟨⟨h1, h2⟩, ⟨h3, h4⟩, h5, h6⟩ := rightC_of hr
  have mb := makers_bd ⟨⟨h1, h2⟩, h3, h4⟩
  have cb : 58 ≤ cellsN t p ∧ cellsN t p ≤ 6238 := by unfold cellsN; omega
  have N := hid (show wordsC t p s = makersN t p + 120 * (t + 1) by rw [wordsC, hr]; rfl)
  have C := hid (show cellsC t p s = cellsN t p by rw [cellsC, hr]; rfl)
  have RR := hid hr
  have d8 : (x == 8) = false := by rw [beq_eq_false_iff_ne]; omega
  clear hr
  go_enter Try.func36, Try.ntmps36
  go_wp2_with fail
  refine (refWords _ _ _ _).mono ?_
  rw [N.out]
  rintro e w1 ⟨rfl, hb1⟩
  obtain ⟨hc1, hf1, hz1⟩ := after hb1
  try simp at hz1
  have z1_0 : w.heap.size < w1.heap.size := by omega
  have z1_1 : w.heap.size + 1 < w1.heap.size := by omega
  have c1_0 : w1.cell? ⟨w.heap.size, 0, none⟩ = some (.int .i64 t) := by rw [hc1 _ _ (by simp; omega)]; exact cellOld (by simp) (cellNew rfl rfl)
  have k1_0 : w1.cell? ⟨w.heap.size + 1, 0, none⟩ = some (.int .i64 0) := by rw [hc1 _ _ (by simp)]; exact cellNew (by simp) rfl
  have c1_1 : w1.cell? ⟨w.heap.size, 1, none⟩ = some (.int .i64 p) := by rw [hc1 _ _ (by simp; omega)]; exact cellOld (by simp) (cellNew rfl rfl)
  have k1_1 : w1.cell? ⟨w.heap.size + 1, 1, none⟩ = some (.int .i64 0) := by rw [hc1 _ _ (by simp)]; exact cellNew (by simp) rfl
  have c1_2 : w1.cell? ⟨w.heap.size, 2, none⟩ = some (.int .i64 s) := by rw [hc1 _ _ (by simp; omega)]; exact cellOld (by simp) (cellNew rfl rfl)
  have k1_2 : w1.cell? ⟨w.heap.size + 1, 2, none⟩ = some (.int .i64 0) := by rw [hc1 _ _ (by simp)]; exact cellNew (by simp) rfl
  have m1 : ∀ o, w1.frozen? ⟨w.heap.size + 1, o, none⟩ = false := by intro o; rw [hf1 _ _ (by (try simp) <;> omega)]; simp
  clear hc1
  go_wp2_with fail
  refine (refCells _ _ _ _).mono ?_
  rw [C.out]
  rintro e w2 ⟨rfl, hb2⟩
  obtain ⟨hc2, hf2, hz2⟩ := after hb2
  try simp at hz2
  have z2_0 : w.heap.size < w2.heap.size := by omega
  have z2_1 : w.heap.size + 1 < w2.heap.size := by omega
  have c2_0 : w2.cell? ⟨w.heap.size, 0, none⟩ = some (.int .i64 t) := by rw [hc2 _ _ (by (try simp); omega)]; first | exact c1_0 | exact cellOld (by omega) c1_0
  have k2_0 : w2.cell? ⟨w.heap.size + 1, 0, none⟩ = some (.int .i64 0) := by rw [hc2 _ _ (by (try simp); omega)]; first | exact k1_0 | exact cellOld (by omega) k1_0
  have c2_1 : w2.cell? ⟨w.heap.size, 1, none⟩ = some (.int .i64 p) := by rw [hc2 _ _ (by (try simp); omega)]; first | exact c1_1 | exact cellOld (by omega) c1_1
  have k2_1 : w2.cell? ⟨w.heap.size + 1, 1, none⟩ = some (.int .i64 0) := by rw [hc2 _ _ (by (try simp); omega)]; first | exact k1_1 | exact cellOld (by omega) k1_1
  have c2_2 : w2.cell? ⟨w.heap.size, 2, none⟩ = some (.int .i64 s) := by rw [hc2 _ _ (by (try simp); omega)]; first | exact c1_2 | exact cellOld (by omega) c1_2
  have k2_2 : w2.cell? ⟨w.heap.size + 1, 2, none⟩ = some (.int .i64 0) := by rw [hc2 _ _ (by (try simp); omega)]; first | exact k1_2 | exact cellOld (by omega) k1_2
  have m2 : ∀ o, w2.frozen? ⟨w.heap.size + 1, o, none⟩ = false := by intro o; rw [hf2 _ _ (by (try simp) <;> omega)]; first | exact m1 o | (rw [frozen?_alloc_cells]; exact m1 o)
  clear hc2
  go_wp2_with fail
  go_loopw [5] (fun v wr => ∃ k : Int, 0 ≤ k ∧ k ≤ t + 1 ∧ v = .int .i64 k ∧ Below w2.heap.size w2 wr) (fun v _ => (t + 1 - intOf v).toNat)
  case atStart => exact ⟨0, by omega, by omega, rfl, Below.refl _ _⟩
  case round =>
    obtain ⟨k, g1, g2, rfl, hbr⟩ := hrel
    obtain ⟨hcr, hfr, hzr⟩ := after hbr
    have zr_0 : w.heap.size < wr.heap.size := by omega
    have zr_1 : w.heap.size + 1 < wr.heap.size := by omega
    have cr_0 : wr.cell? ⟨w.heap.size, 0, none⟩ = some (.int .i64 t) := by rw [hcr _ _ (by (try simp); omega)]; first | exact c2_0 | exact cellOld (by omega) c2_0
    have kr_0 : wr.cell? ⟨w.heap.size + 1, 0, none⟩ = some (.int .i64 0) := by rw [hcr _ _ (by (try simp); omega)]; first | exact k2_0 | exact cellOld (by omega) k2_0
    have cr_1 : wr.cell? ⟨w.heap.size, 1, none⟩ = some (.int .i64 p) := by rw [hcr _ _ (by (try simp); omega)]; first | exact c2_1 | exact cellOld (by omega) c2_1
    have kr_1 : wr.cell? ⟨w.heap.size + 1, 1, none⟩ = some (.int .i64 0) := by rw [hcr _ _ (by (try simp); omega)]; first | exact k2_1 | exact cellOld (by omega) k2_1
    have cr_2 : wr.cell? ⟨w.heap.size, 2, none⟩ = some (.int .i64 s) := by rw [hcr _ _ (by (try simp); omega)]; first | exact c2_2 | exact cellOld (by omega) c2_2
    have kr_2 : wr.cell? ⟨w.heap.size + 1, 2, none⟩ = some (.int .i64 0) := by rw [hcr _ _ (by (try simp); omega)]; first | exact k2_2 | exact cellOld (by omega) k2_2
    have mr : ∀ o, wr.frozen? ⟨w.heap.size + 1, o, none⟩ = false := by intro o; rw [hfr _ _ (by (try simp) <;> omega)]; first | exact m2 o | (rw [frozen?_alloc_cells]; exact m2 o)
    clear hcr
    by_cases hk : k = t + 1
    · subst hk
      go_wp2_with fail
      exact bodyPost_ret (v := .agg #[.int .i64 0, .int .i64 (0), .int .i64 (0)]) (by simp [results, Try.results36, go_sem, kr_0, kr_1, kr_2, zr_0, zr_1]) rfl ⟨by rw [H.out], bel⟩
    · have hlt : k ≤ t := by omega
      have d16 : (x - (makersN t p + 120 * k) == 16) = false := by rw [beq_eq_false_iff_ne]; have := hn.out k g1 hlt; omega
      clear hk
      rcases hn.out k g1 hlt with hi | ⟨hi, hi'⟩ | hi
      · have M := hid (show makerV t p s k = makersN t p + 120 * k by rw [makerV, if_pos ⟨RR.out, by omega⟩])
        go_wp2_with fail
        refine (refMaker t p s k _).mono ?_
        rw [M.out]
        rintro e w5 ⟨rfl, hb5⟩
        obtain ⟨hc5, hf5, hz5⟩ := after hb5
        have z5_0 : w.heap.size < w5.heap.size := by omega
        have z5_1 : w.heap.size + 1 < w5.heap.size := by omega
        have c5_0 : w5.cell? ⟨w.heap.size, 0, none⟩ = some (.int .i64 t) := by rw [hc5 _ _ (by (try simp); omega)]; first | exact cr_0 | exact cellOld (by omega) cr_0
        have k5_0 : w5.cell? ⟨w.heap.size + 1, 0, none⟩ = some (.int .i64 0) := by rw [hc5 _ _ (by (try simp); omega)]; first | exact kr_0 | exact cellOld (by omega) kr_0
        have c5_1 : w5.cell? ⟨w.heap.size, 1, none⟩ = some (.int .i64 p) := by rw [hc5 _ _ (by (try simp); omega)]; first | exact cr_1 | exact cellOld (by omega) cr_1
        have k5_1 : w5.cell? ⟨w.heap.size + 1, 1, none⟩ = some (.int .i64 0) := by rw [hc5 _ _ (by (try simp); omega)]; first | exact kr_1 | exact cellOld (by omega) kr_1
        have c5_2 : w5.cell? ⟨w.heap.size, 2, none⟩ = some (.int .i64 s) := by rw [hc5 _ _ (by (try simp); omega)]; first | exact cr_2 | exact cellOld (by omega) cr_2
        have k5_2 : w5.cell? ⟨w.heap.size + 1, 2, none⟩ = some (.int .i64 0) := by rw [hc5 _ _ (by (try simp); omega)]; first | exact kr_2 | exact cellOld (by omega) kr_2
        have m5 : ∀ o, w5.frozen? ⟨w.heap.size + 1, o, none⟩ = false := by intro o; rw [hf5 _ _ (by (try simp) <;> omega)]; first | exact mr o | (rw [frozen?_alloc_cells]; exact mr o)
        clear hc5
        go_wp2_with fail
        go_roundw
        case rel => exact ⟨k + 1, by omega, by omega, rfl, bel⟩
        case measure => simp [intOf]; omega
      · have M := hid (show makerV t p s k = makersN t p + 120 * k by rw [makerV, if_pos ⟨RR.out, by omega⟩])
        go_wp2_with fail
        refine (refMaker t p s k _).mono ?_
        rw [M.out]
        rintro e w5 ⟨rfl, hb5⟩
        obtain ⟨hc5, hf5, hz5⟩ := after hb5
        have z5_0 : w.heap.size < w5.heap.size := by omega
        have z5_1 : w.heap.size + 1 < w5.heap.size := by omega
        have c5_0 : w5.cell? ⟨w.heap.size, 0, none⟩ = some (.int .i64 t) := by rw [hc5 _ _ (by (try simp); omega)]; first | exact cr_0 | exact cellOld (by omega) cr_0
        have k5_0 : w5.cell? ⟨w.heap.size + 1, 0, none⟩ = some (.int .i64 0) := by rw [hc5 _ _ (by (try simp); omega)]; first | exact kr_0 | exact cellOld (by omega) kr_0
        have c5_1 : w5.cell? ⟨w.heap.size, 1, none⟩ = some (.int .i64 p) := by rw [hc5 _ _ (by (try simp); omega)]; first | exact cr_1 | exact cellOld (by omega) cr_1
        have k5_1 : w5.cell? ⟨w.heap.size + 1, 1, none⟩ = some (.int .i64 0) := by rw [hc5 _ _ (by (try simp); omega)]; first | exact kr_1 | exact cellOld (by omega) kr_1
        have c5_2 : w5.cell? ⟨w.heap.size, 2, none⟩ = some (.int .i64 s) := by rw [hc5 _ _ (by (try simp); omega)]; first | exact cr_2 | exact cellOld (by omega) cr_2
        have k5_2 : w5.cell? ⟨w.heap.size + 1, 2, none⟩ = some (.int .i64 0) := by rw [hc5 _ _ (by (try simp); omega)]; first | exact kr_2 | exact cellOld (by omega) kr_2
        have m5 : ∀ o, w5.frozen? ⟨w.heap.size + 1, o, none⟩ = false := by intro o; rw [hf5 _ _ (by (try simp) <;> omega)]; first | exact mr o | (rw [frozen?_alloc_cells]; exact mr o)
        clear hc5
        go_wp2_with fail
        go_roundw
        case rel => exact ⟨k + 1, by omega, by omega, rfl, bel⟩
        case measure => simp [intOf]; omega
      · have M := hid (show makerV t p s k = makersN t p + 120 * k by rw [makerV, if_pos ⟨RR.out, by omega⟩])
        go_wp2_with fail
        refine (refMaker t p s k _).mono ?_
        rw [M.out]
        rintro e w5 ⟨rfl, hb5⟩
        obtain ⟨hc5, hf5, hz5⟩ := after hb5
        have z5_0 : w.heap.size < w5.heap.size := by omega
        have z5_1 : w.heap.size + 1 < w5.heap.size := by omega
        have c5_0 : w5.cell? ⟨w.heap.size, 0, none⟩ = some (.int .i64 t) := by rw [hc5 _ _ (by (try simp); omega)]; first | exact cr_0 | exact cellOld (by omega) cr_0
        have k5_0 : w5.cell? ⟨w.heap.size + 1, 0, none⟩ = some (.int .i64 0) := by rw [hc5 _ _ (by (try simp); omega)]; first | exact kr_0 | exact cellOld (by omega) kr_0
        have c5_1 : w5.cell? ⟨w.heap.size, 1, none⟩ = some (.int .i64 p) := by rw [hc5 _ _ (by (try simp); omega)]; first | exact cr_1 | exact cellOld (by omega) cr_1
        have k5_1 : w5.cell? ⟨w.heap.size + 1, 1, none⟩ = some (.int .i64 0) := by rw [hc5 _ _ (by (try simp); omega)]; first | exact kr_1 | exact cellOld (by omega) kr_1
        have c5_2 : w5.cell? ⟨w.heap.size, 2, none⟩ = some (.int .i64 s) := by rw [hc5 _ _ (by (try simp); omega)]; first | exact cr_2 | exact cellOld (by omega) cr_2
        have k5_2 : w5.cell? ⟨w.heap.size + 1, 2, none⟩ = some (.int .i64 0) := by rw [hc5 _ _ (by (try simp); omega)]; first | exact kr_2 | exact cellOld (by omega) kr_2
        have m5 : ∀ o, w5.frozen? ⟨w.heap.size + 1, o, none⟩ = false := by intro o; rw [hf5 _ _ (by (try simp) <;> omega)]; first | exact mr o | (rw [frozen?_alloc_cells]; exact mr o)
        clear hc5
        go_wp2_with fail
        go_roundw
        case rel => exact ⟨k + 1, by omega, by omega, rfl, bel⟩
        case measure => simp [intOf]; omega

set_option maxHeartbeats 800000 in
theorem refAtWrong1 (t p s x : Int) (w : World) (hr : rightC t p s = false) (hx : x < 0) :
    Calls Try.prog 36 #[.agg #[.int .i64 t, .int .i64 p, .int .i64 s], .int .i64 x] w fun e w' => e = .returned (atV t p s x) ∧ Below w.heap.size w w' := by
  have H := hid (show atV t p s x = .agg #[.int .i64 0, .int .i64 (0), .int .i64 (0)] by rw [atV, if_neg (by intro h; omega)])
  have N := hid (show wordsC t p s = 0 by rw [wordsC, hr]; rfl)
  have C := hid (show cellsC t p s = 0 by rw [cellsC, hr]; rfl)
  clear hr
  go_enter Try.func36, Try.ntmps36
  go_wp2_with fail
  exact bodyPost_ret (v := .agg #[.int .i64 0, .int .i64 (0), .int .i64 (0)]) (by simp [results, Try.results36, go_sem]) rfl ⟨by rw [H.out], bel⟩

set_option maxHeartbeats 800000 in
theorem refAtWrong2 (t p s x : Int) (w : World) (hr : rightC t p s = false) (hx : 0 ≤ x) :
    Calls Try.prog 36 #[.agg #[.int .i64 t, .int .i64 p, .int .i64 s], .int .i64 x] w fun e w' => e = .returned (atV t p s x) ∧ Below w.heap.size w w' := by
  have H := hid (show atV t p s x = .agg #[.int .i64 0, .int .i64 (0), .int .i64 (0)] by rw [atV, if_neg (by rw [hr]; simp)])
  have N := hid (show wordsC t p s = 0 by rw [wordsC, hr]; rfl)
  have C := hid (show cellsC t p s = 0 by rw [cellsC, hr]; rfl)
  clear hr
  go_enter Try.func36, Try.ntmps36
  go_wp2_with fail
  refine (refWords _ _ _ _).mono ?_
  rw [N.out]
  rintro e w1 ⟨rfl, hb1⟩
  obtain ⟨hc1, hf1, hz1⟩ := after hb1
  try simp at hz1
  have z1_0 : w.heap.size < w1.heap.size := by omega
  have z1_1 : w.heap.size + 1 < w1.heap.size := by omega
  have c1_0 : w1.cell? ⟨w.heap.size, 0, none⟩ = some (.int .i64 t) := by rw [hc1 _ _ (by simp; omega)]; exact cellOld (by simp) (cellNew rfl rfl)
  have k1_0 : w1.cell? ⟨w.heap.size + 1, 0, none⟩ = some (.int .i64 0) := by rw [hc1 _ _ (by simp)]; exact cellNew (by simp) rfl
  have c1_1 : w1.cell? ⟨w.heap.size, 1, none⟩ = some (.int .i64 p) := by rw [hc1 _ _ (by simp; omega)]; exact cellOld (by simp) (cellNew rfl rfl)
  have k1_1 : w1.cell? ⟨w.heap.size + 1, 1, none⟩ = some (.int .i64 0) := by rw [hc1 _ _ (by simp)]; exact cellNew (by simp) rfl
  have c1_2 : w1.cell? ⟨w.heap.size, 2, none⟩ = some (.int .i64 s) := by rw [hc1 _ _ (by simp; omega)]; exact cellOld (by simp) (cellNew rfl rfl)
  have k1_2 : w1.cell? ⟨w.heap.size + 1, 2, none⟩ = some (.int .i64 0) := by rw [hc1 _ _ (by simp)]; exact cellNew (by simp) rfl
  have m1 : ∀ o, w1.frozen? ⟨w.heap.size + 1, o, none⟩ = false := by intro o; rw [hf1 _ _ (by (try simp) <;> omega)]; simp
  clear hc1
  go_wp2_with fail
  exact bodyPost_ret (v := .agg #[.int .i64 0, .int .i64 (0), .int .i64 (0)]) (by simp [results, Try.results36, go_sem, k1_0, k1_1, k1_2, z1_0, z1_1]) rfl ⟨by rw [H.out], bel⟩

set_option maxHeartbeats 800000 in
theorem refAtOut1 (t p s x : Int) (w : World) (hr : rightC t p s = true) (hx : x < 0) :
    Calls Try.prog 36 #[.agg #[.int .i64 t, .int .i64 p, .int .i64 s], .int .i64 x] w fun e w' => e = .returned (atV t p s x) ∧ Below w.heap.size w w' := by
  obtain ⟨⟨h1, h2⟩, ⟨h3, h4⟩, h5, h6⟩ := rightC_of hr
  have mb := makers_bd ⟨⟨h1, h2⟩, h3, h4⟩
  have cb : 58 ≤ cellsN t p ∧ cellsN t p ≤ 6238 := by unfold cellsN; omega
  have H := hid (show atV t p s x = .agg #[.int .i64 0, .int .i64 (0), .int .i64 (0)] by rw [atV, if_neg (by intro h; omega)])
  have N := hid (show wordsC t p s = makersN t p + 120 * (t + 1) by rw [wordsC, hr]; rfl)
  have C := hid (show cellsC t p s = cellsN t p by rw [cellsC, hr]; rfl)
  clear hr
  go_enter Try.func36, Try.ntmps36
  go_wp2_with fail
  exact bodyPost_ret (v := .agg #[.int .i64 0, .int .i64 (0), .int .i64 (0)]) (by simp [results, Try.results36, go_sem]) rfl ⟨by rw [H.out], bel⟩

set_option maxHeartbeats 800000 in
theorem refAtOut2 (t p s x : Int) (w : World) (hr : rightC t p s = true) (hx0 : 0 ≤ x) (hx : makersN t p + 120 * (t + 1) ≤ x) :
    Calls Try.prog 36 #[.agg #[.int .i64 t, .int .i64 p, .int .i64 s], .int .i64 x] w fun e w' => e = .returned (atV t p s x) ∧ Below w.heap.size w w' := by
  obtain ⟨⟨h1, h2⟩, ⟨h3, h4⟩, h5, h6⟩ := rightC_of hr
  have mb := makers_bd ⟨⟨h1, h2⟩, h3, h4⟩
  have cb : 58 ≤ cellsN t p ∧ cellsN t p ≤ 6238 := by unfold cellsN; omega
  have H := hid (show atV t p s x = .agg #[.int .i64 0, .int .i64 (0), .int .i64 (0)] by rw [atV, if_neg (by intro h; omega)])
  have N := hid (show wordsC t p s = makersN t p + 120 * (t + 1) by rw [wordsC, hr]; rfl)
  have C := hid (show cellsC t p s = cellsN t p by rw [cellsC, hr]; rfl)
  clear hr
  go_enter Try.func36, Try.ntmps36
  go_wp2_with fail
  refine (refWords _ _ _ _).mono ?_
  rw [N.out]
  rintro e w1 ⟨rfl, hb1⟩
  obtain ⟨hc1, hf1, hz1⟩ := after hb1
  try simp at hz1
  have z1_0 : w.heap.size < w1.heap.size := by omega
  have z1_1 : w.heap.size + 1 < w1.heap.size := by omega
  have c1_0 : w1.cell? ⟨w.heap.size, 0, none⟩ = some (.int .i64 t) := by rw [hc1 _ _ (by simp; omega)]; exact cellOld (by simp) (cellNew rfl rfl)
  have k1_0 : w1.cell? ⟨w.heap.size + 1, 0, none⟩ = some (.int .i64 0) := by rw [hc1 _ _ (by simp)]; exact cellNew (by simp) rfl
  have c1_1 : w1.cell? ⟨w.heap.size, 1, none⟩ = some (.int .i64 p) := by rw [hc1 _ _ (by simp; omega)]; exact cellOld (by simp) (cellNew rfl rfl)
  have k1_1 : w1.cell? ⟨w.heap.size + 1, 1, none⟩ = some (.int .i64 0) := by rw [hc1 _ _ (by simp)]; exact cellNew (by simp) rfl
  have c1_2 : w1.cell? ⟨w.heap.size, 2, none⟩ = some (.int .i64 s) := by rw [hc1 _ _ (by simp; omega)]; exact cellOld (by simp) (cellNew rfl rfl)
  have k1_2 : w1.cell? ⟨w.heap.size + 1, 2, none⟩ = some (.int .i64 0) := by rw [hc1 _ _ (by simp)]; exact cellNew (by simp) rfl
  have m1 : ∀ o, w1.frozen? ⟨w.heap.size + 1, o, none⟩ = false := by intro o; rw [hf1 _ _ (by (try simp) <;> omega)]; simp
  clear hc1
  go_wp2_with fail
  exact bodyPost_ret (v := .agg #[.int .i64 0, .int .i64 (0), .int .i64 (0)]) (by simp [results, Try.results36, go_sem, k1_0, k1_1, k1_2, z1_0, z1_1]) rfl ⟨by rw [H.out], bel⟩

set_option maxHeartbeats 800000 in
theorem refAtHead (t p s x : Int) (w : World) (hr : rightC t p s = true) (hx0 : 0 ≤ x) (hx : x < 8) :
    Calls Try.prog 36 #[.agg #[.int .i64 t, .int .i64 p, .int .i64 s], .int .i64 x] w fun e w' => e = .returned (atV t p s x) ∧ Below w.heap.size w w' := by
  obtain ⟨⟨h1, h2⟩, ⟨h3, h4⟩, h5, h6⟩ := rightC_of hr
  have mb := makers_bd ⟨⟨h1, h2⟩, h3, h4⟩
  have cb : 58 ≤ cellsN t p ∧ cellsN t p ≤ 6238 := by unfold cellsN; omega
  have H := hid (show atV t p s x = .agg #[.int .i64 1, .int .i64 (x), .int .i64 (0)] by rw [atV, if_pos ⟨hr, by omega, by omega⟩, if_pos hx])
  have N := hid (show wordsC t p s = makersN t p + 120 * (t + 1) by rw [wordsC, hr]; rfl)
  have C := hid (show cellsC t p s = cellsN t p by rw [cellsC, hr]; rfl)
  clear hr
  go_enter Try.func36, Try.ntmps36
  go_wp2_with fail
  refine (refWords _ _ _ _).mono ?_
  rw [N.out]
  rintro e w1 ⟨rfl, hb1⟩
  obtain ⟨hc1, hf1, hz1⟩ := after hb1
  try simp at hz1
  have z1_0 : w.heap.size < w1.heap.size := by omega
  have z1_1 : w.heap.size + 1 < w1.heap.size := by omega
  have c1_0 : w1.cell? ⟨w.heap.size, 0, none⟩ = some (.int .i64 t) := by rw [hc1 _ _ (by simp; omega)]; exact cellOld (by simp) (cellNew rfl rfl)
  have k1_0 : w1.cell? ⟨w.heap.size + 1, 0, none⟩ = some (.int .i64 0) := by rw [hc1 _ _ (by simp)]; exact cellNew (by simp) rfl
  have c1_1 : w1.cell? ⟨w.heap.size, 1, none⟩ = some (.int .i64 p) := by rw [hc1 _ _ (by simp; omega)]; exact cellOld (by simp) (cellNew rfl rfl)
  have k1_1 : w1.cell? ⟨w.heap.size + 1, 1, none⟩ = some (.int .i64 0) := by rw [hc1 _ _ (by simp)]; exact cellNew (by simp) rfl
  have c1_2 : w1.cell? ⟨w.heap.size, 2, none⟩ = some (.int .i64 s) := by rw [hc1 _ _ (by simp; omega)]; exact cellOld (by simp) (cellNew rfl rfl)
  have k1_2 : w1.cell? ⟨w.heap.size + 1, 2, none⟩ = some (.int .i64 0) := by rw [hc1 _ _ (by simp)]; exact cellNew (by simp) rfl
  have m1 : ∀ o, w1.frozen? ⟨w.heap.size + 1, o, none⟩ = false := by intro o; rw [hf1 _ _ (by (try simp) <;> omega)]; simp
  clear hc1
  go_wp2_with fail
  exact bodyPost_ret (v := .agg #[.int .i64 1, .int .i64 (x), .int .i64 (0)]) (by simp [results, Try.results36, go_sem, k1_0, k1_1, k1_2, z1_0, z1_1]) rfl ⟨by rw [H.out], bel⟩

set_option maxHeartbeats 800000 in
theorem refAtTip (t p s x : Int) (w : World) (hr : rightC t p s = true) (hx : x = 8) :
    Calls Try.prog 36 #[.agg #[.int .i64 t, .int .i64 p, .int .i64 s], .int .i64 x] w fun e w' => e = .returned (atV t p s x) ∧ Below w.heap.size w w' := by
  obtain ⟨⟨h1, h2⟩, ⟨h3, h4⟩, h5, h6⟩ := rightC_of hr
  have mb := makers_bd ⟨⟨h1, h2⟩, h3, h4⟩
  have cb : 58 ≤ cellsN t p ∧ cellsN t p ≤ 6238 := by unfold cellsN; omega
  have H := hid (show atV t p s x = .agg #[.int .i64 2, .int .i64 (0), .int .i64 (0)] by rw [atV, if_pos ⟨hr, by omega, by omega⟩, if_neg (by omega), if_pos hx])
  have N := hid (show wordsC t p s = makersN t p + 120 * (t + 1) by rw [wordsC, hr]; rfl)
  have C := hid (show cellsC t p s = cellsN t p by rw [cellsC, hr]; rfl)
  subst hx
  clear hr
  go_enter Try.func36, Try.ntmps36
  go_wp2_with fail
  refine (refWords _ _ _ _).mono ?_
  rw [N.out]
  rintro e w1 ⟨rfl, hb1⟩
  obtain ⟨hc1, hf1, hz1⟩ := after hb1
  try simp at hz1
  have z1_0 : w.heap.size < w1.heap.size := by omega
  have z1_1 : w.heap.size + 1 < w1.heap.size := by omega
  have c1_0 : w1.cell? ⟨w.heap.size, 0, none⟩ = some (.int .i64 t) := by rw [hc1 _ _ (by simp; omega)]; exact cellOld (by simp) (cellNew rfl rfl)
  have k1_0 : w1.cell? ⟨w.heap.size + 1, 0, none⟩ = some (.int .i64 0) := by rw [hc1 _ _ (by simp)]; exact cellNew (by simp) rfl
  have c1_1 : w1.cell? ⟨w.heap.size, 1, none⟩ = some (.int .i64 p) := by rw [hc1 _ _ (by simp; omega)]; exact cellOld (by simp) (cellNew rfl rfl)
  have k1_1 : w1.cell? ⟨w.heap.size + 1, 1, none⟩ = some (.int .i64 0) := by rw [hc1 _ _ (by simp)]; exact cellNew (by simp) rfl
  have c1_2 : w1.cell? ⟨w.heap.size, 2, none⟩ = some (.int .i64 s) := by rw [hc1 _ _ (by simp; omega)]; exact cellOld (by simp) (cellNew rfl rfl)
  have k1_2 : w1.cell? ⟨w.heap.size + 1, 2, none⟩ = some (.int .i64 0) := by rw [hc1 _ _ (by simp)]; exact cellNew (by simp) rfl
  have m1 : ∀ o, w1.frozen? ⟨w.heap.size + 1, o, none⟩ = false := by intro o; rw [hf1 _ _ (by (try simp) <;> omega)]; simp
  clear hc1
  go_wp2_with fail
  exact bodyPost_ret (v := .agg #[.int .i64 2, .int .i64 (0), .int .i64 (0)]) (by simp [results, Try.results36, go_sem, k1_0, k1_1, k1_2, z1_0, z1_1]) rfl ⟨by rw [H.out], bel⟩

set_option maxHeartbeats 800000 in
theorem refAtCell (t p s x : Int) (w : World) (hr : rightC t p s = true) (hx0 : 16 ≤ x) (hx : x < 16 + cellsN t p) :
    Calls Try.prog 36 #[.agg #[.int .i64 t, .int .i64 p, .int .i64 s], .int .i64 x] w fun e w' => e = .returned (atV t p s x) ∧ Below w.heap.size w w' := by
  obtain ⟨⟨h1, h2⟩, ⟨h3, h4⟩, h5, h6⟩ := rightC_of hr
  have mb := makers_bd ⟨⟨h1, h2⟩, h3, h4⟩
  have cb : 58 ≤ cellsN t p ∧ cellsN t p ≤ 6238 := by unfold cellsN; omega
  have H := hid (show atV t p s x = .agg #[.int .i64 3, .int .i64 (x - 16), .int .i64 (0)] by rw [atV, if_pos ⟨hr, by omega, by omega⟩, if_neg (by omega), if_neg (by omega), if_neg (by omega), if_pos ⟨hx0, hx⟩])
  have N := hid (show wordsC t p s = makersN t p + 120 * (t + 1) by rw [wordsC, hr]; rfl)
  have C := hid (show cellsC t p s = cellsN t p by rw [cellsC, hr]; rfl)
  have d8 : (x == 8) = false := by rw [beq_eq_false_iff_ne]; omega
  clear hr
  go_enter Try.func36, Try.ntmps36
  go_wp2_with fail
  refine (refWords _ _ _ _).mono ?_
  rw [N.out]
  rintro e w1 ⟨rfl, hb1⟩
  obtain ⟨hc1, hf1, hz1⟩ := after hb1
  try simp at hz1
  have z1_0 : w.heap.size < w1.heap.size := by omega
  have z1_1 : w.heap.size + 1 < w1.heap.size := by omega
  have c1_0 : w1.cell? ⟨w.heap.size, 0, none⟩ = some (.int .i64 t) := by rw [hc1 _ _ (by simp; omega)]; exact cellOld (by simp) (cellNew rfl rfl)
  have k1_0 : w1.cell? ⟨w.heap.size + 1, 0, none⟩ = some (.int .i64 0) := by rw [hc1 _ _ (by simp)]; exact cellNew (by simp) rfl
  have c1_1 : w1.cell? ⟨w.heap.size, 1, none⟩ = some (.int .i64 p) := by rw [hc1 _ _ (by simp; omega)]; exact cellOld (by simp) (cellNew rfl rfl)
  have k1_1 : w1.cell? ⟨w.heap.size + 1, 1, none⟩ = some (.int .i64 0) := by rw [hc1 _ _ (by simp)]; exact cellNew (by simp) rfl
  have c1_2 : w1.cell? ⟨w.heap.size, 2, none⟩ = some (.int .i64 s) := by rw [hc1 _ _ (by simp; omega)]; exact cellOld (by simp) (cellNew rfl rfl)
  have k1_2 : w1.cell? ⟨w.heap.size + 1, 2, none⟩ = some (.int .i64 0) := by rw [hc1 _ _ (by simp)]; exact cellNew (by simp) rfl
  have m1 : ∀ o, w1.frozen? ⟨w.heap.size + 1, o, none⟩ = false := by intro o; rw [hf1 _ _ (by (try simp) <;> omega)]; simp
  clear hc1
  go_wp2_with fail
  refine (refCells _ _ _ _).mono ?_
  rw [C.out]
  rintro e w2 ⟨rfl, hb2⟩
  obtain ⟨hc2, hf2, hz2⟩ := after hb2
  try simp at hz2
  have z2_0 : w.heap.size < w2.heap.size := by omega
  have z2_1 : w.heap.size + 1 < w2.heap.size := by omega
  have c2_0 : w2.cell? ⟨w.heap.size, 0, none⟩ = some (.int .i64 t) := by rw [hc2 _ _ (by (try simp); omega)]; first | exact c1_0 | exact cellOld (by omega) c1_0
  have k2_0 : w2.cell? ⟨w.heap.size + 1, 0, none⟩ = some (.int .i64 0) := by rw [hc2 _ _ (by (try simp); omega)]; first | exact k1_0 | exact cellOld (by omega) k1_0
  have c2_1 : w2.cell? ⟨w.heap.size, 1, none⟩ = some (.int .i64 p) := by rw [hc2 _ _ (by (try simp); omega)]; first | exact c1_1 | exact cellOld (by omega) c1_1
  have k2_1 : w2.cell? ⟨w.heap.size + 1, 1, none⟩ = some (.int .i64 0) := by rw [hc2 _ _ (by (try simp); omega)]; first | exact k1_1 | exact cellOld (by omega) k1_1
  have c2_2 : w2.cell? ⟨w.heap.size, 2, none⟩ = some (.int .i64 s) := by rw [hc2 _ _ (by (try simp); omega)]; first | exact c1_2 | exact cellOld (by omega) c1_2
  have k2_2 : w2.cell? ⟨w.heap.size + 1, 2, none⟩ = some (.int .i64 0) := by rw [hc2 _ _ (by (try simp); omega)]; first | exact k1_2 | exact cellOld (by omega) k1_2
  have m2 : ∀ o, w2.frozen? ⟨w.heap.size + 1, o, none⟩ = false := by intro o; rw [hf2 _ _ (by (try simp) <;> omega)]; first | exact m1 o | (rw [frozen?_alloc_cells]; exact m1 o)
  clear hc2
  go_wp2_with fail
  exact bodyPost_ret (v := .agg #[.int .i64 3, .int .i64 (x - 16), .int .i64 (0)]) (by simp [results, Try.results36, go_sem, k2_0, k2_1, k2_2, z2_0, z2_1]) rfl ⟨by rw [H.out], bel⟩

theorem refAt (t p s x : Int) (w : World) :
    Calls Try.prog 36 #[.agg #[.int .i64 t, .int .i64 p, .int .i64 s], .int .i64 x] w fun e w' => e = .returned (atV t p s x) ∧ Below w.heap.size w w' := by
  have hr : ∃ c, rightC t p s = c := ⟨_, rfl⟩
  obtain ⟨c, hr⟩ := hr
  cases c
  · by_cases hx : x < 0
    · exact refAtWrong1 t p s x w hr hx
    · exact refAtWrong2 t p s x w hr (by omega)
  obtain ⟨⟨h1, h2⟩, ⟨h3, h4⟩, h5, h6⟩ := rightC_of hr
  have mb := makers_bd ⟨⟨h1, h2⟩, h3, h4⟩
  have cb : 58 ≤ cellsN t p ∧ cellsN t p ≤ 6238 := by unfold cellsN; omega
  rcases (show x < 0 ∨ makersN t p + 120 * (t + 1) ≤ x ∨ (0 ≤ x ∧ x < 8) ∨ x = 8 ∨ (8 < x ∧ x < 16) ∨ (16 ≤ x ∧ x < 16 + cellsN t p) ∨ (16 + cellsN t p ≤ x ∧ x < makersN t p) ∨ (makersN t p ≤ x ∧ x < makersN t p + 120 * (t + 1)) by omega) with h | h | ⟨h, h'⟩ | h | ⟨h, h'⟩ | ⟨h, h'⟩ | ⟨h, h'⟩ | ⟨h, h'⟩
  · exact refAtOut1 t p s x w hr h
  · exact refAtOut2 t p s x w hr (by omega) h
  · exact refAtHead t p s x w hr h h'
  · exact refAtTip t p s x w hr h
  · exact refAtNone1 t p s x w hr h' h (by omega) (hid (fun k _ _ => .inl (by omega))) (hid (by rw [atV, if_pos ⟨hr, by omega, by omega⟩, if_neg (by omega), if_neg (by omega), if_neg (by omega), if_neg (by omega)]))
  · exact refAtCell t p s x w hr h h'
  · exact refAtNone2 t p s x w hr h (by omega) (by omega) (hid (fun k _ _ => .inl (by omega))) (hid (by rw [atV, if_pos ⟨hr, by omega, by omega⟩, if_neg (by omega), if_neg (by omega), if_neg (by omega), if_neg (by omega)]))
  · have hq : ∃ q, (x - makersN t p) / 120 = q := ⟨_, rfl⟩
    obtain ⟨q, hq⟩ := hq
    rcases (show (makersN t p + 120 * q ≤ x ∧ x < makersN t p + 120 * q + 16) ∨ x = makersN t p + 120 * q + 16 ∨ (makersN t p + 120 * q + 16 < x ∧ x < makersN t p + 120 * q + 24) ∨ (makersN t p + 120 * q + 24 ≤ x ∧ x < makersN t p + 120 * q + 120) by omega) with ⟨g, g'⟩ | g | ⟨g, g'⟩ | ⟨g, g'⟩
    · exact refAtHit1 t p s x q w hr (by omega) (by omega) g g'
    · exact refAtHit2 t p s x q w hr (by omega) (by omega) g
    · refine refAtNone2 t p s x w hr (by omega) (by omega) (by omega) (hid (fun k k0 k1 => ?_)) (hid ?_)
      · rcases (show k < q ∨ k = q ∨ q < k by omega) with h | h | h
        · exact .inr (.inr (by omega))
        · exact .inr (.inl (by omega))
        · exact .inl (by omega)
      · rw [atV, if_pos ⟨hr, by omega, by omega⟩, if_neg (by omega), if_neg (by omega), if_pos (by omega), madeV, if_neg (by omega), if_neg (by omega), if_neg (by omega)]
    · exact refAtHit3 t p s x q w hr (by omega) (by omega) g g'
end Go.Proofs.Ytpeeaapheohehaa
