/- The walks of which entries are right, of package entry and of the reference. -/
import Derived.Test.YtpeeaapheohehaaEnSteps
import Derived.Test.YtpeeaapheohehaaEnBare
import Derived.Test.YtpeeaapheohehaaEnRefUses
namespace Go.Proofs.Ytpeeaapheohehaa
open Go.RowKit
set_option linter.unusedVariables false
set_option linter.unusedSimpArgs false

theorem rightE_steps (t p s : Int) (e : En) : rightE t p s e = (rightC t p s && (decide (1 ≤ e.k ∧ e.k ≤ 6) && (bareB e && (stepsB t p s e && ((!useT e.k || decide (0 ≤ e.t ∧ e.t < t)) && ((!useNum e.k || decide (1 ≤ e.num ∧ e.num ≤ 2147483647)) && (!useOp e.k || rightB e.ok e.oa e.ob))))))) := by
  have hs : stepsB t p s e = (numbB t p s e && (!useM e.k || decide (1 ≤ e.m ∧ e.m ≤ 255))) := by
    unfold stepsB numbB useM
    by_cases h2 : e.k = 2
    · simp [h2]
    by_cases h5 : e.k = 5
    · simp [h5]
    by_cases h3 : e.k = 3
    · simp [h3]
    · simp [h2, h3, h5]
  rw [hs, rightE]
  generalize rightC t p s = a; generalize decide (1 ≤ e.k ∧ e.k ≤ 6) = b; generalize bareB e = c; generalize numbB t p s e = d
  generalize (!useT e.k || decide (0 ≤ e.t ∧ e.t < t)) = f; generalize (!useNum e.k || decide (1 ≤ e.num ∧ e.num ≤ 2147483647)) = g
  generalize (!useOp e.k || rightB e.ok e.oa e.ob) = h; generalize (!useM e.k || decide (1 ≤ e.m ∧ e.m ≤ 255)) = i
  cases a <;> cases b <;> cases c <;> cases d <;> cases f <;> cases g <;> cases h <;> cases i <;> rfl

set_option maxRecDepth 100000 in
set_option maxHeartbeats 12800000 in
theorem enRight (ct cp cs k t num ok oa ob n m : Int) (w : World) (bn : -9223372036854775808 ≤ n ∧ n ≤ 9223372036854775807) :
    Calls Try.prog 62 #[.agg #[.int .i64 ct, .int .i64 cp, .int .i64 cs], .agg #[.int .i64 k, .int .i64 t, .int .i64 num, .int .i64 ok, .int .i64 oa, .int .i64 ob, .int .i64 n, .int .i64 m]] w fun e w' => e = .returned (.bool (rightE ct cp cs ⟨k, t, num, ok, oa, ob, n, m⟩)) ∧ Below w.heap.size w w' := by
  have CK := hidAll fun w => confCheck ct cp cs w
  have TH := hidAll fun w => enThere k w
  have BR := hidAll fun w => enBare k t num ok oa ob n m w
  have SP := hidAll fun w => enSteps ct cp cs k t num ok oa ob n m w bn
  have OR := hidAll fun w => opRight ok oa ob w
  by_cases hr : rightC ct cp cs = true
  rotate_left
  · have hr : rightC ct cp cs = false := by simpa using hr
    have HB := hid (show rightE ct cp cs ⟨k, t, num, ok, oa, ob, n, m⟩ = false by rw [rightE, hr]; simp)
    rw [HB.out]
    rw [show checkC ct cp cs = 1 by rw [checkC, hr]; rfl] at CK
    have hkc : BlkT 23 ((w.alloc (.cells #[.int .i64 ct, .int .i64 cp, .int .i64 cs] 23)).alloc (.cells #[.int .i64 k, .int .i64 t, .int .i64 num, .int .i64 ok, .int .i64 oa, .int .i64 ob, .int .i64 n, .int .i64 m] 32)) w.heap.size #[.int .i64 ct, .int .i64 cp, .int .i64 cs] := blkT_old (blkT_new rfl)
    have hke : BlkT 32 ((w.alloc (.cells #[.int .i64 ct, .int .i64 cp, .int .i64 cs] 23)).alloc (.cells #[.int .i64 k, .int .i64 t, .int .i64 num, .int .i64 ok, .int .i64 oa, .int .i64 ob, .int .i64 n, .int .i64 m] 32)) (w.heap.size + 1) #[.int .i64 k, .int .i64 t, .int .i64 num, .int .i64 ok, .int .i64 oa, .int .i64 ob, .int .i64 n, .int .i64 m] := blkT_new (by simp)
    have hB : Below w.heap.size w ((w.alloc (.cells #[.int .i64 ct, .int .i64 cp, .int .i64 cs] 23)).alloc (.cells #[.int .i64 k, .int .i64 t, .int .i64 num, .int .i64 ok, .int .i64 oa, .int .i64 ob, .int .i64 n, .int .i64 m] 32)) := ((Below.refl _ _).alloc (Nat.le_refl _) _).alloc (by simp) _
    go_enter Try.func62, Try.ntmps62
    go_wp2_with fail
    refine (CK.out _).mono ?_
    rintro e w1 ⟨rfl, hb1⟩
    have hkc := blkT_call hb1 hkc
    have hke := blkT_call hb1 hke
    have hB : Below w.heap.size w w1 := hB.trans (hb1.mono hB.size)
    clear hb1
    have q0 : w1.cell? ⟨w.heap.size, 0, none⟩ = some (.int .i64 ct) := blkT_cell hkc rfl
    have q1 : w1.cell? ⟨w.heap.size, 1, none⟩ = some (.int .i64 cp) := blkT_cell hkc rfl
    have q2 : w1.cell? ⟨w.heap.size, 2, none⟩ = some (.int .i64 cs) := blkT_cell hkc rfl
    have c0 : w1.cell? ⟨w.heap.size + 1, 0, none⟩ = some (.int .i64 k) := blkT_cell hke rfl
    have c1 : w1.cell? ⟨w.heap.size + 1, 1, none⟩ = some (.int .i64 t) := blkT_cell hke rfl
    have c2 : w1.cell? ⟨w.heap.size + 1, 2, none⟩ = some (.int .i64 num) := blkT_cell hke rfl
    have c3 : w1.cell? ⟨w.heap.size + 1, 3, none⟩ = some (.int .i64 ok) := blkT_cell hke rfl
    have c4 : w1.cell? ⟨w.heap.size + 1, 4, none⟩ = some (.int .i64 oa) := blkT_cell hke rfl
    have c5 : w1.cell? ⟨w.heap.size + 1, 5, none⟩ = some (.int .i64 ob) := blkT_cell hke rfl
    have c6 : w1.cell? ⟨w.heap.size + 1, 6, none⟩ = some (.int .i64 n) := blkT_cell hke rfl
    have c7 : w1.cell? ⟨w.heap.size + 1, 7, none⟩ = some (.int .i64 m) := blkT_cell hke rfl
    have zq : w.heap.size < w1.heap.size := blkT_lt hkc
    have zc : w.heap.size + 1 < w1.heap.size := blkT_lt hke
    go_wp2_with fail
    go_ret
    exact ⟨ret_bool (by first | rfl | (simp; omega) | (simp [*]; done)), hB⟩
  rw [show checkC ct cp cs = 0 by rw [checkC, hr]; rfl] at CK
  by_cases hk : 1 ≤ k ∧ k ≤ 6
  rotate_left
  · rw [decide_eq_false hk] at TH
    have HB := hid (show rightE ct cp cs ⟨k, t, num, ok, oa, ob, n, m⟩ = false by rw [rightE, decide_eq_false hk]; simp)
    rw [HB.out]
    have hkc : BlkT 23 ((w.alloc (.cells #[.int .i64 ct, .int .i64 cp, .int .i64 cs] 23)).alloc (.cells #[.int .i64 k, .int .i64 t, .int .i64 num, .int .i64 ok, .int .i64 oa, .int .i64 ob, .int .i64 n, .int .i64 m] 32)) w.heap.size #[.int .i64 ct, .int .i64 cp, .int .i64 cs] := blkT_old (blkT_new rfl)
    have hke : BlkT 32 ((w.alloc (.cells #[.int .i64 ct, .int .i64 cp, .int .i64 cs] 23)).alloc (.cells #[.int .i64 k, .int .i64 t, .int .i64 num, .int .i64 ok, .int .i64 oa, .int .i64 ob, .int .i64 n, .int .i64 m] 32)) (w.heap.size + 1) #[.int .i64 k, .int .i64 t, .int .i64 num, .int .i64 ok, .int .i64 oa, .int .i64 ob, .int .i64 n, .int .i64 m] := blkT_new (by simp)
    have hB : Below w.heap.size w ((w.alloc (.cells #[.int .i64 ct, .int .i64 cp, .int .i64 cs] 23)).alloc (.cells #[.int .i64 k, .int .i64 t, .int .i64 num, .int .i64 ok, .int .i64 oa, .int .i64 ob, .int .i64 n, .int .i64 m] 32)) := ((Below.refl _ _).alloc (Nat.le_refl _) _).alloc (by simp) _
    go_enter Try.func62, Try.ntmps62
    go_wp2_with fail
    refine (CK.out _).mono ?_
    rintro e w1 ⟨rfl, hb1⟩
    have hkc := blkT_call hb1 hkc
    have hke := blkT_call hb1 hke
    have hB : Below w.heap.size w w1 := hB.trans (hb1.mono hB.size)
    clear hb1
    have q0 : w1.cell? ⟨w.heap.size, 0, none⟩ = some (.int .i64 ct) := blkT_cell hkc rfl
    have q1 : w1.cell? ⟨w.heap.size, 1, none⟩ = some (.int .i64 cp) := blkT_cell hkc rfl
    have q2 : w1.cell? ⟨w.heap.size, 2, none⟩ = some (.int .i64 cs) := blkT_cell hkc rfl
    have c0 : w1.cell? ⟨w.heap.size + 1, 0, none⟩ = some (.int .i64 k) := blkT_cell hke rfl
    have c1 : w1.cell? ⟨w.heap.size + 1, 1, none⟩ = some (.int .i64 t) := blkT_cell hke rfl
    have c2 : w1.cell? ⟨w.heap.size + 1, 2, none⟩ = some (.int .i64 num) := blkT_cell hke rfl
    have c3 : w1.cell? ⟨w.heap.size + 1, 3, none⟩ = some (.int .i64 ok) := blkT_cell hke rfl
    have c4 : w1.cell? ⟨w.heap.size + 1, 4, none⟩ = some (.int .i64 oa) := blkT_cell hke rfl
    have c5 : w1.cell? ⟨w.heap.size + 1, 5, none⟩ = some (.int .i64 ob) := blkT_cell hke rfl
    have c6 : w1.cell? ⟨w.heap.size + 1, 6, none⟩ = some (.int .i64 n) := blkT_cell hke rfl
    have c7 : w1.cell? ⟨w.heap.size + 1, 7, none⟩ = some (.int .i64 m) := blkT_cell hke rfl
    have zq : w.heap.size < w1.heap.size := blkT_lt hkc
    have zc : w.heap.size + 1 < w1.heap.size := blkT_lt hke
    go_wp2_with fail
    refine (TH.out _).mono ?_
    rintro e _ ⟨rfl, rfl⟩
    go_wp2_with fail
    go_ret
    exact ⟨ret_bool (by first | rfl | (simp; omega) | (simp [*]; done)), hB⟩
  rw [decide_eq_true hk] at TH
  by_cases hb : bareB ⟨k, t, num, ok, oa, ob, n, m⟩ = true
  rotate_left
  · have hb : bareB ⟨k, t, num, ok, oa, ob, n, m⟩ = false := by simpa using hb
    rw [hb] at BR
    have HB := hid (show rightE ct cp cs ⟨k, t, num, ok, oa, ob, n, m⟩ = false by rw [rightE, hb]; simp)
    rw [HB.out]
    have hkc : BlkT 23 ((w.alloc (.cells #[.int .i64 ct, .int .i64 cp, .int .i64 cs] 23)).alloc (.cells #[.int .i64 k, .int .i64 t, .int .i64 num, .int .i64 ok, .int .i64 oa, .int .i64 ob, .int .i64 n, .int .i64 m] 32)) w.heap.size #[.int .i64 ct, .int .i64 cp, .int .i64 cs] := blkT_old (blkT_new rfl)
    have hke : BlkT 32 ((w.alloc (.cells #[.int .i64 ct, .int .i64 cp, .int .i64 cs] 23)).alloc (.cells #[.int .i64 k, .int .i64 t, .int .i64 num, .int .i64 ok, .int .i64 oa, .int .i64 ob, .int .i64 n, .int .i64 m] 32)) (w.heap.size + 1) #[.int .i64 k, .int .i64 t, .int .i64 num, .int .i64 ok, .int .i64 oa, .int .i64 ob, .int .i64 n, .int .i64 m] := blkT_new (by simp)
    have hB : Below w.heap.size w ((w.alloc (.cells #[.int .i64 ct, .int .i64 cp, .int .i64 cs] 23)).alloc (.cells #[.int .i64 k, .int .i64 t, .int .i64 num, .int .i64 ok, .int .i64 oa, .int .i64 ob, .int .i64 n, .int .i64 m] 32)) := ((Below.refl _ _).alloc (Nat.le_refl _) _).alloc (by simp) _
    go_enter Try.func62, Try.ntmps62
    go_wp2_with fail
    refine (CK.out _).mono ?_
    rintro e w1 ⟨rfl, hb1⟩
    have hkc := blkT_call hb1 hkc
    have hke := blkT_call hb1 hke
    have hB : Below w.heap.size w w1 := hB.trans (hb1.mono hB.size)
    clear hb1
    have q0 : w1.cell? ⟨w.heap.size, 0, none⟩ = some (.int .i64 ct) := blkT_cell hkc rfl
    have q1 : w1.cell? ⟨w.heap.size, 1, none⟩ = some (.int .i64 cp) := blkT_cell hkc rfl
    have q2 : w1.cell? ⟨w.heap.size, 2, none⟩ = some (.int .i64 cs) := blkT_cell hkc rfl
    have c0 : w1.cell? ⟨w.heap.size + 1, 0, none⟩ = some (.int .i64 k) := blkT_cell hke rfl
    have c1 : w1.cell? ⟨w.heap.size + 1, 1, none⟩ = some (.int .i64 t) := blkT_cell hke rfl
    have c2 : w1.cell? ⟨w.heap.size + 1, 2, none⟩ = some (.int .i64 num) := blkT_cell hke rfl
    have c3 : w1.cell? ⟨w.heap.size + 1, 3, none⟩ = some (.int .i64 ok) := blkT_cell hke rfl
    have c4 : w1.cell? ⟨w.heap.size + 1, 4, none⟩ = some (.int .i64 oa) := blkT_cell hke rfl
    have c5 : w1.cell? ⟨w.heap.size + 1, 5, none⟩ = some (.int .i64 ob) := blkT_cell hke rfl
    have c6 : w1.cell? ⟨w.heap.size + 1, 6, none⟩ = some (.int .i64 n) := blkT_cell hke rfl
    have c7 : w1.cell? ⟨w.heap.size + 1, 7, none⟩ = some (.int .i64 m) := blkT_cell hke rfl
    have zq : w.heap.size < w1.heap.size := blkT_lt hkc
    have zc : w.heap.size + 1 < w1.heap.size := blkT_lt hke
    go_wp2_with fail
    refine (TH.out _).mono ?_
    rintro e _ ⟨rfl, rfl⟩
    go_wp2_with fail
    refine (BR.out _).mono ?_
    rintro e w2 ⟨rfl, hb2⟩
    have hkc := blkT_call hb2 hkc
    have hke := blkT_call hb2 hke
    have hB : Below w.heap.size w w2 := hB.trans (hb2.mono hB.size)
    clear hb2
    have q0 : w2.cell? ⟨w.heap.size, 0, none⟩ = some (.int .i64 ct) := blkT_cell hkc rfl
    have q1 : w2.cell? ⟨w.heap.size, 1, none⟩ = some (.int .i64 cp) := blkT_cell hkc rfl
    have q2 : w2.cell? ⟨w.heap.size, 2, none⟩ = some (.int .i64 cs) := blkT_cell hkc rfl
    have c0 : w2.cell? ⟨w.heap.size + 1, 0, none⟩ = some (.int .i64 k) := blkT_cell hke rfl
    have c1 : w2.cell? ⟨w.heap.size + 1, 1, none⟩ = some (.int .i64 t) := blkT_cell hke rfl
    have c2 : w2.cell? ⟨w.heap.size + 1, 2, none⟩ = some (.int .i64 num) := blkT_cell hke rfl
    have c3 : w2.cell? ⟨w.heap.size + 1, 3, none⟩ = some (.int .i64 ok) := blkT_cell hke rfl
    have c4 : w2.cell? ⟨w.heap.size + 1, 4, none⟩ = some (.int .i64 oa) := blkT_cell hke rfl
    have c5 : w2.cell? ⟨w.heap.size + 1, 5, none⟩ = some (.int .i64 ob) := blkT_cell hke rfl
    have c6 : w2.cell? ⟨w.heap.size + 1, 6, none⟩ = some (.int .i64 n) := blkT_cell hke rfl
    have c7 : w2.cell? ⟨w.heap.size + 1, 7, none⟩ = some (.int .i64 m) := blkT_cell hke rfl
    have zq : w.heap.size < w2.heap.size := blkT_lt hkc
    have zc : w.heap.size + 1 < w2.heap.size := blkT_lt hke
    go_wp2_with fail
    go_ret
    exact ⟨ret_bool (by first | rfl | (simp; omega) | (simp [*]; done)), hB⟩
  rw [hb] at BR
  by_cases hs : stepsB ct cp cs ⟨k, t, num, ok, oa, ob, n, m⟩ = true
  rotate_left
  · have hs : stepsB ct cp cs ⟨k, t, num, ok, oa, ob, n, m⟩ = false := by simpa using hs
    rw [hs] at SP
    have HB := hid (show rightE ct cp cs ⟨k, t, num, ok, oa, ob, n, m⟩ = false by rw [rightE_steps, hs]; simp)
    rw [HB.out]
    have hkc : BlkT 23 ((w.alloc (.cells #[.int .i64 ct, .int .i64 cp, .int .i64 cs] 23)).alloc (.cells #[.int .i64 k, .int .i64 t, .int .i64 num, .int .i64 ok, .int .i64 oa, .int .i64 ob, .int .i64 n, .int .i64 m] 32)) w.heap.size #[.int .i64 ct, .int .i64 cp, .int .i64 cs] := blkT_old (blkT_new rfl)
    have hke : BlkT 32 ((w.alloc (.cells #[.int .i64 ct, .int .i64 cp, .int .i64 cs] 23)).alloc (.cells #[.int .i64 k, .int .i64 t, .int .i64 num, .int .i64 ok, .int .i64 oa, .int .i64 ob, .int .i64 n, .int .i64 m] 32)) (w.heap.size + 1) #[.int .i64 k, .int .i64 t, .int .i64 num, .int .i64 ok, .int .i64 oa, .int .i64 ob, .int .i64 n, .int .i64 m] := blkT_new (by simp)
    have hB : Below w.heap.size w ((w.alloc (.cells #[.int .i64 ct, .int .i64 cp, .int .i64 cs] 23)).alloc (.cells #[.int .i64 k, .int .i64 t, .int .i64 num, .int .i64 ok, .int .i64 oa, .int .i64 ob, .int .i64 n, .int .i64 m] 32)) := ((Below.refl _ _).alloc (Nat.le_refl _) _).alloc (by simp) _
    go_enter Try.func62, Try.ntmps62
    go_wp2_with fail
    refine (CK.out _).mono ?_
    rintro e w1 ⟨rfl, hb1⟩
    have hkc := blkT_call hb1 hkc
    have hke := blkT_call hb1 hke
    have hB : Below w.heap.size w w1 := hB.trans (hb1.mono hB.size)
    clear hb1
    have q0 : w1.cell? ⟨w.heap.size, 0, none⟩ = some (.int .i64 ct) := blkT_cell hkc rfl
    have q1 : w1.cell? ⟨w.heap.size, 1, none⟩ = some (.int .i64 cp) := blkT_cell hkc rfl
    have q2 : w1.cell? ⟨w.heap.size, 2, none⟩ = some (.int .i64 cs) := blkT_cell hkc rfl
    have c0 : w1.cell? ⟨w.heap.size + 1, 0, none⟩ = some (.int .i64 k) := blkT_cell hke rfl
    have c1 : w1.cell? ⟨w.heap.size + 1, 1, none⟩ = some (.int .i64 t) := blkT_cell hke rfl
    have c2 : w1.cell? ⟨w.heap.size + 1, 2, none⟩ = some (.int .i64 num) := blkT_cell hke rfl
    have c3 : w1.cell? ⟨w.heap.size + 1, 3, none⟩ = some (.int .i64 ok) := blkT_cell hke rfl
    have c4 : w1.cell? ⟨w.heap.size + 1, 4, none⟩ = some (.int .i64 oa) := blkT_cell hke rfl
    have c5 : w1.cell? ⟨w.heap.size + 1, 5, none⟩ = some (.int .i64 ob) := blkT_cell hke rfl
    have c6 : w1.cell? ⟨w.heap.size + 1, 6, none⟩ = some (.int .i64 n) := blkT_cell hke rfl
    have c7 : w1.cell? ⟨w.heap.size + 1, 7, none⟩ = some (.int .i64 m) := blkT_cell hke rfl
    have zq : w.heap.size < w1.heap.size := blkT_lt hkc
    have zc : w.heap.size + 1 < w1.heap.size := blkT_lt hke
    go_wp2_with fail
    refine (TH.out _).mono ?_
    rintro e _ ⟨rfl, rfl⟩
    go_wp2_with fail
    refine (BR.out _).mono ?_
    rintro e w2 ⟨rfl, hb2⟩
    have hkc := blkT_call hb2 hkc
    have hke := blkT_call hb2 hke
    have hB : Below w.heap.size w w2 := hB.trans (hb2.mono hB.size)
    clear hb2
    have q0 : w2.cell? ⟨w.heap.size, 0, none⟩ = some (.int .i64 ct) := blkT_cell hkc rfl
    have q1 : w2.cell? ⟨w.heap.size, 1, none⟩ = some (.int .i64 cp) := blkT_cell hkc rfl
    have q2 : w2.cell? ⟨w.heap.size, 2, none⟩ = some (.int .i64 cs) := blkT_cell hkc rfl
    have c0 : w2.cell? ⟨w.heap.size + 1, 0, none⟩ = some (.int .i64 k) := blkT_cell hke rfl
    have c1 : w2.cell? ⟨w.heap.size + 1, 1, none⟩ = some (.int .i64 t) := blkT_cell hke rfl
    have c2 : w2.cell? ⟨w.heap.size + 1, 2, none⟩ = some (.int .i64 num) := blkT_cell hke rfl
    have c3 : w2.cell? ⟨w.heap.size + 1, 3, none⟩ = some (.int .i64 ok) := blkT_cell hke rfl
    have c4 : w2.cell? ⟨w.heap.size + 1, 4, none⟩ = some (.int .i64 oa) := blkT_cell hke rfl
    have c5 : w2.cell? ⟨w.heap.size + 1, 5, none⟩ = some (.int .i64 ob) := blkT_cell hke rfl
    have c6 : w2.cell? ⟨w.heap.size + 1, 6, none⟩ = some (.int .i64 n) := blkT_cell hke rfl
    have c7 : w2.cell? ⟨w.heap.size + 1, 7, none⟩ = some (.int .i64 m) := blkT_cell hke rfl
    have zq : w.heap.size < w2.heap.size := blkT_lt hkc
    have zc : w.heap.size + 1 < w2.heap.size := blkT_lt hke
    go_wp2_with fail
    refine (SP.out _).mono ?_
    rintro e w3 ⟨rfl, hb3⟩
    have hkc := blkT_call hb3 hkc
    have hke := blkT_call hb3 hke
    have hB : Below w.heap.size w w3 := hB.trans (hb3.mono hB.size)
    clear hb3
    have q0 : w3.cell? ⟨w.heap.size, 0, none⟩ = some (.int .i64 ct) := blkT_cell hkc rfl
    have q1 : w3.cell? ⟨w.heap.size, 1, none⟩ = some (.int .i64 cp) := blkT_cell hkc rfl
    have q2 : w3.cell? ⟨w.heap.size, 2, none⟩ = some (.int .i64 cs) := blkT_cell hkc rfl
    have c0 : w3.cell? ⟨w.heap.size + 1, 0, none⟩ = some (.int .i64 k) := blkT_cell hke rfl
    have c1 : w3.cell? ⟨w.heap.size + 1, 1, none⟩ = some (.int .i64 t) := blkT_cell hke rfl
    have c2 : w3.cell? ⟨w.heap.size + 1, 2, none⟩ = some (.int .i64 num) := blkT_cell hke rfl
    have c3 : w3.cell? ⟨w.heap.size + 1, 3, none⟩ = some (.int .i64 ok) := blkT_cell hke rfl
    have c4 : w3.cell? ⟨w.heap.size + 1, 4, none⟩ = some (.int .i64 oa) := blkT_cell hke rfl
    have c5 : w3.cell? ⟨w.heap.size + 1, 5, none⟩ = some (.int .i64 ob) := blkT_cell hke rfl
    have c6 : w3.cell? ⟨w.heap.size + 1, 6, none⟩ = some (.int .i64 n) := blkT_cell hke rfl
    have c7 : w3.cell? ⟨w.heap.size + 1, 7, none⟩ = some (.int .i64 m) := blkT_cell hke rfl
    have zq : w.heap.size < w3.heap.size := blkT_lt hkc
    have zc : w.heap.size + 1 < w3.heap.size := blkT_lt hke
    go_wp2_with fail
    go_ret
    exact ⟨ret_bool (by first | rfl | (simp; omega) | (simp [*]; done)), hB⟩
  rw [hs] at SP
  obtain rfl | rfl | rfl | rfl | rfl | rfl : k = 1 ∨ k = 2 ∨ k = 3 ∨ k = 4 ∨ k = 5 ∨ k = 6 := by omega
  · skip
    by_cases ho : rightB ok oa ob = true
    rotate_left
    · have ho : rightB ok oa ob = false := by simpa using ho
      rw [ho] at OR
      have HB := hid (show rightE ct cp cs ⟨1, t, num, ok, oa, ob, n, m⟩ = false by rw [rightE_steps, hr, hb, hs]; simp [useT, useNum, useOp, useM, ho])
      rw [HB.out]
      have hkc : BlkT 23 ((w.alloc (.cells #[.int .i64 ct, .int .i64 cp, .int .i64 cs] 23)).alloc (.cells #[.int .i64 1, .int .i64 t, .int .i64 num, .int .i64 ok, .int .i64 oa, .int .i64 ob, .int .i64 n, .int .i64 m] 32)) w.heap.size #[.int .i64 ct, .int .i64 cp, .int .i64 cs] := blkT_old (blkT_new rfl)
      have hke : BlkT 32 ((w.alloc (.cells #[.int .i64 ct, .int .i64 cp, .int .i64 cs] 23)).alloc (.cells #[.int .i64 1, .int .i64 t, .int .i64 num, .int .i64 ok, .int .i64 oa, .int .i64 ob, .int .i64 n, .int .i64 m] 32)) (w.heap.size + 1) #[.int .i64 1, .int .i64 t, .int .i64 num, .int .i64 ok, .int .i64 oa, .int .i64 ob, .int .i64 n, .int .i64 m] := blkT_new (by simp)
      have hB : Below w.heap.size w ((w.alloc (.cells #[.int .i64 ct, .int .i64 cp, .int .i64 cs] 23)).alloc (.cells #[.int .i64 1, .int .i64 t, .int .i64 num, .int .i64 ok, .int .i64 oa, .int .i64 ob, .int .i64 n, .int .i64 m] 32)) := ((Below.refl _ _).alloc (Nat.le_refl _) _).alloc (by simp) _
      go_enter Try.func62, Try.ntmps62
      go_wp2_with fail
      refine (CK.out _).mono ?_
      rintro e w1 ⟨rfl, hb1⟩
      have hkc := blkT_call hb1 hkc
      have hke := blkT_call hb1 hke
      have hB : Below w.heap.size w w1 := hB.trans (hb1.mono hB.size)
      clear hb1
      have q0 : w1.cell? ⟨w.heap.size, 0, none⟩ = some (.int .i64 ct) := blkT_cell hkc rfl
      have q1 : w1.cell? ⟨w.heap.size, 1, none⟩ = some (.int .i64 cp) := blkT_cell hkc rfl
      have q2 : w1.cell? ⟨w.heap.size, 2, none⟩ = some (.int .i64 cs) := blkT_cell hkc rfl
      have c0 : w1.cell? ⟨w.heap.size + 1, 0, none⟩ = some (.int .i64 1) := blkT_cell hke rfl
      have c1 : w1.cell? ⟨w.heap.size + 1, 1, none⟩ = some (.int .i64 t) := blkT_cell hke rfl
      have c2 : w1.cell? ⟨w.heap.size + 1, 2, none⟩ = some (.int .i64 num) := blkT_cell hke rfl
      have c3 : w1.cell? ⟨w.heap.size + 1, 3, none⟩ = some (.int .i64 ok) := blkT_cell hke rfl
      have c4 : w1.cell? ⟨w.heap.size + 1, 4, none⟩ = some (.int .i64 oa) := blkT_cell hke rfl
      have c5 : w1.cell? ⟨w.heap.size + 1, 5, none⟩ = some (.int .i64 ob) := blkT_cell hke rfl
      have c6 : w1.cell? ⟨w.heap.size + 1, 6, none⟩ = some (.int .i64 n) := blkT_cell hke rfl
      have c7 : w1.cell? ⟨w.heap.size + 1, 7, none⟩ = some (.int .i64 m) := blkT_cell hke rfl
      have zq : w.heap.size < w1.heap.size := blkT_lt hkc
      have zc : w.heap.size + 1 < w1.heap.size := blkT_lt hke
      go_wp2_with fail
      refine (TH.out _).mono ?_
      rintro e _ ⟨rfl, rfl⟩
      go_wp2_with fail
      refine (BR.out _).mono ?_
      rintro e w2 ⟨rfl, hb2⟩
      have hkc := blkT_call hb2 hkc
      have hke := blkT_call hb2 hke
      have hB : Below w.heap.size w w2 := hB.trans (hb2.mono hB.size)
      clear hb2
      have q0 : w2.cell? ⟨w.heap.size, 0, none⟩ = some (.int .i64 ct) := blkT_cell hkc rfl
      have q1 : w2.cell? ⟨w.heap.size, 1, none⟩ = some (.int .i64 cp) := blkT_cell hkc rfl
      have q2 : w2.cell? ⟨w.heap.size, 2, none⟩ = some (.int .i64 cs) := blkT_cell hkc rfl
      have c0 : w2.cell? ⟨w.heap.size + 1, 0, none⟩ = some (.int .i64 1) := blkT_cell hke rfl
      have c1 : w2.cell? ⟨w.heap.size + 1, 1, none⟩ = some (.int .i64 t) := blkT_cell hke rfl
      have c2 : w2.cell? ⟨w.heap.size + 1, 2, none⟩ = some (.int .i64 num) := blkT_cell hke rfl
      have c3 : w2.cell? ⟨w.heap.size + 1, 3, none⟩ = some (.int .i64 ok) := blkT_cell hke rfl
      have c4 : w2.cell? ⟨w.heap.size + 1, 4, none⟩ = some (.int .i64 oa) := blkT_cell hke rfl
      have c5 : w2.cell? ⟨w.heap.size + 1, 5, none⟩ = some (.int .i64 ob) := blkT_cell hke rfl
      have c6 : w2.cell? ⟨w.heap.size + 1, 6, none⟩ = some (.int .i64 n) := blkT_cell hke rfl
      have c7 : w2.cell? ⟨w.heap.size + 1, 7, none⟩ = some (.int .i64 m) := blkT_cell hke rfl
      have zq : w.heap.size < w2.heap.size := blkT_lt hkc
      have zc : w.heap.size + 1 < w2.heap.size := blkT_lt hke
      go_wp2_with fail
      refine (SP.out _).mono ?_
      rintro e w3 ⟨rfl, hb3⟩
      have hkc := blkT_call hb3 hkc
      have hke := blkT_call hb3 hke
      have hB : Below w.heap.size w w3 := hB.trans (hb3.mono hB.size)
      clear hb3
      have q0 : w3.cell? ⟨w.heap.size, 0, none⟩ = some (.int .i64 ct) := blkT_cell hkc rfl
      have q1 : w3.cell? ⟨w.heap.size, 1, none⟩ = some (.int .i64 cp) := blkT_cell hkc rfl
      have q2 : w3.cell? ⟨w.heap.size, 2, none⟩ = some (.int .i64 cs) := blkT_cell hkc rfl
      have c0 : w3.cell? ⟨w.heap.size + 1, 0, none⟩ = some (.int .i64 1) := blkT_cell hke rfl
      have c1 : w3.cell? ⟨w.heap.size + 1, 1, none⟩ = some (.int .i64 t) := blkT_cell hke rfl
      have c2 : w3.cell? ⟨w.heap.size + 1, 2, none⟩ = some (.int .i64 num) := blkT_cell hke rfl
      have c3 : w3.cell? ⟨w.heap.size + 1, 3, none⟩ = some (.int .i64 ok) := blkT_cell hke rfl
      have c4 : w3.cell? ⟨w.heap.size + 1, 4, none⟩ = some (.int .i64 oa) := blkT_cell hke rfl
      have c5 : w3.cell? ⟨w.heap.size + 1, 5, none⟩ = some (.int .i64 ob) := blkT_cell hke rfl
      have c6 : w3.cell? ⟨w.heap.size + 1, 6, none⟩ = some (.int .i64 n) := blkT_cell hke rfl
      have c7 : w3.cell? ⟨w.heap.size + 1, 7, none⟩ = some (.int .i64 m) := blkT_cell hke rfl
      have zq : w.heap.size < w3.heap.size := blkT_lt hkc
      have zc : w.heap.size + 1 < w3.heap.size := blkT_lt hke
      go_wp2_with fail
      refine (OR.out _).mono ?_
      rintro e w4 ⟨rfl, hb4⟩
      have hkc := blkT_call hb4 hkc
      have hke := blkT_call hb4 hke
      have hB : Below w.heap.size w w4 := hB.trans (hb4.mono hB.size)
      clear hb4
      have q0 : w4.cell? ⟨w.heap.size, 0, none⟩ = some (.int .i64 ct) := blkT_cell hkc rfl
      have q1 : w4.cell? ⟨w.heap.size, 1, none⟩ = some (.int .i64 cp) := blkT_cell hkc rfl
      have q2 : w4.cell? ⟨w.heap.size, 2, none⟩ = some (.int .i64 cs) := blkT_cell hkc rfl
      have c0 : w4.cell? ⟨w.heap.size + 1, 0, none⟩ = some (.int .i64 1) := blkT_cell hke rfl
      have c1 : w4.cell? ⟨w.heap.size + 1, 1, none⟩ = some (.int .i64 t) := blkT_cell hke rfl
      have c2 : w4.cell? ⟨w.heap.size + 1, 2, none⟩ = some (.int .i64 num) := blkT_cell hke rfl
      have c3 : w4.cell? ⟨w.heap.size + 1, 3, none⟩ = some (.int .i64 ok) := blkT_cell hke rfl
      have c4 : w4.cell? ⟨w.heap.size + 1, 4, none⟩ = some (.int .i64 oa) := blkT_cell hke rfl
      have c5 : w4.cell? ⟨w.heap.size + 1, 5, none⟩ = some (.int .i64 ob) := blkT_cell hke rfl
      have c6 : w4.cell? ⟨w.heap.size + 1, 6, none⟩ = some (.int .i64 n) := blkT_cell hke rfl
      have c7 : w4.cell? ⟨w.heap.size + 1, 7, none⟩ = some (.int .i64 m) := blkT_cell hke rfl
      have zq : w.heap.size < w4.heap.size := blkT_lt hkc
      have zc : w.heap.size + 1 < w4.heap.size := blkT_lt hke
      go_wp2_with fail
      go_ret
      exact ⟨ret_bool (by first | rfl | (simp; omega) | (simp [*]; done)), hB⟩
    rw [ho] at OR
    by_cases g1 : 1 ≤ num
    rotate_left
    · skip
      have HB := hid (show rightE ct cp cs ⟨1, t, num, ok, oa, ob, n, m⟩ = false by rw [rightE_steps, hr, hb, hs]; simp [useT, useNum, useOp, useM, ho]; omega)
      rw [HB.out]
      have hkc : BlkT 23 ((w.alloc (.cells #[.int .i64 ct, .int .i64 cp, .int .i64 cs] 23)).alloc (.cells #[.int .i64 1, .int .i64 t, .int .i64 num, .int .i64 ok, .int .i64 oa, .int .i64 ob, .int .i64 n, .int .i64 m] 32)) w.heap.size #[.int .i64 ct, .int .i64 cp, .int .i64 cs] := blkT_old (blkT_new rfl)
      have hke : BlkT 32 ((w.alloc (.cells #[.int .i64 ct, .int .i64 cp, .int .i64 cs] 23)).alloc (.cells #[.int .i64 1, .int .i64 t, .int .i64 num, .int .i64 ok, .int .i64 oa, .int .i64 ob, .int .i64 n, .int .i64 m] 32)) (w.heap.size + 1) #[.int .i64 1, .int .i64 t, .int .i64 num, .int .i64 ok, .int .i64 oa, .int .i64 ob, .int .i64 n, .int .i64 m] := blkT_new (by simp)
      have hB : Below w.heap.size w ((w.alloc (.cells #[.int .i64 ct, .int .i64 cp, .int .i64 cs] 23)).alloc (.cells #[.int .i64 1, .int .i64 t, .int .i64 num, .int .i64 ok, .int .i64 oa, .int .i64 ob, .int .i64 n, .int .i64 m] 32)) := ((Below.refl _ _).alloc (Nat.le_refl _) _).alloc (by simp) _
      go_enter Try.func62, Try.ntmps62
      go_wp2_with fail
      refine (CK.out _).mono ?_
      rintro e w1 ⟨rfl, hb1⟩
      have hkc := blkT_call hb1 hkc
      have hke := blkT_call hb1 hke
      have hB : Below w.heap.size w w1 := hB.trans (hb1.mono hB.size)
      clear hb1
      have q0 : w1.cell? ⟨w.heap.size, 0, none⟩ = some (.int .i64 ct) := blkT_cell hkc rfl
      have q1 : w1.cell? ⟨w.heap.size, 1, none⟩ = some (.int .i64 cp) := blkT_cell hkc rfl
      have q2 : w1.cell? ⟨w.heap.size, 2, none⟩ = some (.int .i64 cs) := blkT_cell hkc rfl
      have c0 : w1.cell? ⟨w.heap.size + 1, 0, none⟩ = some (.int .i64 1) := blkT_cell hke rfl
      have c1 : w1.cell? ⟨w.heap.size + 1, 1, none⟩ = some (.int .i64 t) := blkT_cell hke rfl
      have c2 : w1.cell? ⟨w.heap.size + 1, 2, none⟩ = some (.int .i64 num) := blkT_cell hke rfl
      have c3 : w1.cell? ⟨w.heap.size + 1, 3, none⟩ = some (.int .i64 ok) := blkT_cell hke rfl
      have c4 : w1.cell? ⟨w.heap.size + 1, 4, none⟩ = some (.int .i64 oa) := blkT_cell hke rfl
      have c5 : w1.cell? ⟨w.heap.size + 1, 5, none⟩ = some (.int .i64 ob) := blkT_cell hke rfl
      have c6 : w1.cell? ⟨w.heap.size + 1, 6, none⟩ = some (.int .i64 n) := blkT_cell hke rfl
      have c7 : w1.cell? ⟨w.heap.size + 1, 7, none⟩ = some (.int .i64 m) := blkT_cell hke rfl
      have zq : w.heap.size < w1.heap.size := blkT_lt hkc
      have zc : w.heap.size + 1 < w1.heap.size := blkT_lt hke
      go_wp2_with fail
      refine (TH.out _).mono ?_
      rintro e _ ⟨rfl, rfl⟩
      go_wp2_with fail
      refine (BR.out _).mono ?_
      rintro e w2 ⟨rfl, hb2⟩
      have hkc := blkT_call hb2 hkc
      have hke := blkT_call hb2 hke
      have hB : Below w.heap.size w w2 := hB.trans (hb2.mono hB.size)
      clear hb2
      have q0 : w2.cell? ⟨w.heap.size, 0, none⟩ = some (.int .i64 ct) := blkT_cell hkc rfl
      have q1 : w2.cell? ⟨w.heap.size, 1, none⟩ = some (.int .i64 cp) := blkT_cell hkc rfl
      have q2 : w2.cell? ⟨w.heap.size, 2, none⟩ = some (.int .i64 cs) := blkT_cell hkc rfl
      have c0 : w2.cell? ⟨w.heap.size + 1, 0, none⟩ = some (.int .i64 1) := blkT_cell hke rfl
      have c1 : w2.cell? ⟨w.heap.size + 1, 1, none⟩ = some (.int .i64 t) := blkT_cell hke rfl
      have c2 : w2.cell? ⟨w.heap.size + 1, 2, none⟩ = some (.int .i64 num) := blkT_cell hke rfl
      have c3 : w2.cell? ⟨w.heap.size + 1, 3, none⟩ = some (.int .i64 ok) := blkT_cell hke rfl
      have c4 : w2.cell? ⟨w.heap.size + 1, 4, none⟩ = some (.int .i64 oa) := blkT_cell hke rfl
      have c5 : w2.cell? ⟨w.heap.size + 1, 5, none⟩ = some (.int .i64 ob) := blkT_cell hke rfl
      have c6 : w2.cell? ⟨w.heap.size + 1, 6, none⟩ = some (.int .i64 n) := blkT_cell hke rfl
      have c7 : w2.cell? ⟨w.heap.size + 1, 7, none⟩ = some (.int .i64 m) := blkT_cell hke rfl
      have zq : w.heap.size < w2.heap.size := blkT_lt hkc
      have zc : w.heap.size + 1 < w2.heap.size := blkT_lt hke
      go_wp2_with fail
      refine (SP.out _).mono ?_
      rintro e w3 ⟨rfl, hb3⟩
      have hkc := blkT_call hb3 hkc
      have hke := blkT_call hb3 hke
      have hB : Below w.heap.size w w3 := hB.trans (hb3.mono hB.size)
      clear hb3
      have q0 : w3.cell? ⟨w.heap.size, 0, none⟩ = some (.int .i64 ct) := blkT_cell hkc rfl
      have q1 : w3.cell? ⟨w.heap.size, 1, none⟩ = some (.int .i64 cp) := blkT_cell hkc rfl
      have q2 : w3.cell? ⟨w.heap.size, 2, none⟩ = some (.int .i64 cs) := blkT_cell hkc rfl
      have c0 : w3.cell? ⟨w.heap.size + 1, 0, none⟩ = some (.int .i64 1) := blkT_cell hke rfl
      have c1 : w3.cell? ⟨w.heap.size + 1, 1, none⟩ = some (.int .i64 t) := blkT_cell hke rfl
      have c2 : w3.cell? ⟨w.heap.size + 1, 2, none⟩ = some (.int .i64 num) := blkT_cell hke rfl
      have c3 : w3.cell? ⟨w.heap.size + 1, 3, none⟩ = some (.int .i64 ok) := blkT_cell hke rfl
      have c4 : w3.cell? ⟨w.heap.size + 1, 4, none⟩ = some (.int .i64 oa) := blkT_cell hke rfl
      have c5 : w3.cell? ⟨w.heap.size + 1, 5, none⟩ = some (.int .i64 ob) := blkT_cell hke rfl
      have c6 : w3.cell? ⟨w.heap.size + 1, 6, none⟩ = some (.int .i64 n) := blkT_cell hke rfl
      have c7 : w3.cell? ⟨w.heap.size + 1, 7, none⟩ = some (.int .i64 m) := blkT_cell hke rfl
      have zq : w.heap.size < w3.heap.size := blkT_lt hkc
      have zc : w.heap.size + 1 < w3.heap.size := blkT_lt hke
      go_wp2_with fail
      refine (OR.out _).mono ?_
      rintro e w4 ⟨rfl, hb4⟩
      have hkc := blkT_call hb4 hkc
      have hke := blkT_call hb4 hke
      have hB : Below w.heap.size w w4 := hB.trans (hb4.mono hB.size)
      clear hb4
      have q0 : w4.cell? ⟨w.heap.size, 0, none⟩ = some (.int .i64 ct) := blkT_cell hkc rfl
      have q1 : w4.cell? ⟨w.heap.size, 1, none⟩ = some (.int .i64 cp) := blkT_cell hkc rfl
      have q2 : w4.cell? ⟨w.heap.size, 2, none⟩ = some (.int .i64 cs) := blkT_cell hkc rfl
      have c0 : w4.cell? ⟨w.heap.size + 1, 0, none⟩ = some (.int .i64 1) := blkT_cell hke rfl
      have c1 : w4.cell? ⟨w.heap.size + 1, 1, none⟩ = some (.int .i64 t) := blkT_cell hke rfl
      have c2 : w4.cell? ⟨w.heap.size + 1, 2, none⟩ = some (.int .i64 num) := blkT_cell hke rfl
      have c3 : w4.cell? ⟨w.heap.size + 1, 3, none⟩ = some (.int .i64 ok) := blkT_cell hke rfl
      have c4 : w4.cell? ⟨w.heap.size + 1, 4, none⟩ = some (.int .i64 oa) := blkT_cell hke rfl
      have c5 : w4.cell? ⟨w.heap.size + 1, 5, none⟩ = some (.int .i64 ob) := blkT_cell hke rfl
      have c6 : w4.cell? ⟨w.heap.size + 1, 6, none⟩ = some (.int .i64 n) := blkT_cell hke rfl
      have c7 : w4.cell? ⟨w.heap.size + 1, 7, none⟩ = some (.int .i64 m) := blkT_cell hke rfl
      have zq : w.heap.size < w4.heap.size := blkT_lt hkc
      have zc : w.heap.size + 1 < w4.heap.size := blkT_lt hke
      go_wp2_with fail
      go_ret
      exact ⟨ret_bool (by first | rfl | (simp; omega) | (simp [*]; done)), hB⟩
    by_cases g2 : num ≤ 2147483647
    rotate_left
    · skip
      have HB := hid (show rightE ct cp cs ⟨1, t, num, ok, oa, ob, n, m⟩ = false by rw [rightE_steps, hr, hb, hs]; simp [useT, useNum, useOp, useM, ho, g1]; omega)
      rw [HB.out]
      have hkc : BlkT 23 ((w.alloc (.cells #[.int .i64 ct, .int .i64 cp, .int .i64 cs] 23)).alloc (.cells #[.int .i64 1, .int .i64 t, .int .i64 num, .int .i64 ok, .int .i64 oa, .int .i64 ob, .int .i64 n, .int .i64 m] 32)) w.heap.size #[.int .i64 ct, .int .i64 cp, .int .i64 cs] := blkT_old (blkT_new rfl)
      have hke : BlkT 32 ((w.alloc (.cells #[.int .i64 ct, .int .i64 cp, .int .i64 cs] 23)).alloc (.cells #[.int .i64 1, .int .i64 t, .int .i64 num, .int .i64 ok, .int .i64 oa, .int .i64 ob, .int .i64 n, .int .i64 m] 32)) (w.heap.size + 1) #[.int .i64 1, .int .i64 t, .int .i64 num, .int .i64 ok, .int .i64 oa, .int .i64 ob, .int .i64 n, .int .i64 m] := blkT_new (by simp)
      have hB : Below w.heap.size w ((w.alloc (.cells #[.int .i64 ct, .int .i64 cp, .int .i64 cs] 23)).alloc (.cells #[.int .i64 1, .int .i64 t, .int .i64 num, .int .i64 ok, .int .i64 oa, .int .i64 ob, .int .i64 n, .int .i64 m] 32)) := ((Below.refl _ _).alloc (Nat.le_refl _) _).alloc (by simp) _
      go_enter Try.func62, Try.ntmps62
      go_wp2_with fail
      refine (CK.out _).mono ?_
      rintro e w1 ⟨rfl, hb1⟩
      have hkc := blkT_call hb1 hkc
      have hke := blkT_call hb1 hke
      have hB : Below w.heap.size w w1 := hB.trans (hb1.mono hB.size)
      clear hb1
      have q0 : w1.cell? ⟨w.heap.size, 0, none⟩ = some (.int .i64 ct) := blkT_cell hkc rfl
      have q1 : w1.cell? ⟨w.heap.size, 1, none⟩ = some (.int .i64 cp) := blkT_cell hkc rfl
      have q2 : w1.cell? ⟨w.heap.size, 2, none⟩ = some (.int .i64 cs) := blkT_cell hkc rfl
      have c0 : w1.cell? ⟨w.heap.size + 1, 0, none⟩ = some (.int .i64 1) := blkT_cell hke rfl
      have c1 : w1.cell? ⟨w.heap.size + 1, 1, none⟩ = some (.int .i64 t) := blkT_cell hke rfl
      have c2 : w1.cell? ⟨w.heap.size + 1, 2, none⟩ = some (.int .i64 num) := blkT_cell hke rfl
      have c3 : w1.cell? ⟨w.heap.size + 1, 3, none⟩ = some (.int .i64 ok) := blkT_cell hke rfl
      have c4 : w1.cell? ⟨w.heap.size + 1, 4, none⟩ = some (.int .i64 oa) := blkT_cell hke rfl
      have c5 : w1.cell? ⟨w.heap.size + 1, 5, none⟩ = some (.int .i64 ob) := blkT_cell hke rfl
      have c6 : w1.cell? ⟨w.heap.size + 1, 6, none⟩ = some (.int .i64 n) := blkT_cell hke rfl
      have c7 : w1.cell? ⟨w.heap.size + 1, 7, none⟩ = some (.int .i64 m) := blkT_cell hke rfl
      have zq : w.heap.size < w1.heap.size := blkT_lt hkc
      have zc : w.heap.size + 1 < w1.heap.size := blkT_lt hke
      go_wp2_with fail
      refine (TH.out _).mono ?_
      rintro e _ ⟨rfl, rfl⟩
      go_wp2_with fail
      refine (BR.out _).mono ?_
      rintro e w2 ⟨rfl, hb2⟩
      have hkc := blkT_call hb2 hkc
      have hke := blkT_call hb2 hke
      have hB : Below w.heap.size w w2 := hB.trans (hb2.mono hB.size)
      clear hb2
      have q0 : w2.cell? ⟨w.heap.size, 0, none⟩ = some (.int .i64 ct) := blkT_cell hkc rfl
      have q1 : w2.cell? ⟨w.heap.size, 1, none⟩ = some (.int .i64 cp) := blkT_cell hkc rfl
      have q2 : w2.cell? ⟨w.heap.size, 2, none⟩ = some (.int .i64 cs) := blkT_cell hkc rfl
      have c0 : w2.cell? ⟨w.heap.size + 1, 0, none⟩ = some (.int .i64 1) := blkT_cell hke rfl
      have c1 : w2.cell? ⟨w.heap.size + 1, 1, none⟩ = some (.int .i64 t) := blkT_cell hke rfl
      have c2 : w2.cell? ⟨w.heap.size + 1, 2, none⟩ = some (.int .i64 num) := blkT_cell hke rfl
      have c3 : w2.cell? ⟨w.heap.size + 1, 3, none⟩ = some (.int .i64 ok) := blkT_cell hke rfl
      have c4 : w2.cell? ⟨w.heap.size + 1, 4, none⟩ = some (.int .i64 oa) := blkT_cell hke rfl
      have c5 : w2.cell? ⟨w.heap.size + 1, 5, none⟩ = some (.int .i64 ob) := blkT_cell hke rfl
      have c6 : w2.cell? ⟨w.heap.size + 1, 6, none⟩ = some (.int .i64 n) := blkT_cell hke rfl
      have c7 : w2.cell? ⟨w.heap.size + 1, 7, none⟩ = some (.int .i64 m) := blkT_cell hke rfl
      have zq : w.heap.size < w2.heap.size := blkT_lt hkc
      have zc : w.heap.size + 1 < w2.heap.size := blkT_lt hke
      go_wp2_with fail
      refine (SP.out _).mono ?_
      rintro e w3 ⟨rfl, hb3⟩
      have hkc := blkT_call hb3 hkc
      have hke := blkT_call hb3 hke
      have hB : Below w.heap.size w w3 := hB.trans (hb3.mono hB.size)
      clear hb3
      have q0 : w3.cell? ⟨w.heap.size, 0, none⟩ = some (.int .i64 ct) := blkT_cell hkc rfl
      have q1 : w3.cell? ⟨w.heap.size, 1, none⟩ = some (.int .i64 cp) := blkT_cell hkc rfl
      have q2 : w3.cell? ⟨w.heap.size, 2, none⟩ = some (.int .i64 cs) := blkT_cell hkc rfl
      have c0 : w3.cell? ⟨w.heap.size + 1, 0, none⟩ = some (.int .i64 1) := blkT_cell hke rfl
      have c1 : w3.cell? ⟨w.heap.size + 1, 1, none⟩ = some (.int .i64 t) := blkT_cell hke rfl
      have c2 : w3.cell? ⟨w.heap.size + 1, 2, none⟩ = some (.int .i64 num) := blkT_cell hke rfl
      have c3 : w3.cell? ⟨w.heap.size + 1, 3, none⟩ = some (.int .i64 ok) := blkT_cell hke rfl
      have c4 : w3.cell? ⟨w.heap.size + 1, 4, none⟩ = some (.int .i64 oa) := blkT_cell hke rfl
      have c5 : w3.cell? ⟨w.heap.size + 1, 5, none⟩ = some (.int .i64 ob) := blkT_cell hke rfl
      have c6 : w3.cell? ⟨w.heap.size + 1, 6, none⟩ = some (.int .i64 n) := blkT_cell hke rfl
      have c7 : w3.cell? ⟨w.heap.size + 1, 7, none⟩ = some (.int .i64 m) := blkT_cell hke rfl
      have zq : w.heap.size < w3.heap.size := blkT_lt hkc
      have zc : w.heap.size + 1 < w3.heap.size := blkT_lt hke
      go_wp2_with fail
      refine (OR.out _).mono ?_
      rintro e w4 ⟨rfl, hb4⟩
      have hkc := blkT_call hb4 hkc
      have hke := blkT_call hb4 hke
      have hB : Below w.heap.size w w4 := hB.trans (hb4.mono hB.size)
      clear hb4
      have q0 : w4.cell? ⟨w.heap.size, 0, none⟩ = some (.int .i64 ct) := blkT_cell hkc rfl
      have q1 : w4.cell? ⟨w.heap.size, 1, none⟩ = some (.int .i64 cp) := blkT_cell hkc rfl
      have q2 : w4.cell? ⟨w.heap.size, 2, none⟩ = some (.int .i64 cs) := blkT_cell hkc rfl
      have c0 : w4.cell? ⟨w.heap.size + 1, 0, none⟩ = some (.int .i64 1) := blkT_cell hke rfl
      have c1 : w4.cell? ⟨w.heap.size + 1, 1, none⟩ = some (.int .i64 t) := blkT_cell hke rfl
      have c2 : w4.cell? ⟨w.heap.size + 1, 2, none⟩ = some (.int .i64 num) := blkT_cell hke rfl
      have c3 : w4.cell? ⟨w.heap.size + 1, 3, none⟩ = some (.int .i64 ok) := blkT_cell hke rfl
      have c4 : w4.cell? ⟨w.heap.size + 1, 4, none⟩ = some (.int .i64 oa) := blkT_cell hke rfl
      have c5 : w4.cell? ⟨w.heap.size + 1, 5, none⟩ = some (.int .i64 ob) := blkT_cell hke rfl
      have c6 : w4.cell? ⟨w.heap.size + 1, 6, none⟩ = some (.int .i64 n) := blkT_cell hke rfl
      have c7 : w4.cell? ⟨w.heap.size + 1, 7, none⟩ = some (.int .i64 m) := blkT_cell hke rfl
      have zq : w.heap.size < w4.heap.size := blkT_lt hkc
      have zc : w.heap.size + 1 < w4.heap.size := blkT_lt hke
      go_wp2_with fail
      go_ret
      exact ⟨ret_bool (by first | rfl | (simp; omega) | (simp [*]; done)), hB⟩
    by_cases g3 : 0 ≤ t
    rotate_left
    · skip
      have HB := hid (show rightE ct cp cs ⟨1, t, num, ok, oa, ob, n, m⟩ = false by rw [rightE_steps, hr, hb, hs]; simp [useT, useNum, useOp, useM, ho, g1, g2]; omega)
      rw [HB.out]
      have hkc : BlkT 23 ((w.alloc (.cells #[.int .i64 ct, .int .i64 cp, .int .i64 cs] 23)).alloc (.cells #[.int .i64 1, .int .i64 t, .int .i64 num, .int .i64 ok, .int .i64 oa, .int .i64 ob, .int .i64 n, .int .i64 m] 32)) w.heap.size #[.int .i64 ct, .int .i64 cp, .int .i64 cs] := blkT_old (blkT_new rfl)
      have hke : BlkT 32 ((w.alloc (.cells #[.int .i64 ct, .int .i64 cp, .int .i64 cs] 23)).alloc (.cells #[.int .i64 1, .int .i64 t, .int .i64 num, .int .i64 ok, .int .i64 oa, .int .i64 ob, .int .i64 n, .int .i64 m] 32)) (w.heap.size + 1) #[.int .i64 1, .int .i64 t, .int .i64 num, .int .i64 ok, .int .i64 oa, .int .i64 ob, .int .i64 n, .int .i64 m] := blkT_new (by simp)
      have hB : Below w.heap.size w ((w.alloc (.cells #[.int .i64 ct, .int .i64 cp, .int .i64 cs] 23)).alloc (.cells #[.int .i64 1, .int .i64 t, .int .i64 num, .int .i64 ok, .int .i64 oa, .int .i64 ob, .int .i64 n, .int .i64 m] 32)) := ((Below.refl _ _).alloc (Nat.le_refl _) _).alloc (by simp) _
      go_enter Try.func62, Try.ntmps62
      go_wp2_with fail
      refine (CK.out _).mono ?_
      rintro e w1 ⟨rfl, hb1⟩
      have hkc := blkT_call hb1 hkc
      have hke := blkT_call hb1 hke
      have hB : Below w.heap.size w w1 := hB.trans (hb1.mono hB.size)
      clear hb1
      have q0 : w1.cell? ⟨w.heap.size, 0, none⟩ = some (.int .i64 ct) := blkT_cell hkc rfl
      have q1 : w1.cell? ⟨w.heap.size, 1, none⟩ = some (.int .i64 cp) := blkT_cell hkc rfl
      have q2 : w1.cell? ⟨w.heap.size, 2, none⟩ = some (.int .i64 cs) := blkT_cell hkc rfl
      have c0 : w1.cell? ⟨w.heap.size + 1, 0, none⟩ = some (.int .i64 1) := blkT_cell hke rfl
      have c1 : w1.cell? ⟨w.heap.size + 1, 1, none⟩ = some (.int .i64 t) := blkT_cell hke rfl
      have c2 : w1.cell? ⟨w.heap.size + 1, 2, none⟩ = some (.int .i64 num) := blkT_cell hke rfl
      have c3 : w1.cell? ⟨w.heap.size + 1, 3, none⟩ = some (.int .i64 ok) := blkT_cell hke rfl
      have c4 : w1.cell? ⟨w.heap.size + 1, 4, none⟩ = some (.int .i64 oa) := blkT_cell hke rfl
      have c5 : w1.cell? ⟨w.heap.size + 1, 5, none⟩ = some (.int .i64 ob) := blkT_cell hke rfl
      have c6 : w1.cell? ⟨w.heap.size + 1, 6, none⟩ = some (.int .i64 n) := blkT_cell hke rfl
      have c7 : w1.cell? ⟨w.heap.size + 1, 7, none⟩ = some (.int .i64 m) := blkT_cell hke rfl
      have zq : w.heap.size < w1.heap.size := blkT_lt hkc
      have zc : w.heap.size + 1 < w1.heap.size := blkT_lt hke
      go_wp2_with fail
      refine (TH.out _).mono ?_
      rintro e _ ⟨rfl, rfl⟩
      go_wp2_with fail
      refine (BR.out _).mono ?_
      rintro e w2 ⟨rfl, hb2⟩
      have hkc := blkT_call hb2 hkc
      have hke := blkT_call hb2 hke
      have hB : Below w.heap.size w w2 := hB.trans (hb2.mono hB.size)
      clear hb2
      have q0 : w2.cell? ⟨w.heap.size, 0, none⟩ = some (.int .i64 ct) := blkT_cell hkc rfl
      have q1 : w2.cell? ⟨w.heap.size, 1, none⟩ = some (.int .i64 cp) := blkT_cell hkc rfl
      have q2 : w2.cell? ⟨w.heap.size, 2, none⟩ = some (.int .i64 cs) := blkT_cell hkc rfl
      have c0 : w2.cell? ⟨w.heap.size + 1, 0, none⟩ = some (.int .i64 1) := blkT_cell hke rfl
      have c1 : w2.cell? ⟨w.heap.size + 1, 1, none⟩ = some (.int .i64 t) := blkT_cell hke rfl
      have c2 : w2.cell? ⟨w.heap.size + 1, 2, none⟩ = some (.int .i64 num) := blkT_cell hke rfl
      have c3 : w2.cell? ⟨w.heap.size + 1, 3, none⟩ = some (.int .i64 ok) := blkT_cell hke rfl
      have c4 : w2.cell? ⟨w.heap.size + 1, 4, none⟩ = some (.int .i64 oa) := blkT_cell hke rfl
      have c5 : w2.cell? ⟨w.heap.size + 1, 5, none⟩ = some (.int .i64 ob) := blkT_cell hke rfl
      have c6 : w2.cell? ⟨w.heap.size + 1, 6, none⟩ = some (.int .i64 n) := blkT_cell hke rfl
      have c7 : w2.cell? ⟨w.heap.size + 1, 7, none⟩ = some (.int .i64 m) := blkT_cell hke rfl
      have zq : w.heap.size < w2.heap.size := blkT_lt hkc
      have zc : w.heap.size + 1 < w2.heap.size := blkT_lt hke
      go_wp2_with fail
      refine (SP.out _).mono ?_
      rintro e w3 ⟨rfl, hb3⟩
      have hkc := blkT_call hb3 hkc
      have hke := blkT_call hb3 hke
      have hB : Below w.heap.size w w3 := hB.trans (hb3.mono hB.size)
      clear hb3
      have q0 : w3.cell? ⟨w.heap.size, 0, none⟩ = some (.int .i64 ct) := blkT_cell hkc rfl
      have q1 : w3.cell? ⟨w.heap.size, 1, none⟩ = some (.int .i64 cp) := blkT_cell hkc rfl
      have q2 : w3.cell? ⟨w.heap.size, 2, none⟩ = some (.int .i64 cs) := blkT_cell hkc rfl
      have c0 : w3.cell? ⟨w.heap.size + 1, 0, none⟩ = some (.int .i64 1) := blkT_cell hke rfl
      have c1 : w3.cell? ⟨w.heap.size + 1, 1, none⟩ = some (.int .i64 t) := blkT_cell hke rfl
      have c2 : w3.cell? ⟨w.heap.size + 1, 2, none⟩ = some (.int .i64 num) := blkT_cell hke rfl
      have c3 : w3.cell? ⟨w.heap.size + 1, 3, none⟩ = some (.int .i64 ok) := blkT_cell hke rfl
      have c4 : w3.cell? ⟨w.heap.size + 1, 4, none⟩ = some (.int .i64 oa) := blkT_cell hke rfl
      have c5 : w3.cell? ⟨w.heap.size + 1, 5, none⟩ = some (.int .i64 ob) := blkT_cell hke rfl
      have c6 : w3.cell? ⟨w.heap.size + 1, 6, none⟩ = some (.int .i64 n) := blkT_cell hke rfl
      have c7 : w3.cell? ⟨w.heap.size + 1, 7, none⟩ = some (.int .i64 m) := blkT_cell hke rfl
      have zq : w.heap.size < w3.heap.size := blkT_lt hkc
      have zc : w.heap.size + 1 < w3.heap.size := blkT_lt hke
      go_wp2_with fail
      refine (OR.out _).mono ?_
      rintro e w4 ⟨rfl, hb4⟩
      have hkc := blkT_call hb4 hkc
      have hke := blkT_call hb4 hke
      have hB : Below w.heap.size w w4 := hB.trans (hb4.mono hB.size)
      clear hb4
      have q0 : w4.cell? ⟨w.heap.size, 0, none⟩ = some (.int .i64 ct) := blkT_cell hkc rfl
      have q1 : w4.cell? ⟨w.heap.size, 1, none⟩ = some (.int .i64 cp) := blkT_cell hkc rfl
      have q2 : w4.cell? ⟨w.heap.size, 2, none⟩ = some (.int .i64 cs) := blkT_cell hkc rfl
      have c0 : w4.cell? ⟨w.heap.size + 1, 0, none⟩ = some (.int .i64 1) := blkT_cell hke rfl
      have c1 : w4.cell? ⟨w.heap.size + 1, 1, none⟩ = some (.int .i64 t) := blkT_cell hke rfl
      have c2 : w4.cell? ⟨w.heap.size + 1, 2, none⟩ = some (.int .i64 num) := blkT_cell hke rfl
      have c3 : w4.cell? ⟨w.heap.size + 1, 3, none⟩ = some (.int .i64 ok) := blkT_cell hke rfl
      have c4 : w4.cell? ⟨w.heap.size + 1, 4, none⟩ = some (.int .i64 oa) := blkT_cell hke rfl
      have c5 : w4.cell? ⟨w.heap.size + 1, 5, none⟩ = some (.int .i64 ob) := blkT_cell hke rfl
      have c6 : w4.cell? ⟨w.heap.size + 1, 6, none⟩ = some (.int .i64 n) := blkT_cell hke rfl
      have c7 : w4.cell? ⟨w.heap.size + 1, 7, none⟩ = some (.int .i64 m) := blkT_cell hke rfl
      have zq : w.heap.size < w4.heap.size := blkT_lt hkc
      have zc : w.heap.size + 1 < w4.heap.size := blkT_lt hke
      go_wp2_with fail
      go_ret
      exact ⟨ret_bool (by first | rfl | (simp; omega) | (simp [*]; done)), hB⟩
    by_cases g4 : t < ct
    rotate_left
    · skip
      have HB := hid (show rightE ct cp cs ⟨1, t, num, ok, oa, ob, n, m⟩ = false by rw [rightE_steps, hr, hb, hs]; simp [useT, useNum, useOp, useM, ho, g1, g2, g3]; omega)
      rw [HB.out]
      have hkc : BlkT 23 ((w.alloc (.cells #[.int .i64 ct, .int .i64 cp, .int .i64 cs] 23)).alloc (.cells #[.int .i64 1, .int .i64 t, .int .i64 num, .int .i64 ok, .int .i64 oa, .int .i64 ob, .int .i64 n, .int .i64 m] 32)) w.heap.size #[.int .i64 ct, .int .i64 cp, .int .i64 cs] := blkT_old (blkT_new rfl)
      have hke : BlkT 32 ((w.alloc (.cells #[.int .i64 ct, .int .i64 cp, .int .i64 cs] 23)).alloc (.cells #[.int .i64 1, .int .i64 t, .int .i64 num, .int .i64 ok, .int .i64 oa, .int .i64 ob, .int .i64 n, .int .i64 m] 32)) (w.heap.size + 1) #[.int .i64 1, .int .i64 t, .int .i64 num, .int .i64 ok, .int .i64 oa, .int .i64 ob, .int .i64 n, .int .i64 m] := blkT_new (by simp)
      have hB : Below w.heap.size w ((w.alloc (.cells #[.int .i64 ct, .int .i64 cp, .int .i64 cs] 23)).alloc (.cells #[.int .i64 1, .int .i64 t, .int .i64 num, .int .i64 ok, .int .i64 oa, .int .i64 ob, .int .i64 n, .int .i64 m] 32)) := ((Below.refl _ _).alloc (Nat.le_refl _) _).alloc (by simp) _
      go_enter Try.func62, Try.ntmps62
      go_wp2_with fail
      refine (CK.out _).mono ?_
      rintro e w1 ⟨rfl, hb1⟩
      have hkc := blkT_call hb1 hkc
      have hke := blkT_call hb1 hke
      have hB : Below w.heap.size w w1 := hB.trans (hb1.mono hB.size)
      clear hb1
      have q0 : w1.cell? ⟨w.heap.size, 0, none⟩ = some (.int .i64 ct) := blkT_cell hkc rfl
      have q1 : w1.cell? ⟨w.heap.size, 1, none⟩ = some (.int .i64 cp) := blkT_cell hkc rfl
      have q2 : w1.cell? ⟨w.heap.size, 2, none⟩ = some (.int .i64 cs) := blkT_cell hkc rfl
      have c0 : w1.cell? ⟨w.heap.size + 1, 0, none⟩ = some (.int .i64 1) := blkT_cell hke rfl
      have c1 : w1.cell? ⟨w.heap.size + 1, 1, none⟩ = some (.int .i64 t) := blkT_cell hke rfl
      have c2 : w1.cell? ⟨w.heap.size + 1, 2, none⟩ = some (.int .i64 num) := blkT_cell hke rfl
      have c3 : w1.cell? ⟨w.heap.size + 1, 3, none⟩ = some (.int .i64 ok) := blkT_cell hke rfl
      have c4 : w1.cell? ⟨w.heap.size + 1, 4, none⟩ = some (.int .i64 oa) := blkT_cell hke rfl
      have c5 : w1.cell? ⟨w.heap.size + 1, 5, none⟩ = some (.int .i64 ob) := blkT_cell hke rfl
      have c6 : w1.cell? ⟨w.heap.size + 1, 6, none⟩ = some (.int .i64 n) := blkT_cell hke rfl
      have c7 : w1.cell? ⟨w.heap.size + 1, 7, none⟩ = some (.int .i64 m) := blkT_cell hke rfl
      have zq : w.heap.size < w1.heap.size := blkT_lt hkc
      have zc : w.heap.size + 1 < w1.heap.size := blkT_lt hke
      go_wp2_with fail
      refine (TH.out _).mono ?_
      rintro e _ ⟨rfl, rfl⟩
      go_wp2_with fail
      refine (BR.out _).mono ?_
      rintro e w2 ⟨rfl, hb2⟩
      have hkc := blkT_call hb2 hkc
      have hke := blkT_call hb2 hke
      have hB : Below w.heap.size w w2 := hB.trans (hb2.mono hB.size)
      clear hb2
      have q0 : w2.cell? ⟨w.heap.size, 0, none⟩ = some (.int .i64 ct) := blkT_cell hkc rfl
      have q1 : w2.cell? ⟨w.heap.size, 1, none⟩ = some (.int .i64 cp) := blkT_cell hkc rfl
      have q2 : w2.cell? ⟨w.heap.size, 2, none⟩ = some (.int .i64 cs) := blkT_cell hkc rfl
      have c0 : w2.cell? ⟨w.heap.size + 1, 0, none⟩ = some (.int .i64 1) := blkT_cell hke rfl
      have c1 : w2.cell? ⟨w.heap.size + 1, 1, none⟩ = some (.int .i64 t) := blkT_cell hke rfl
      have c2 : w2.cell? ⟨w.heap.size + 1, 2, none⟩ = some (.int .i64 num) := blkT_cell hke rfl
      have c3 : w2.cell? ⟨w.heap.size + 1, 3, none⟩ = some (.int .i64 ok) := blkT_cell hke rfl
      have c4 : w2.cell? ⟨w.heap.size + 1, 4, none⟩ = some (.int .i64 oa) := blkT_cell hke rfl
      have c5 : w2.cell? ⟨w.heap.size + 1, 5, none⟩ = some (.int .i64 ob) := blkT_cell hke rfl
      have c6 : w2.cell? ⟨w.heap.size + 1, 6, none⟩ = some (.int .i64 n) := blkT_cell hke rfl
      have c7 : w2.cell? ⟨w.heap.size + 1, 7, none⟩ = some (.int .i64 m) := blkT_cell hke rfl
      have zq : w.heap.size < w2.heap.size := blkT_lt hkc
      have zc : w.heap.size + 1 < w2.heap.size := blkT_lt hke
      go_wp2_with fail
      refine (SP.out _).mono ?_
      rintro e w3 ⟨rfl, hb3⟩
      have hkc := blkT_call hb3 hkc
      have hke := blkT_call hb3 hke
      have hB : Below w.heap.size w w3 := hB.trans (hb3.mono hB.size)
      clear hb3
      have q0 : w3.cell? ⟨w.heap.size, 0, none⟩ = some (.int .i64 ct) := blkT_cell hkc rfl
      have q1 : w3.cell? ⟨w.heap.size, 1, none⟩ = some (.int .i64 cp) := blkT_cell hkc rfl
      have q2 : w3.cell? ⟨w.heap.size, 2, none⟩ = some (.int .i64 cs) := blkT_cell hkc rfl
      have c0 : w3.cell? ⟨w.heap.size + 1, 0, none⟩ = some (.int .i64 1) := blkT_cell hke rfl
      have c1 : w3.cell? ⟨w.heap.size + 1, 1, none⟩ = some (.int .i64 t) := blkT_cell hke rfl
      have c2 : w3.cell? ⟨w.heap.size + 1, 2, none⟩ = some (.int .i64 num) := blkT_cell hke rfl
      have c3 : w3.cell? ⟨w.heap.size + 1, 3, none⟩ = some (.int .i64 ok) := blkT_cell hke rfl
      have c4 : w3.cell? ⟨w.heap.size + 1, 4, none⟩ = some (.int .i64 oa) := blkT_cell hke rfl
      have c5 : w3.cell? ⟨w.heap.size + 1, 5, none⟩ = some (.int .i64 ob) := blkT_cell hke rfl
      have c6 : w3.cell? ⟨w.heap.size + 1, 6, none⟩ = some (.int .i64 n) := blkT_cell hke rfl
      have c7 : w3.cell? ⟨w.heap.size + 1, 7, none⟩ = some (.int .i64 m) := blkT_cell hke rfl
      have zq : w.heap.size < w3.heap.size := blkT_lt hkc
      have zc : w.heap.size + 1 < w3.heap.size := blkT_lt hke
      go_wp2_with fail
      refine (OR.out _).mono ?_
      rintro e w4 ⟨rfl, hb4⟩
      have hkc := blkT_call hb4 hkc
      have hke := blkT_call hb4 hke
      have hB : Below w.heap.size w w4 := hB.trans (hb4.mono hB.size)
      clear hb4
      have q0 : w4.cell? ⟨w.heap.size, 0, none⟩ = some (.int .i64 ct) := blkT_cell hkc rfl
      have q1 : w4.cell? ⟨w.heap.size, 1, none⟩ = some (.int .i64 cp) := blkT_cell hkc rfl
      have q2 : w4.cell? ⟨w.heap.size, 2, none⟩ = some (.int .i64 cs) := blkT_cell hkc rfl
      have c0 : w4.cell? ⟨w.heap.size + 1, 0, none⟩ = some (.int .i64 1) := blkT_cell hke rfl
      have c1 : w4.cell? ⟨w.heap.size + 1, 1, none⟩ = some (.int .i64 t) := blkT_cell hke rfl
      have c2 : w4.cell? ⟨w.heap.size + 1, 2, none⟩ = some (.int .i64 num) := blkT_cell hke rfl
      have c3 : w4.cell? ⟨w.heap.size + 1, 3, none⟩ = some (.int .i64 ok) := blkT_cell hke rfl
      have c4 : w4.cell? ⟨w.heap.size + 1, 4, none⟩ = some (.int .i64 oa) := blkT_cell hke rfl
      have c5 : w4.cell? ⟨w.heap.size + 1, 5, none⟩ = some (.int .i64 ob) := blkT_cell hke rfl
      have c6 : w4.cell? ⟨w.heap.size + 1, 6, none⟩ = some (.int .i64 n) := blkT_cell hke rfl
      have c7 : w4.cell? ⟨w.heap.size + 1, 7, none⟩ = some (.int .i64 m) := blkT_cell hke rfl
      have zq : w.heap.size < w4.heap.size := blkT_lt hkc
      have zc : w.heap.size + 1 < w4.heap.size := blkT_lt hke
      go_wp2_with fail
      go_ret
      exact ⟨ret_bool (by first | rfl | (simp; omega) | (simp [*]; done)), hB⟩
    have HB := hid (show rightE ct cp cs ⟨1, t, num, ok, oa, ob, n, m⟩ = true by rw [rightE_steps, hr, hb, hs]; simp [useT, useNum, useOp, useM, ho, g1, g2, g3, g4])
    rw [HB.out]
    have hkc : BlkT 23 ((w.alloc (.cells #[.int .i64 ct, .int .i64 cp, .int .i64 cs] 23)).alloc (.cells #[.int .i64 1, .int .i64 t, .int .i64 num, .int .i64 ok, .int .i64 oa, .int .i64 ob, .int .i64 n, .int .i64 m] 32)) w.heap.size #[.int .i64 ct, .int .i64 cp, .int .i64 cs] := blkT_old (blkT_new rfl)
    have hke : BlkT 32 ((w.alloc (.cells #[.int .i64 ct, .int .i64 cp, .int .i64 cs] 23)).alloc (.cells #[.int .i64 1, .int .i64 t, .int .i64 num, .int .i64 ok, .int .i64 oa, .int .i64 ob, .int .i64 n, .int .i64 m] 32)) (w.heap.size + 1) #[.int .i64 1, .int .i64 t, .int .i64 num, .int .i64 ok, .int .i64 oa, .int .i64 ob, .int .i64 n, .int .i64 m] := blkT_new (by simp)
    have hB : Below w.heap.size w ((w.alloc (.cells #[.int .i64 ct, .int .i64 cp, .int .i64 cs] 23)).alloc (.cells #[.int .i64 1, .int .i64 t, .int .i64 num, .int .i64 ok, .int .i64 oa, .int .i64 ob, .int .i64 n, .int .i64 m] 32)) := ((Below.refl _ _).alloc (Nat.le_refl _) _).alloc (by simp) _
    go_enter Try.func62, Try.ntmps62
    go_wp2_with fail
    refine (CK.out _).mono ?_
    rintro e w1 ⟨rfl, hb1⟩
    have hkc := blkT_call hb1 hkc
    have hke := blkT_call hb1 hke
    have hB : Below w.heap.size w w1 := hB.trans (hb1.mono hB.size)
    clear hb1
    have q0 : w1.cell? ⟨w.heap.size, 0, none⟩ = some (.int .i64 ct) := blkT_cell hkc rfl
    have q1 : w1.cell? ⟨w.heap.size, 1, none⟩ = some (.int .i64 cp) := blkT_cell hkc rfl
    have q2 : w1.cell? ⟨w.heap.size, 2, none⟩ = some (.int .i64 cs) := blkT_cell hkc rfl
    have c0 : w1.cell? ⟨w.heap.size + 1, 0, none⟩ = some (.int .i64 1) := blkT_cell hke rfl
    have c1 : w1.cell? ⟨w.heap.size + 1, 1, none⟩ = some (.int .i64 t) := blkT_cell hke rfl
    have c2 : w1.cell? ⟨w.heap.size + 1, 2, none⟩ = some (.int .i64 num) := blkT_cell hke rfl
    have c3 : w1.cell? ⟨w.heap.size + 1, 3, none⟩ = some (.int .i64 ok) := blkT_cell hke rfl
    have c4 : w1.cell? ⟨w.heap.size + 1, 4, none⟩ = some (.int .i64 oa) := blkT_cell hke rfl
    have c5 : w1.cell? ⟨w.heap.size + 1, 5, none⟩ = some (.int .i64 ob) := blkT_cell hke rfl
    have c6 : w1.cell? ⟨w.heap.size + 1, 6, none⟩ = some (.int .i64 n) := blkT_cell hke rfl
    have c7 : w1.cell? ⟨w.heap.size + 1, 7, none⟩ = some (.int .i64 m) := blkT_cell hke rfl
    have zq : w.heap.size < w1.heap.size := blkT_lt hkc
    have zc : w.heap.size + 1 < w1.heap.size := blkT_lt hke
    go_wp2_with fail
    refine (TH.out _).mono ?_
    rintro e _ ⟨rfl, rfl⟩
    go_wp2_with fail
    refine (BR.out _).mono ?_
    rintro e w2 ⟨rfl, hb2⟩
    have hkc := blkT_call hb2 hkc
    have hke := blkT_call hb2 hke
    have hB : Below w.heap.size w w2 := hB.trans (hb2.mono hB.size)
    clear hb2
    have q0 : w2.cell? ⟨w.heap.size, 0, none⟩ = some (.int .i64 ct) := blkT_cell hkc rfl
    have q1 : w2.cell? ⟨w.heap.size, 1, none⟩ = some (.int .i64 cp) := blkT_cell hkc rfl
    have q2 : w2.cell? ⟨w.heap.size, 2, none⟩ = some (.int .i64 cs) := blkT_cell hkc rfl
    have c0 : w2.cell? ⟨w.heap.size + 1, 0, none⟩ = some (.int .i64 1) := blkT_cell hke rfl
    have c1 : w2.cell? ⟨w.heap.size + 1, 1, none⟩ = some (.int .i64 t) := blkT_cell hke rfl
    have c2 : w2.cell? ⟨w.heap.size + 1, 2, none⟩ = some (.int .i64 num) := blkT_cell hke rfl
    have c3 : w2.cell? ⟨w.heap.size + 1, 3, none⟩ = some (.int .i64 ok) := blkT_cell hke rfl
    have c4 : w2.cell? ⟨w.heap.size + 1, 4, none⟩ = some (.int .i64 oa) := blkT_cell hke rfl
    have c5 : w2.cell? ⟨w.heap.size + 1, 5, none⟩ = some (.int .i64 ob) := blkT_cell hke rfl
    have c6 : w2.cell? ⟨w.heap.size + 1, 6, none⟩ = some (.int .i64 n) := blkT_cell hke rfl
    have c7 : w2.cell? ⟨w.heap.size + 1, 7, none⟩ = some (.int .i64 m) := blkT_cell hke rfl
    have zq : w.heap.size < w2.heap.size := blkT_lt hkc
    have zc : w.heap.size + 1 < w2.heap.size := blkT_lt hke
    go_wp2_with fail
    refine (SP.out _).mono ?_
    rintro e w3 ⟨rfl, hb3⟩
    have hkc := blkT_call hb3 hkc
    have hke := blkT_call hb3 hke
    have hB : Below w.heap.size w w3 := hB.trans (hb3.mono hB.size)
    clear hb3
    have q0 : w3.cell? ⟨w.heap.size, 0, none⟩ = some (.int .i64 ct) := blkT_cell hkc rfl
    have q1 : w3.cell? ⟨w.heap.size, 1, none⟩ = some (.int .i64 cp) := blkT_cell hkc rfl
    have q2 : w3.cell? ⟨w.heap.size, 2, none⟩ = some (.int .i64 cs) := blkT_cell hkc rfl
    have c0 : w3.cell? ⟨w.heap.size + 1, 0, none⟩ = some (.int .i64 1) := blkT_cell hke rfl
    have c1 : w3.cell? ⟨w.heap.size + 1, 1, none⟩ = some (.int .i64 t) := blkT_cell hke rfl
    have c2 : w3.cell? ⟨w.heap.size + 1, 2, none⟩ = some (.int .i64 num) := blkT_cell hke rfl
    have c3 : w3.cell? ⟨w.heap.size + 1, 3, none⟩ = some (.int .i64 ok) := blkT_cell hke rfl
    have c4 : w3.cell? ⟨w.heap.size + 1, 4, none⟩ = some (.int .i64 oa) := blkT_cell hke rfl
    have c5 : w3.cell? ⟨w.heap.size + 1, 5, none⟩ = some (.int .i64 ob) := blkT_cell hke rfl
    have c6 : w3.cell? ⟨w.heap.size + 1, 6, none⟩ = some (.int .i64 n) := blkT_cell hke rfl
    have c7 : w3.cell? ⟨w.heap.size + 1, 7, none⟩ = some (.int .i64 m) := blkT_cell hke rfl
    have zq : w.heap.size < w3.heap.size := blkT_lt hkc
    have zc : w.heap.size + 1 < w3.heap.size := blkT_lt hke
    go_wp2_with fail
    refine (OR.out _).mono ?_
    rintro e w4 ⟨rfl, hb4⟩
    have hkc := blkT_call hb4 hkc
    have hke := blkT_call hb4 hke
    have hB : Below w.heap.size w w4 := hB.trans (hb4.mono hB.size)
    clear hb4
    have q0 : w4.cell? ⟨w.heap.size, 0, none⟩ = some (.int .i64 ct) := blkT_cell hkc rfl
    have q1 : w4.cell? ⟨w.heap.size, 1, none⟩ = some (.int .i64 cp) := blkT_cell hkc rfl
    have q2 : w4.cell? ⟨w.heap.size, 2, none⟩ = some (.int .i64 cs) := blkT_cell hkc rfl
    have c0 : w4.cell? ⟨w.heap.size + 1, 0, none⟩ = some (.int .i64 1) := blkT_cell hke rfl
    have c1 : w4.cell? ⟨w.heap.size + 1, 1, none⟩ = some (.int .i64 t) := blkT_cell hke rfl
    have c2 : w4.cell? ⟨w.heap.size + 1, 2, none⟩ = some (.int .i64 num) := blkT_cell hke rfl
    have c3 : w4.cell? ⟨w.heap.size + 1, 3, none⟩ = some (.int .i64 ok) := blkT_cell hke rfl
    have c4 : w4.cell? ⟨w.heap.size + 1, 4, none⟩ = some (.int .i64 oa) := blkT_cell hke rfl
    have c5 : w4.cell? ⟨w.heap.size + 1, 5, none⟩ = some (.int .i64 ob) := blkT_cell hke rfl
    have c6 : w4.cell? ⟨w.heap.size + 1, 6, none⟩ = some (.int .i64 n) := blkT_cell hke rfl
    have c7 : w4.cell? ⟨w.heap.size + 1, 7, none⟩ = some (.int .i64 m) := blkT_cell hke rfl
    have zq : w.heap.size < w4.heap.size := blkT_lt hkc
    have zc : w.heap.size + 1 < w4.heap.size := blkT_lt hke
    go_wp2_with fail
    go_ret
    exact ⟨ret_bool (by first | rfl | (simp; omega) | (simp [*]; done)), hB⟩
  · skip
    by_cases g0 : 0 ≤ t
    rotate_left
    · skip
      have HB := hid (show rightE ct cp cs ⟨2, t, num, ok, oa, ob, n, m⟩ = false by rw [rightE_steps, hr, hb, hs]; simp [useT, useNum, useOp, useM]; omega)
      rw [HB.out]
      have hkc : BlkT 23 ((w.alloc (.cells #[.int .i64 ct, .int .i64 cp, .int .i64 cs] 23)).alloc (.cells #[.int .i64 2, .int .i64 t, .int .i64 num, .int .i64 ok, .int .i64 oa, .int .i64 ob, .int .i64 n, .int .i64 m] 32)) w.heap.size #[.int .i64 ct, .int .i64 cp, .int .i64 cs] := blkT_old (blkT_new rfl)
      have hke : BlkT 32 ((w.alloc (.cells #[.int .i64 ct, .int .i64 cp, .int .i64 cs] 23)).alloc (.cells #[.int .i64 2, .int .i64 t, .int .i64 num, .int .i64 ok, .int .i64 oa, .int .i64 ob, .int .i64 n, .int .i64 m] 32)) (w.heap.size + 1) #[.int .i64 2, .int .i64 t, .int .i64 num, .int .i64 ok, .int .i64 oa, .int .i64 ob, .int .i64 n, .int .i64 m] := blkT_new (by simp)
      have hB : Below w.heap.size w ((w.alloc (.cells #[.int .i64 ct, .int .i64 cp, .int .i64 cs] 23)).alloc (.cells #[.int .i64 2, .int .i64 t, .int .i64 num, .int .i64 ok, .int .i64 oa, .int .i64 ob, .int .i64 n, .int .i64 m] 32)) := ((Below.refl _ _).alloc (Nat.le_refl _) _).alloc (by simp) _
      go_enter Try.func62, Try.ntmps62
      go_wp2_with fail
      refine (CK.out _).mono ?_
      rintro e w1 ⟨rfl, hb1⟩
      have hkc := blkT_call hb1 hkc
      have hke := blkT_call hb1 hke
      have hB : Below w.heap.size w w1 := hB.trans (hb1.mono hB.size)
      clear hb1
      have q0 : w1.cell? ⟨w.heap.size, 0, none⟩ = some (.int .i64 ct) := blkT_cell hkc rfl
      have q1 : w1.cell? ⟨w.heap.size, 1, none⟩ = some (.int .i64 cp) := blkT_cell hkc rfl
      have q2 : w1.cell? ⟨w.heap.size, 2, none⟩ = some (.int .i64 cs) := blkT_cell hkc rfl
      have c0 : w1.cell? ⟨w.heap.size + 1, 0, none⟩ = some (.int .i64 2) := blkT_cell hke rfl
      have c1 : w1.cell? ⟨w.heap.size + 1, 1, none⟩ = some (.int .i64 t) := blkT_cell hke rfl
      have c2 : w1.cell? ⟨w.heap.size + 1, 2, none⟩ = some (.int .i64 num) := blkT_cell hke rfl
      have c3 : w1.cell? ⟨w.heap.size + 1, 3, none⟩ = some (.int .i64 ok) := blkT_cell hke rfl
      have c4 : w1.cell? ⟨w.heap.size + 1, 4, none⟩ = some (.int .i64 oa) := blkT_cell hke rfl
      have c5 : w1.cell? ⟨w.heap.size + 1, 5, none⟩ = some (.int .i64 ob) := blkT_cell hke rfl
      have c6 : w1.cell? ⟨w.heap.size + 1, 6, none⟩ = some (.int .i64 n) := blkT_cell hke rfl
      have c7 : w1.cell? ⟨w.heap.size + 1, 7, none⟩ = some (.int .i64 m) := blkT_cell hke rfl
      have zq : w.heap.size < w1.heap.size := blkT_lt hkc
      have zc : w.heap.size + 1 < w1.heap.size := blkT_lt hke
      go_wp2_with fail
      refine (TH.out _).mono ?_
      rintro e _ ⟨rfl, rfl⟩
      go_wp2_with fail
      refine (BR.out _).mono ?_
      rintro e w2 ⟨rfl, hb2⟩
      have hkc := blkT_call hb2 hkc
      have hke := blkT_call hb2 hke
      have hB : Below w.heap.size w w2 := hB.trans (hb2.mono hB.size)
      clear hb2
      have q0 : w2.cell? ⟨w.heap.size, 0, none⟩ = some (.int .i64 ct) := blkT_cell hkc rfl
      have q1 : w2.cell? ⟨w.heap.size, 1, none⟩ = some (.int .i64 cp) := blkT_cell hkc rfl
      have q2 : w2.cell? ⟨w.heap.size, 2, none⟩ = some (.int .i64 cs) := blkT_cell hkc rfl
      have c0 : w2.cell? ⟨w.heap.size + 1, 0, none⟩ = some (.int .i64 2) := blkT_cell hke rfl
      have c1 : w2.cell? ⟨w.heap.size + 1, 1, none⟩ = some (.int .i64 t) := blkT_cell hke rfl
      have c2 : w2.cell? ⟨w.heap.size + 1, 2, none⟩ = some (.int .i64 num) := blkT_cell hke rfl
      have c3 : w2.cell? ⟨w.heap.size + 1, 3, none⟩ = some (.int .i64 ok) := blkT_cell hke rfl
      have c4 : w2.cell? ⟨w.heap.size + 1, 4, none⟩ = some (.int .i64 oa) := blkT_cell hke rfl
      have c5 : w2.cell? ⟨w.heap.size + 1, 5, none⟩ = some (.int .i64 ob) := blkT_cell hke rfl
      have c6 : w2.cell? ⟨w.heap.size + 1, 6, none⟩ = some (.int .i64 n) := blkT_cell hke rfl
      have c7 : w2.cell? ⟨w.heap.size + 1, 7, none⟩ = some (.int .i64 m) := blkT_cell hke rfl
      have zq : w.heap.size < w2.heap.size := blkT_lt hkc
      have zc : w.heap.size + 1 < w2.heap.size := blkT_lt hke
      go_wp2_with fail
      refine (SP.out _).mono ?_
      rintro e w3 ⟨rfl, hb3⟩
      have hkc := blkT_call hb3 hkc
      have hke := blkT_call hb3 hke
      have hB : Below w.heap.size w w3 := hB.trans (hb3.mono hB.size)
      clear hb3
      have q0 : w3.cell? ⟨w.heap.size, 0, none⟩ = some (.int .i64 ct) := blkT_cell hkc rfl
      have q1 : w3.cell? ⟨w.heap.size, 1, none⟩ = some (.int .i64 cp) := blkT_cell hkc rfl
      have q2 : w3.cell? ⟨w.heap.size, 2, none⟩ = some (.int .i64 cs) := blkT_cell hkc rfl
      have c0 : w3.cell? ⟨w.heap.size + 1, 0, none⟩ = some (.int .i64 2) := blkT_cell hke rfl
      have c1 : w3.cell? ⟨w.heap.size + 1, 1, none⟩ = some (.int .i64 t) := blkT_cell hke rfl
      have c2 : w3.cell? ⟨w.heap.size + 1, 2, none⟩ = some (.int .i64 num) := blkT_cell hke rfl
      have c3 : w3.cell? ⟨w.heap.size + 1, 3, none⟩ = some (.int .i64 ok) := blkT_cell hke rfl
      have c4 : w3.cell? ⟨w.heap.size + 1, 4, none⟩ = some (.int .i64 oa) := blkT_cell hke rfl
      have c5 : w3.cell? ⟨w.heap.size + 1, 5, none⟩ = some (.int .i64 ob) := blkT_cell hke rfl
      have c6 : w3.cell? ⟨w.heap.size + 1, 6, none⟩ = some (.int .i64 n) := blkT_cell hke rfl
      have c7 : w3.cell? ⟨w.heap.size + 1, 7, none⟩ = some (.int .i64 m) := blkT_cell hke rfl
      have zq : w.heap.size < w3.heap.size := blkT_lt hkc
      have zc : w.heap.size + 1 < w3.heap.size := blkT_lt hke
      go_wp2_with fail
      go_ret
      exact ⟨ret_bool (by first | rfl | (simp; omega) | (simp [*]; done)), hB⟩
    by_cases g1 : t < ct
    rotate_left
    · skip
      have HB := hid (show rightE ct cp cs ⟨2, t, num, ok, oa, ob, n, m⟩ = false by rw [rightE_steps, hr, hb, hs]; simp [useT, useNum, useOp, useM, g0]; omega)
      rw [HB.out]
      have hkc : BlkT 23 ((w.alloc (.cells #[.int .i64 ct, .int .i64 cp, .int .i64 cs] 23)).alloc (.cells #[.int .i64 2, .int .i64 t, .int .i64 num, .int .i64 ok, .int .i64 oa, .int .i64 ob, .int .i64 n, .int .i64 m] 32)) w.heap.size #[.int .i64 ct, .int .i64 cp, .int .i64 cs] := blkT_old (blkT_new rfl)
      have hke : BlkT 32 ((w.alloc (.cells #[.int .i64 ct, .int .i64 cp, .int .i64 cs] 23)).alloc (.cells #[.int .i64 2, .int .i64 t, .int .i64 num, .int .i64 ok, .int .i64 oa, .int .i64 ob, .int .i64 n, .int .i64 m] 32)) (w.heap.size + 1) #[.int .i64 2, .int .i64 t, .int .i64 num, .int .i64 ok, .int .i64 oa, .int .i64 ob, .int .i64 n, .int .i64 m] := blkT_new (by simp)
      have hB : Below w.heap.size w ((w.alloc (.cells #[.int .i64 ct, .int .i64 cp, .int .i64 cs] 23)).alloc (.cells #[.int .i64 2, .int .i64 t, .int .i64 num, .int .i64 ok, .int .i64 oa, .int .i64 ob, .int .i64 n, .int .i64 m] 32)) := ((Below.refl _ _).alloc (Nat.le_refl _) _).alloc (by simp) _
      go_enter Try.func62, Try.ntmps62
      go_wp2_with fail
      refine (CK.out _).mono ?_
      rintro e w1 ⟨rfl, hb1⟩
      have hkc := blkT_call hb1 hkc
      have hke := blkT_call hb1 hke
      have hB : Below w.heap.size w w1 := hB.trans (hb1.mono hB.size)
      clear hb1
      have q0 : w1.cell? ⟨w.heap.size, 0, none⟩ = some (.int .i64 ct) := blkT_cell hkc rfl
      have q1 : w1.cell? ⟨w.heap.size, 1, none⟩ = some (.int .i64 cp) := blkT_cell hkc rfl
      have q2 : w1.cell? ⟨w.heap.size, 2, none⟩ = some (.int .i64 cs) := blkT_cell hkc rfl
      have c0 : w1.cell? ⟨w.heap.size + 1, 0, none⟩ = some (.int .i64 2) := blkT_cell hke rfl
      have c1 : w1.cell? ⟨w.heap.size + 1, 1, none⟩ = some (.int .i64 t) := blkT_cell hke rfl
      have c2 : w1.cell? ⟨w.heap.size + 1, 2, none⟩ = some (.int .i64 num) := blkT_cell hke rfl
      have c3 : w1.cell? ⟨w.heap.size + 1, 3, none⟩ = some (.int .i64 ok) := blkT_cell hke rfl
      have c4 : w1.cell? ⟨w.heap.size + 1, 4, none⟩ = some (.int .i64 oa) := blkT_cell hke rfl
      have c5 : w1.cell? ⟨w.heap.size + 1, 5, none⟩ = some (.int .i64 ob) := blkT_cell hke rfl
      have c6 : w1.cell? ⟨w.heap.size + 1, 6, none⟩ = some (.int .i64 n) := blkT_cell hke rfl
      have c7 : w1.cell? ⟨w.heap.size + 1, 7, none⟩ = some (.int .i64 m) := blkT_cell hke rfl
      have zq : w.heap.size < w1.heap.size := blkT_lt hkc
      have zc : w.heap.size + 1 < w1.heap.size := blkT_lt hke
      go_wp2_with fail
      refine (TH.out _).mono ?_
      rintro e _ ⟨rfl, rfl⟩
      go_wp2_with fail
      refine (BR.out _).mono ?_
      rintro e w2 ⟨rfl, hb2⟩
      have hkc := blkT_call hb2 hkc
      have hke := blkT_call hb2 hke
      have hB : Below w.heap.size w w2 := hB.trans (hb2.mono hB.size)
      clear hb2
      have q0 : w2.cell? ⟨w.heap.size, 0, none⟩ = some (.int .i64 ct) := blkT_cell hkc rfl
      have q1 : w2.cell? ⟨w.heap.size, 1, none⟩ = some (.int .i64 cp) := blkT_cell hkc rfl
      have q2 : w2.cell? ⟨w.heap.size, 2, none⟩ = some (.int .i64 cs) := blkT_cell hkc rfl
      have c0 : w2.cell? ⟨w.heap.size + 1, 0, none⟩ = some (.int .i64 2) := blkT_cell hke rfl
      have c1 : w2.cell? ⟨w.heap.size + 1, 1, none⟩ = some (.int .i64 t) := blkT_cell hke rfl
      have c2 : w2.cell? ⟨w.heap.size + 1, 2, none⟩ = some (.int .i64 num) := blkT_cell hke rfl
      have c3 : w2.cell? ⟨w.heap.size + 1, 3, none⟩ = some (.int .i64 ok) := blkT_cell hke rfl
      have c4 : w2.cell? ⟨w.heap.size + 1, 4, none⟩ = some (.int .i64 oa) := blkT_cell hke rfl
      have c5 : w2.cell? ⟨w.heap.size + 1, 5, none⟩ = some (.int .i64 ob) := blkT_cell hke rfl
      have c6 : w2.cell? ⟨w.heap.size + 1, 6, none⟩ = some (.int .i64 n) := blkT_cell hke rfl
      have c7 : w2.cell? ⟨w.heap.size + 1, 7, none⟩ = some (.int .i64 m) := blkT_cell hke rfl
      have zq : w.heap.size < w2.heap.size := blkT_lt hkc
      have zc : w.heap.size + 1 < w2.heap.size := blkT_lt hke
      go_wp2_with fail
      refine (SP.out _).mono ?_
      rintro e w3 ⟨rfl, hb3⟩
      have hkc := blkT_call hb3 hkc
      have hke := blkT_call hb3 hke
      have hB : Below w.heap.size w w3 := hB.trans (hb3.mono hB.size)
      clear hb3
      have q0 : w3.cell? ⟨w.heap.size, 0, none⟩ = some (.int .i64 ct) := blkT_cell hkc rfl
      have q1 : w3.cell? ⟨w.heap.size, 1, none⟩ = some (.int .i64 cp) := blkT_cell hkc rfl
      have q2 : w3.cell? ⟨w.heap.size, 2, none⟩ = some (.int .i64 cs) := blkT_cell hkc rfl
      have c0 : w3.cell? ⟨w.heap.size + 1, 0, none⟩ = some (.int .i64 2) := blkT_cell hke rfl
      have c1 : w3.cell? ⟨w.heap.size + 1, 1, none⟩ = some (.int .i64 t) := blkT_cell hke rfl
      have c2 : w3.cell? ⟨w.heap.size + 1, 2, none⟩ = some (.int .i64 num) := blkT_cell hke rfl
      have c3 : w3.cell? ⟨w.heap.size + 1, 3, none⟩ = some (.int .i64 ok) := blkT_cell hke rfl
      have c4 : w3.cell? ⟨w.heap.size + 1, 4, none⟩ = some (.int .i64 oa) := blkT_cell hke rfl
      have c5 : w3.cell? ⟨w.heap.size + 1, 5, none⟩ = some (.int .i64 ob) := blkT_cell hke rfl
      have c6 : w3.cell? ⟨w.heap.size + 1, 6, none⟩ = some (.int .i64 n) := blkT_cell hke rfl
      have c7 : w3.cell? ⟨w.heap.size + 1, 7, none⟩ = some (.int .i64 m) := blkT_cell hke rfl
      have zq : w.heap.size < w3.heap.size := blkT_lt hkc
      have zc : w.heap.size + 1 < w3.heap.size := blkT_lt hke
      go_wp2_with fail
      go_ret
      exact ⟨ret_bool (by first | rfl | (simp; omega) | (simp [*]; done)), hB⟩
    have HB := hid (show rightE ct cp cs ⟨2, t, num, ok, oa, ob, n, m⟩ = true by rw [rightE_steps, hr, hb, hs]; simp [useT, useNum, useOp, useM, g0, g1])
    rw [HB.out]
    have hkc : BlkT 23 ((w.alloc (.cells #[.int .i64 ct, .int .i64 cp, .int .i64 cs] 23)).alloc (.cells #[.int .i64 2, .int .i64 t, .int .i64 num, .int .i64 ok, .int .i64 oa, .int .i64 ob, .int .i64 n, .int .i64 m] 32)) w.heap.size #[.int .i64 ct, .int .i64 cp, .int .i64 cs] := blkT_old (blkT_new rfl)
    have hke : BlkT 32 ((w.alloc (.cells #[.int .i64 ct, .int .i64 cp, .int .i64 cs] 23)).alloc (.cells #[.int .i64 2, .int .i64 t, .int .i64 num, .int .i64 ok, .int .i64 oa, .int .i64 ob, .int .i64 n, .int .i64 m] 32)) (w.heap.size + 1) #[.int .i64 2, .int .i64 t, .int .i64 num, .int .i64 ok, .int .i64 oa, .int .i64 ob, .int .i64 n, .int .i64 m] := blkT_new (by simp)
    have hB : Below w.heap.size w ((w.alloc (.cells #[.int .i64 ct, .int .i64 cp, .int .i64 cs] 23)).alloc (.cells #[.int .i64 2, .int .i64 t, .int .i64 num, .int .i64 ok, .int .i64 oa, .int .i64 ob, .int .i64 n, .int .i64 m] 32)) := ((Below.refl _ _).alloc (Nat.le_refl _) _).alloc (by simp) _
    go_enter Try.func62, Try.ntmps62
    go_wp2_with fail
    refine (CK.out _).mono ?_
    rintro e w1 ⟨rfl, hb1⟩
    have hkc := blkT_call hb1 hkc
    have hke := blkT_call hb1 hke
    have hB : Below w.heap.size w w1 := hB.trans (hb1.mono hB.size)
    clear hb1
    have q0 : w1.cell? ⟨w.heap.size, 0, none⟩ = some (.int .i64 ct) := blkT_cell hkc rfl
    have q1 : w1.cell? ⟨w.heap.size, 1, none⟩ = some (.int .i64 cp) := blkT_cell hkc rfl
    have q2 : w1.cell? ⟨w.heap.size, 2, none⟩ = some (.int .i64 cs) := blkT_cell hkc rfl
    have c0 : w1.cell? ⟨w.heap.size + 1, 0, none⟩ = some (.int .i64 2) := blkT_cell hke rfl
    have c1 : w1.cell? ⟨w.heap.size + 1, 1, none⟩ = some (.int .i64 t) := blkT_cell hke rfl
    have c2 : w1.cell? ⟨w.heap.size + 1, 2, none⟩ = some (.int .i64 num) := blkT_cell hke rfl
    have c3 : w1.cell? ⟨w.heap.size + 1, 3, none⟩ = some (.int .i64 ok) := blkT_cell hke rfl
    have c4 : w1.cell? ⟨w.heap.size + 1, 4, none⟩ = some (.int .i64 oa) := blkT_cell hke rfl
    have c5 : w1.cell? ⟨w.heap.size + 1, 5, none⟩ = some (.int .i64 ob) := blkT_cell hke rfl
    have c6 : w1.cell? ⟨w.heap.size + 1, 6, none⟩ = some (.int .i64 n) := blkT_cell hke rfl
    have c7 : w1.cell? ⟨w.heap.size + 1, 7, none⟩ = some (.int .i64 m) := blkT_cell hke rfl
    have zq : w.heap.size < w1.heap.size := blkT_lt hkc
    have zc : w.heap.size + 1 < w1.heap.size := blkT_lt hke
    go_wp2_with fail
    refine (TH.out _).mono ?_
    rintro e _ ⟨rfl, rfl⟩
    go_wp2_with fail
    refine (BR.out _).mono ?_
    rintro e w2 ⟨rfl, hb2⟩
    have hkc := blkT_call hb2 hkc
    have hke := blkT_call hb2 hke
    have hB : Below w.heap.size w w2 := hB.trans (hb2.mono hB.size)
    clear hb2
    have q0 : w2.cell? ⟨w.heap.size, 0, none⟩ = some (.int .i64 ct) := blkT_cell hkc rfl
    have q1 : w2.cell? ⟨w.heap.size, 1, none⟩ = some (.int .i64 cp) := blkT_cell hkc rfl
    have q2 : w2.cell? ⟨w.heap.size, 2, none⟩ = some (.int .i64 cs) := blkT_cell hkc rfl
    have c0 : w2.cell? ⟨w.heap.size + 1, 0, none⟩ = some (.int .i64 2) := blkT_cell hke rfl
    have c1 : w2.cell? ⟨w.heap.size + 1, 1, none⟩ = some (.int .i64 t) := blkT_cell hke rfl
    have c2 : w2.cell? ⟨w.heap.size + 1, 2, none⟩ = some (.int .i64 num) := blkT_cell hke rfl
    have c3 : w2.cell? ⟨w.heap.size + 1, 3, none⟩ = some (.int .i64 ok) := blkT_cell hke rfl
    have c4 : w2.cell? ⟨w.heap.size + 1, 4, none⟩ = some (.int .i64 oa) := blkT_cell hke rfl
    have c5 : w2.cell? ⟨w.heap.size + 1, 5, none⟩ = some (.int .i64 ob) := blkT_cell hke rfl
    have c6 : w2.cell? ⟨w.heap.size + 1, 6, none⟩ = some (.int .i64 n) := blkT_cell hke rfl
    have c7 : w2.cell? ⟨w.heap.size + 1, 7, none⟩ = some (.int .i64 m) := blkT_cell hke rfl
    have zq : w.heap.size < w2.heap.size := blkT_lt hkc
    have zc : w.heap.size + 1 < w2.heap.size := blkT_lt hke
    go_wp2_with fail
    refine (SP.out _).mono ?_
    rintro e w3 ⟨rfl, hb3⟩
    have hkc := blkT_call hb3 hkc
    have hke := blkT_call hb3 hke
    have hB : Below w.heap.size w w3 := hB.trans (hb3.mono hB.size)
    clear hb3
    have q0 : w3.cell? ⟨w.heap.size, 0, none⟩ = some (.int .i64 ct) := blkT_cell hkc rfl
    have q1 : w3.cell? ⟨w.heap.size, 1, none⟩ = some (.int .i64 cp) := blkT_cell hkc rfl
    have q2 : w3.cell? ⟨w.heap.size, 2, none⟩ = some (.int .i64 cs) := blkT_cell hkc rfl
    have c0 : w3.cell? ⟨w.heap.size + 1, 0, none⟩ = some (.int .i64 2) := blkT_cell hke rfl
    have c1 : w3.cell? ⟨w.heap.size + 1, 1, none⟩ = some (.int .i64 t) := blkT_cell hke rfl
    have c2 : w3.cell? ⟨w.heap.size + 1, 2, none⟩ = some (.int .i64 num) := blkT_cell hke rfl
    have c3 : w3.cell? ⟨w.heap.size + 1, 3, none⟩ = some (.int .i64 ok) := blkT_cell hke rfl
    have c4 : w3.cell? ⟨w.heap.size + 1, 4, none⟩ = some (.int .i64 oa) := blkT_cell hke rfl
    have c5 : w3.cell? ⟨w.heap.size + 1, 5, none⟩ = some (.int .i64 ob) := blkT_cell hke rfl
    have c6 : w3.cell? ⟨w.heap.size + 1, 6, none⟩ = some (.int .i64 n) := blkT_cell hke rfl
    have c7 : w3.cell? ⟨w.heap.size + 1, 7, none⟩ = some (.int .i64 m) := blkT_cell hke rfl
    have zq : w.heap.size < w3.heap.size := blkT_lt hkc
    have zc : w.heap.size + 1 < w3.heap.size := blkT_lt hke
    go_wp2_with fail
    go_ret
    exact ⟨ret_bool (by first | rfl | (simp; omega) | (simp [*]; done)), hB⟩
  · skip
    have HB := hid (show rightE ct cp cs ⟨3, t, num, ok, oa, ob, n, m⟩ = true by rw [rightE_steps, hr, hb, hs]; simp [useT, useNum, useOp, useM])
    rw [HB.out]
    have hkc : BlkT 23 ((w.alloc (.cells #[.int .i64 ct, .int .i64 cp, .int .i64 cs] 23)).alloc (.cells #[.int .i64 3, .int .i64 t, .int .i64 num, .int .i64 ok, .int .i64 oa, .int .i64 ob, .int .i64 n, .int .i64 m] 32)) w.heap.size #[.int .i64 ct, .int .i64 cp, .int .i64 cs] := blkT_old (blkT_new rfl)
    have hke : BlkT 32 ((w.alloc (.cells #[.int .i64 ct, .int .i64 cp, .int .i64 cs] 23)).alloc (.cells #[.int .i64 3, .int .i64 t, .int .i64 num, .int .i64 ok, .int .i64 oa, .int .i64 ob, .int .i64 n, .int .i64 m] 32)) (w.heap.size + 1) #[.int .i64 3, .int .i64 t, .int .i64 num, .int .i64 ok, .int .i64 oa, .int .i64 ob, .int .i64 n, .int .i64 m] := blkT_new (by simp)
    have hB : Below w.heap.size w ((w.alloc (.cells #[.int .i64 ct, .int .i64 cp, .int .i64 cs] 23)).alloc (.cells #[.int .i64 3, .int .i64 t, .int .i64 num, .int .i64 ok, .int .i64 oa, .int .i64 ob, .int .i64 n, .int .i64 m] 32)) := ((Below.refl _ _).alloc (Nat.le_refl _) _).alloc (by simp) _
    go_enter Try.func62, Try.ntmps62
    go_wp2_with fail
    refine (CK.out _).mono ?_
    rintro e w1 ⟨rfl, hb1⟩
    have hkc := blkT_call hb1 hkc
    have hke := blkT_call hb1 hke
    have hB : Below w.heap.size w w1 := hB.trans (hb1.mono hB.size)
    clear hb1
    have q0 : w1.cell? ⟨w.heap.size, 0, none⟩ = some (.int .i64 ct) := blkT_cell hkc rfl
    have q1 : w1.cell? ⟨w.heap.size, 1, none⟩ = some (.int .i64 cp) := blkT_cell hkc rfl
    have q2 : w1.cell? ⟨w.heap.size, 2, none⟩ = some (.int .i64 cs) := blkT_cell hkc rfl
    have c0 : w1.cell? ⟨w.heap.size + 1, 0, none⟩ = some (.int .i64 3) := blkT_cell hke rfl
    have c1 : w1.cell? ⟨w.heap.size + 1, 1, none⟩ = some (.int .i64 t) := blkT_cell hke rfl
    have c2 : w1.cell? ⟨w.heap.size + 1, 2, none⟩ = some (.int .i64 num) := blkT_cell hke rfl
    have c3 : w1.cell? ⟨w.heap.size + 1, 3, none⟩ = some (.int .i64 ok) := blkT_cell hke rfl
    have c4 : w1.cell? ⟨w.heap.size + 1, 4, none⟩ = some (.int .i64 oa) := blkT_cell hke rfl
    have c5 : w1.cell? ⟨w.heap.size + 1, 5, none⟩ = some (.int .i64 ob) := blkT_cell hke rfl
    have c6 : w1.cell? ⟨w.heap.size + 1, 6, none⟩ = some (.int .i64 n) := blkT_cell hke rfl
    have c7 : w1.cell? ⟨w.heap.size + 1, 7, none⟩ = some (.int .i64 m) := blkT_cell hke rfl
    have zq : w.heap.size < w1.heap.size := blkT_lt hkc
    have zc : w.heap.size + 1 < w1.heap.size := blkT_lt hke
    go_wp2_with fail
    refine (TH.out _).mono ?_
    rintro e _ ⟨rfl, rfl⟩
    go_wp2_with fail
    refine (BR.out _).mono ?_
    rintro e w2 ⟨rfl, hb2⟩
    have hkc := blkT_call hb2 hkc
    have hke := blkT_call hb2 hke
    have hB : Below w.heap.size w w2 := hB.trans (hb2.mono hB.size)
    clear hb2
    have q0 : w2.cell? ⟨w.heap.size, 0, none⟩ = some (.int .i64 ct) := blkT_cell hkc rfl
    have q1 : w2.cell? ⟨w.heap.size, 1, none⟩ = some (.int .i64 cp) := blkT_cell hkc rfl
    have q2 : w2.cell? ⟨w.heap.size, 2, none⟩ = some (.int .i64 cs) := blkT_cell hkc rfl
    have c0 : w2.cell? ⟨w.heap.size + 1, 0, none⟩ = some (.int .i64 3) := blkT_cell hke rfl
    have c1 : w2.cell? ⟨w.heap.size + 1, 1, none⟩ = some (.int .i64 t) := blkT_cell hke rfl
    have c2 : w2.cell? ⟨w.heap.size + 1, 2, none⟩ = some (.int .i64 num) := blkT_cell hke rfl
    have c3 : w2.cell? ⟨w.heap.size + 1, 3, none⟩ = some (.int .i64 ok) := blkT_cell hke rfl
    have c4 : w2.cell? ⟨w.heap.size + 1, 4, none⟩ = some (.int .i64 oa) := blkT_cell hke rfl
    have c5 : w2.cell? ⟨w.heap.size + 1, 5, none⟩ = some (.int .i64 ob) := blkT_cell hke rfl
    have c6 : w2.cell? ⟨w.heap.size + 1, 6, none⟩ = some (.int .i64 n) := blkT_cell hke rfl
    have c7 : w2.cell? ⟨w.heap.size + 1, 7, none⟩ = some (.int .i64 m) := blkT_cell hke rfl
    have zq : w.heap.size < w2.heap.size := blkT_lt hkc
    have zc : w.heap.size + 1 < w2.heap.size := blkT_lt hke
    go_wp2_with fail
    refine (SP.out _).mono ?_
    rintro e w3 ⟨rfl, hb3⟩
    have hkc := blkT_call hb3 hkc
    have hke := blkT_call hb3 hke
    have hB : Below w.heap.size w w3 := hB.trans (hb3.mono hB.size)
    clear hb3
    have q0 : w3.cell? ⟨w.heap.size, 0, none⟩ = some (.int .i64 ct) := blkT_cell hkc rfl
    have q1 : w3.cell? ⟨w.heap.size, 1, none⟩ = some (.int .i64 cp) := blkT_cell hkc rfl
    have q2 : w3.cell? ⟨w.heap.size, 2, none⟩ = some (.int .i64 cs) := blkT_cell hkc rfl
    have c0 : w3.cell? ⟨w.heap.size + 1, 0, none⟩ = some (.int .i64 3) := blkT_cell hke rfl
    have c1 : w3.cell? ⟨w.heap.size + 1, 1, none⟩ = some (.int .i64 t) := blkT_cell hke rfl
    have c2 : w3.cell? ⟨w.heap.size + 1, 2, none⟩ = some (.int .i64 num) := blkT_cell hke rfl
    have c3 : w3.cell? ⟨w.heap.size + 1, 3, none⟩ = some (.int .i64 ok) := blkT_cell hke rfl
    have c4 : w3.cell? ⟨w.heap.size + 1, 4, none⟩ = some (.int .i64 oa) := blkT_cell hke rfl
    have c5 : w3.cell? ⟨w.heap.size + 1, 5, none⟩ = some (.int .i64 ob) := blkT_cell hke rfl
    have c6 : w3.cell? ⟨w.heap.size + 1, 6, none⟩ = some (.int .i64 n) := blkT_cell hke rfl
    have c7 : w3.cell? ⟨w.heap.size + 1, 7, none⟩ = some (.int .i64 m) := blkT_cell hke rfl
    have zq : w.heap.size < w3.heap.size := blkT_lt hkc
    have zc : w.heap.size + 1 < w3.heap.size := blkT_lt hke
    go_wp2_with fail
    go_ret
    exact ⟨ret_bool (by first | rfl | (simp; omega) | (simp [*]; done)), hB⟩
  · skip
    have HB := hid (show rightE ct cp cs ⟨4, t, num, ok, oa, ob, n, m⟩ = true by rw [rightE_steps, hr, hb, hs]; simp [useT, useNum, useOp, useM])
    rw [HB.out]
    have hkc : BlkT 23 ((w.alloc (.cells #[.int .i64 ct, .int .i64 cp, .int .i64 cs] 23)).alloc (.cells #[.int .i64 4, .int .i64 t, .int .i64 num, .int .i64 ok, .int .i64 oa, .int .i64 ob, .int .i64 n, .int .i64 m] 32)) w.heap.size #[.int .i64 ct, .int .i64 cp, .int .i64 cs] := blkT_old (blkT_new rfl)
    have hke : BlkT 32 ((w.alloc (.cells #[.int .i64 ct, .int .i64 cp, .int .i64 cs] 23)).alloc (.cells #[.int .i64 4, .int .i64 t, .int .i64 num, .int .i64 ok, .int .i64 oa, .int .i64 ob, .int .i64 n, .int .i64 m] 32)) (w.heap.size + 1) #[.int .i64 4, .int .i64 t, .int .i64 num, .int .i64 ok, .int .i64 oa, .int .i64 ob, .int .i64 n, .int .i64 m] := blkT_new (by simp)
    have hB : Below w.heap.size w ((w.alloc (.cells #[.int .i64 ct, .int .i64 cp, .int .i64 cs] 23)).alloc (.cells #[.int .i64 4, .int .i64 t, .int .i64 num, .int .i64 ok, .int .i64 oa, .int .i64 ob, .int .i64 n, .int .i64 m] 32)) := ((Below.refl _ _).alloc (Nat.le_refl _) _).alloc (by simp) _
    go_enter Try.func62, Try.ntmps62
    go_wp2_with fail
    refine (CK.out _).mono ?_
    rintro e w1 ⟨rfl, hb1⟩
    have hkc := blkT_call hb1 hkc
    have hke := blkT_call hb1 hke
    have hB : Below w.heap.size w w1 := hB.trans (hb1.mono hB.size)
    clear hb1
    have q0 : w1.cell? ⟨w.heap.size, 0, none⟩ = some (.int .i64 ct) := blkT_cell hkc rfl
    have q1 : w1.cell? ⟨w.heap.size, 1, none⟩ = some (.int .i64 cp) := blkT_cell hkc rfl
    have q2 : w1.cell? ⟨w.heap.size, 2, none⟩ = some (.int .i64 cs) := blkT_cell hkc rfl
    have c0 : w1.cell? ⟨w.heap.size + 1, 0, none⟩ = some (.int .i64 4) := blkT_cell hke rfl
    have c1 : w1.cell? ⟨w.heap.size + 1, 1, none⟩ = some (.int .i64 t) := blkT_cell hke rfl
    have c2 : w1.cell? ⟨w.heap.size + 1, 2, none⟩ = some (.int .i64 num) := blkT_cell hke rfl
    have c3 : w1.cell? ⟨w.heap.size + 1, 3, none⟩ = some (.int .i64 ok) := blkT_cell hke rfl
    have c4 : w1.cell? ⟨w.heap.size + 1, 4, none⟩ = some (.int .i64 oa) := blkT_cell hke rfl
    have c5 : w1.cell? ⟨w.heap.size + 1, 5, none⟩ = some (.int .i64 ob) := blkT_cell hke rfl
    have c6 : w1.cell? ⟨w.heap.size + 1, 6, none⟩ = some (.int .i64 n) := blkT_cell hke rfl
    have c7 : w1.cell? ⟨w.heap.size + 1, 7, none⟩ = some (.int .i64 m) := blkT_cell hke rfl
    have zq : w.heap.size < w1.heap.size := blkT_lt hkc
    have zc : w.heap.size + 1 < w1.heap.size := blkT_lt hke
    go_wp2_with fail
    refine (TH.out _).mono ?_
    rintro e _ ⟨rfl, rfl⟩
    go_wp2_with fail
    refine (BR.out _).mono ?_
    rintro e w2 ⟨rfl, hb2⟩
    have hkc := blkT_call hb2 hkc
    have hke := blkT_call hb2 hke
    have hB : Below w.heap.size w w2 := hB.trans (hb2.mono hB.size)
    clear hb2
    have q0 : w2.cell? ⟨w.heap.size, 0, none⟩ = some (.int .i64 ct) := blkT_cell hkc rfl
    have q1 : w2.cell? ⟨w.heap.size, 1, none⟩ = some (.int .i64 cp) := blkT_cell hkc rfl
    have q2 : w2.cell? ⟨w.heap.size, 2, none⟩ = some (.int .i64 cs) := blkT_cell hkc rfl
    have c0 : w2.cell? ⟨w.heap.size + 1, 0, none⟩ = some (.int .i64 4) := blkT_cell hke rfl
    have c1 : w2.cell? ⟨w.heap.size + 1, 1, none⟩ = some (.int .i64 t) := blkT_cell hke rfl
    have c2 : w2.cell? ⟨w.heap.size + 1, 2, none⟩ = some (.int .i64 num) := blkT_cell hke rfl
    have c3 : w2.cell? ⟨w.heap.size + 1, 3, none⟩ = some (.int .i64 ok) := blkT_cell hke rfl
    have c4 : w2.cell? ⟨w.heap.size + 1, 4, none⟩ = some (.int .i64 oa) := blkT_cell hke rfl
    have c5 : w2.cell? ⟨w.heap.size + 1, 5, none⟩ = some (.int .i64 ob) := blkT_cell hke rfl
    have c6 : w2.cell? ⟨w.heap.size + 1, 6, none⟩ = some (.int .i64 n) := blkT_cell hke rfl
    have c7 : w2.cell? ⟨w.heap.size + 1, 7, none⟩ = some (.int .i64 m) := blkT_cell hke rfl
    have zq : w.heap.size < w2.heap.size := blkT_lt hkc
    have zc : w.heap.size + 1 < w2.heap.size := blkT_lt hke
    go_wp2_with fail
    refine (SP.out _).mono ?_
    rintro e w3 ⟨rfl, hb3⟩
    have hkc := blkT_call hb3 hkc
    have hke := blkT_call hb3 hke
    have hB : Below w.heap.size w w3 := hB.trans (hb3.mono hB.size)
    clear hb3
    have q0 : w3.cell? ⟨w.heap.size, 0, none⟩ = some (.int .i64 ct) := blkT_cell hkc rfl
    have q1 : w3.cell? ⟨w.heap.size, 1, none⟩ = some (.int .i64 cp) := blkT_cell hkc rfl
    have q2 : w3.cell? ⟨w.heap.size, 2, none⟩ = some (.int .i64 cs) := blkT_cell hkc rfl
    have c0 : w3.cell? ⟨w.heap.size + 1, 0, none⟩ = some (.int .i64 4) := blkT_cell hke rfl
    have c1 : w3.cell? ⟨w.heap.size + 1, 1, none⟩ = some (.int .i64 t) := blkT_cell hke rfl
    have c2 : w3.cell? ⟨w.heap.size + 1, 2, none⟩ = some (.int .i64 num) := blkT_cell hke rfl
    have c3 : w3.cell? ⟨w.heap.size + 1, 3, none⟩ = some (.int .i64 ok) := blkT_cell hke rfl
    have c4 : w3.cell? ⟨w.heap.size + 1, 4, none⟩ = some (.int .i64 oa) := blkT_cell hke rfl
    have c5 : w3.cell? ⟨w.heap.size + 1, 5, none⟩ = some (.int .i64 ob) := blkT_cell hke rfl
    have c6 : w3.cell? ⟨w.heap.size + 1, 6, none⟩ = some (.int .i64 n) := blkT_cell hke rfl
    have c7 : w3.cell? ⟨w.heap.size + 1, 7, none⟩ = some (.int .i64 m) := blkT_cell hke rfl
    have zq : w.heap.size < w3.heap.size := blkT_lt hkc
    have zc : w.heap.size + 1 < w3.heap.size := blkT_lt hke
    go_wp2_with fail
    go_ret
    exact ⟨ret_bool (by first | rfl | (simp; omega) | (simp [*]; done)), hB⟩
  · skip
    have HB := hid (show rightE ct cp cs ⟨5, t, num, ok, oa, ob, n, m⟩ = true by rw [rightE_steps, hr, hb, hs]; simp [useT, useNum, useOp, useM])
    rw [HB.out]
    have hkc : BlkT 23 ((w.alloc (.cells #[.int .i64 ct, .int .i64 cp, .int .i64 cs] 23)).alloc (.cells #[.int .i64 5, .int .i64 t, .int .i64 num, .int .i64 ok, .int .i64 oa, .int .i64 ob, .int .i64 n, .int .i64 m] 32)) w.heap.size #[.int .i64 ct, .int .i64 cp, .int .i64 cs] := blkT_old (blkT_new rfl)
    have hke : BlkT 32 ((w.alloc (.cells #[.int .i64 ct, .int .i64 cp, .int .i64 cs] 23)).alloc (.cells #[.int .i64 5, .int .i64 t, .int .i64 num, .int .i64 ok, .int .i64 oa, .int .i64 ob, .int .i64 n, .int .i64 m] 32)) (w.heap.size + 1) #[.int .i64 5, .int .i64 t, .int .i64 num, .int .i64 ok, .int .i64 oa, .int .i64 ob, .int .i64 n, .int .i64 m] := blkT_new (by simp)
    have hB : Below w.heap.size w ((w.alloc (.cells #[.int .i64 ct, .int .i64 cp, .int .i64 cs] 23)).alloc (.cells #[.int .i64 5, .int .i64 t, .int .i64 num, .int .i64 ok, .int .i64 oa, .int .i64 ob, .int .i64 n, .int .i64 m] 32)) := ((Below.refl _ _).alloc (Nat.le_refl _) _).alloc (by simp) _
    go_enter Try.func62, Try.ntmps62
    go_wp2_with fail
    refine (CK.out _).mono ?_
    rintro e w1 ⟨rfl, hb1⟩
    have hkc := blkT_call hb1 hkc
    have hke := blkT_call hb1 hke
    have hB : Below w.heap.size w w1 := hB.trans (hb1.mono hB.size)
    clear hb1
    have q0 : w1.cell? ⟨w.heap.size, 0, none⟩ = some (.int .i64 ct) := blkT_cell hkc rfl
    have q1 : w1.cell? ⟨w.heap.size, 1, none⟩ = some (.int .i64 cp) := blkT_cell hkc rfl
    have q2 : w1.cell? ⟨w.heap.size, 2, none⟩ = some (.int .i64 cs) := blkT_cell hkc rfl
    have c0 : w1.cell? ⟨w.heap.size + 1, 0, none⟩ = some (.int .i64 5) := blkT_cell hke rfl
    have c1 : w1.cell? ⟨w.heap.size + 1, 1, none⟩ = some (.int .i64 t) := blkT_cell hke rfl
    have c2 : w1.cell? ⟨w.heap.size + 1, 2, none⟩ = some (.int .i64 num) := blkT_cell hke rfl
    have c3 : w1.cell? ⟨w.heap.size + 1, 3, none⟩ = some (.int .i64 ok) := blkT_cell hke rfl
    have c4 : w1.cell? ⟨w.heap.size + 1, 4, none⟩ = some (.int .i64 oa) := blkT_cell hke rfl
    have c5 : w1.cell? ⟨w.heap.size + 1, 5, none⟩ = some (.int .i64 ob) := blkT_cell hke rfl
    have c6 : w1.cell? ⟨w.heap.size + 1, 6, none⟩ = some (.int .i64 n) := blkT_cell hke rfl
    have c7 : w1.cell? ⟨w.heap.size + 1, 7, none⟩ = some (.int .i64 m) := blkT_cell hke rfl
    have zq : w.heap.size < w1.heap.size := blkT_lt hkc
    have zc : w.heap.size + 1 < w1.heap.size := blkT_lt hke
    go_wp2_with fail
    refine (TH.out _).mono ?_
    rintro e _ ⟨rfl, rfl⟩
    go_wp2_with fail
    refine (BR.out _).mono ?_
    rintro e w2 ⟨rfl, hb2⟩
    have hkc := blkT_call hb2 hkc
    have hke := blkT_call hb2 hke
    have hB : Below w.heap.size w w2 := hB.trans (hb2.mono hB.size)
    clear hb2
    have q0 : w2.cell? ⟨w.heap.size, 0, none⟩ = some (.int .i64 ct) := blkT_cell hkc rfl
    have q1 : w2.cell? ⟨w.heap.size, 1, none⟩ = some (.int .i64 cp) := blkT_cell hkc rfl
    have q2 : w2.cell? ⟨w.heap.size, 2, none⟩ = some (.int .i64 cs) := blkT_cell hkc rfl
    have c0 : w2.cell? ⟨w.heap.size + 1, 0, none⟩ = some (.int .i64 5) := blkT_cell hke rfl
    have c1 : w2.cell? ⟨w.heap.size + 1, 1, none⟩ = some (.int .i64 t) := blkT_cell hke rfl
    have c2 : w2.cell? ⟨w.heap.size + 1, 2, none⟩ = some (.int .i64 num) := blkT_cell hke rfl
    have c3 : w2.cell? ⟨w.heap.size + 1, 3, none⟩ = some (.int .i64 ok) := blkT_cell hke rfl
    have c4 : w2.cell? ⟨w.heap.size + 1, 4, none⟩ = some (.int .i64 oa) := blkT_cell hke rfl
    have c5 : w2.cell? ⟨w.heap.size + 1, 5, none⟩ = some (.int .i64 ob) := blkT_cell hke rfl
    have c6 : w2.cell? ⟨w.heap.size + 1, 6, none⟩ = some (.int .i64 n) := blkT_cell hke rfl
    have c7 : w2.cell? ⟨w.heap.size + 1, 7, none⟩ = some (.int .i64 m) := blkT_cell hke rfl
    have zq : w.heap.size < w2.heap.size := blkT_lt hkc
    have zc : w.heap.size + 1 < w2.heap.size := blkT_lt hke
    go_wp2_with fail
    refine (SP.out _).mono ?_
    rintro e w3 ⟨rfl, hb3⟩
    have hkc := blkT_call hb3 hkc
    have hke := blkT_call hb3 hke
    have hB : Below w.heap.size w w3 := hB.trans (hb3.mono hB.size)
    clear hb3
    have q0 : w3.cell? ⟨w.heap.size, 0, none⟩ = some (.int .i64 ct) := blkT_cell hkc rfl
    have q1 : w3.cell? ⟨w.heap.size, 1, none⟩ = some (.int .i64 cp) := blkT_cell hkc rfl
    have q2 : w3.cell? ⟨w.heap.size, 2, none⟩ = some (.int .i64 cs) := blkT_cell hkc rfl
    have c0 : w3.cell? ⟨w.heap.size + 1, 0, none⟩ = some (.int .i64 5) := blkT_cell hke rfl
    have c1 : w3.cell? ⟨w.heap.size + 1, 1, none⟩ = some (.int .i64 t) := blkT_cell hke rfl
    have c2 : w3.cell? ⟨w.heap.size + 1, 2, none⟩ = some (.int .i64 num) := blkT_cell hke rfl
    have c3 : w3.cell? ⟨w.heap.size + 1, 3, none⟩ = some (.int .i64 ok) := blkT_cell hke rfl
    have c4 : w3.cell? ⟨w.heap.size + 1, 4, none⟩ = some (.int .i64 oa) := blkT_cell hke rfl
    have c5 : w3.cell? ⟨w.heap.size + 1, 5, none⟩ = some (.int .i64 ob) := blkT_cell hke rfl
    have c6 : w3.cell? ⟨w.heap.size + 1, 6, none⟩ = some (.int .i64 n) := blkT_cell hke rfl
    have c7 : w3.cell? ⟨w.heap.size + 1, 7, none⟩ = some (.int .i64 m) := blkT_cell hke rfl
    have zq : w.heap.size < w3.heap.size := blkT_lt hkc
    have zc : w.heap.size + 1 < w3.heap.size := blkT_lt hke
    go_wp2_with fail
    go_ret
    exact ⟨ret_bool (by first | rfl | (simp; omega) | (simp [*]; done)), hB⟩
  · skip
    by_cases g0 : 1 ≤ num
    rotate_left
    · skip
      have HB := hid (show rightE ct cp cs ⟨6, t, num, ok, oa, ob, n, m⟩ = false by rw [rightE_steps, hr, hb, hs]; simp [useT, useNum, useOp, useM]; omega)
      rw [HB.out]
      have hkc : BlkT 23 ((w.alloc (.cells #[.int .i64 ct, .int .i64 cp, .int .i64 cs] 23)).alloc (.cells #[.int .i64 6, .int .i64 t, .int .i64 num, .int .i64 ok, .int .i64 oa, .int .i64 ob, .int .i64 n, .int .i64 m] 32)) w.heap.size #[.int .i64 ct, .int .i64 cp, .int .i64 cs] := blkT_old (blkT_new rfl)
      have hke : BlkT 32 ((w.alloc (.cells #[.int .i64 ct, .int .i64 cp, .int .i64 cs] 23)).alloc (.cells #[.int .i64 6, .int .i64 t, .int .i64 num, .int .i64 ok, .int .i64 oa, .int .i64 ob, .int .i64 n, .int .i64 m] 32)) (w.heap.size + 1) #[.int .i64 6, .int .i64 t, .int .i64 num, .int .i64 ok, .int .i64 oa, .int .i64 ob, .int .i64 n, .int .i64 m] := blkT_new (by simp)
      have hB : Below w.heap.size w ((w.alloc (.cells #[.int .i64 ct, .int .i64 cp, .int .i64 cs] 23)).alloc (.cells #[.int .i64 6, .int .i64 t, .int .i64 num, .int .i64 ok, .int .i64 oa, .int .i64 ob, .int .i64 n, .int .i64 m] 32)) := ((Below.refl _ _).alloc (Nat.le_refl _) _).alloc (by simp) _
      go_enter Try.func62, Try.ntmps62
      go_wp2_with fail
      refine (CK.out _).mono ?_
      rintro e w1 ⟨rfl, hb1⟩
      have hkc := blkT_call hb1 hkc
      have hke := blkT_call hb1 hke
      have hB : Below w.heap.size w w1 := hB.trans (hb1.mono hB.size)
      clear hb1
      have q0 : w1.cell? ⟨w.heap.size, 0, none⟩ = some (.int .i64 ct) := blkT_cell hkc rfl
      have q1 : w1.cell? ⟨w.heap.size, 1, none⟩ = some (.int .i64 cp) := blkT_cell hkc rfl
      have q2 : w1.cell? ⟨w.heap.size, 2, none⟩ = some (.int .i64 cs) := blkT_cell hkc rfl
      have c0 : w1.cell? ⟨w.heap.size + 1, 0, none⟩ = some (.int .i64 6) := blkT_cell hke rfl
      have c1 : w1.cell? ⟨w.heap.size + 1, 1, none⟩ = some (.int .i64 t) := blkT_cell hke rfl
      have c2 : w1.cell? ⟨w.heap.size + 1, 2, none⟩ = some (.int .i64 num) := blkT_cell hke rfl
      have c3 : w1.cell? ⟨w.heap.size + 1, 3, none⟩ = some (.int .i64 ok) := blkT_cell hke rfl
      have c4 : w1.cell? ⟨w.heap.size + 1, 4, none⟩ = some (.int .i64 oa) := blkT_cell hke rfl
      have c5 : w1.cell? ⟨w.heap.size + 1, 5, none⟩ = some (.int .i64 ob) := blkT_cell hke rfl
      have c6 : w1.cell? ⟨w.heap.size + 1, 6, none⟩ = some (.int .i64 n) := blkT_cell hke rfl
      have c7 : w1.cell? ⟨w.heap.size + 1, 7, none⟩ = some (.int .i64 m) := blkT_cell hke rfl
      have zq : w.heap.size < w1.heap.size := blkT_lt hkc
      have zc : w.heap.size + 1 < w1.heap.size := blkT_lt hke
      go_wp2_with fail
      refine (TH.out _).mono ?_
      rintro e _ ⟨rfl, rfl⟩
      go_wp2_with fail
      refine (BR.out _).mono ?_
      rintro e w2 ⟨rfl, hb2⟩
      have hkc := blkT_call hb2 hkc
      have hke := blkT_call hb2 hke
      have hB : Below w.heap.size w w2 := hB.trans (hb2.mono hB.size)
      clear hb2
      have q0 : w2.cell? ⟨w.heap.size, 0, none⟩ = some (.int .i64 ct) := blkT_cell hkc rfl
      have q1 : w2.cell? ⟨w.heap.size, 1, none⟩ = some (.int .i64 cp) := blkT_cell hkc rfl
      have q2 : w2.cell? ⟨w.heap.size, 2, none⟩ = some (.int .i64 cs) := blkT_cell hkc rfl
      have c0 : w2.cell? ⟨w.heap.size + 1, 0, none⟩ = some (.int .i64 6) := blkT_cell hke rfl
      have c1 : w2.cell? ⟨w.heap.size + 1, 1, none⟩ = some (.int .i64 t) := blkT_cell hke rfl
      have c2 : w2.cell? ⟨w.heap.size + 1, 2, none⟩ = some (.int .i64 num) := blkT_cell hke rfl
      have c3 : w2.cell? ⟨w.heap.size + 1, 3, none⟩ = some (.int .i64 ok) := blkT_cell hke rfl
      have c4 : w2.cell? ⟨w.heap.size + 1, 4, none⟩ = some (.int .i64 oa) := blkT_cell hke rfl
      have c5 : w2.cell? ⟨w.heap.size + 1, 5, none⟩ = some (.int .i64 ob) := blkT_cell hke rfl
      have c6 : w2.cell? ⟨w.heap.size + 1, 6, none⟩ = some (.int .i64 n) := blkT_cell hke rfl
      have c7 : w2.cell? ⟨w.heap.size + 1, 7, none⟩ = some (.int .i64 m) := blkT_cell hke rfl
      have zq : w.heap.size < w2.heap.size := blkT_lt hkc
      have zc : w.heap.size + 1 < w2.heap.size := blkT_lt hke
      go_wp2_with fail
      refine (SP.out _).mono ?_
      rintro e w3 ⟨rfl, hb3⟩
      have hkc := blkT_call hb3 hkc
      have hke := blkT_call hb3 hke
      have hB : Below w.heap.size w w3 := hB.trans (hb3.mono hB.size)
      clear hb3
      have q0 : w3.cell? ⟨w.heap.size, 0, none⟩ = some (.int .i64 ct) := blkT_cell hkc rfl
      have q1 : w3.cell? ⟨w.heap.size, 1, none⟩ = some (.int .i64 cp) := blkT_cell hkc rfl
      have q2 : w3.cell? ⟨w.heap.size, 2, none⟩ = some (.int .i64 cs) := blkT_cell hkc rfl
      have c0 : w3.cell? ⟨w.heap.size + 1, 0, none⟩ = some (.int .i64 6) := blkT_cell hke rfl
      have c1 : w3.cell? ⟨w.heap.size + 1, 1, none⟩ = some (.int .i64 t) := blkT_cell hke rfl
      have c2 : w3.cell? ⟨w.heap.size + 1, 2, none⟩ = some (.int .i64 num) := blkT_cell hke rfl
      have c3 : w3.cell? ⟨w.heap.size + 1, 3, none⟩ = some (.int .i64 ok) := blkT_cell hke rfl
      have c4 : w3.cell? ⟨w.heap.size + 1, 4, none⟩ = some (.int .i64 oa) := blkT_cell hke rfl
      have c5 : w3.cell? ⟨w.heap.size + 1, 5, none⟩ = some (.int .i64 ob) := blkT_cell hke rfl
      have c6 : w3.cell? ⟨w.heap.size + 1, 6, none⟩ = some (.int .i64 n) := blkT_cell hke rfl
      have c7 : w3.cell? ⟨w.heap.size + 1, 7, none⟩ = some (.int .i64 m) := blkT_cell hke rfl
      have zq : w.heap.size < w3.heap.size := blkT_lt hkc
      have zc : w.heap.size + 1 < w3.heap.size := blkT_lt hke
      go_wp2_with fail
      go_ret
      exact ⟨ret_bool (by first | rfl | (simp; omega) | (simp [*]; done)), hB⟩
    by_cases g1 : num ≤ 2147483647
    rotate_left
    · skip
      have HB := hid (show rightE ct cp cs ⟨6, t, num, ok, oa, ob, n, m⟩ = false by rw [rightE_steps, hr, hb, hs]; simp [useT, useNum, useOp, useM, g0]; omega)
      rw [HB.out]
      have hkc : BlkT 23 ((w.alloc (.cells #[.int .i64 ct, .int .i64 cp, .int .i64 cs] 23)).alloc (.cells #[.int .i64 6, .int .i64 t, .int .i64 num, .int .i64 ok, .int .i64 oa, .int .i64 ob, .int .i64 n, .int .i64 m] 32)) w.heap.size #[.int .i64 ct, .int .i64 cp, .int .i64 cs] := blkT_old (blkT_new rfl)
      have hke : BlkT 32 ((w.alloc (.cells #[.int .i64 ct, .int .i64 cp, .int .i64 cs] 23)).alloc (.cells #[.int .i64 6, .int .i64 t, .int .i64 num, .int .i64 ok, .int .i64 oa, .int .i64 ob, .int .i64 n, .int .i64 m] 32)) (w.heap.size + 1) #[.int .i64 6, .int .i64 t, .int .i64 num, .int .i64 ok, .int .i64 oa, .int .i64 ob, .int .i64 n, .int .i64 m] := blkT_new (by simp)
      have hB : Below w.heap.size w ((w.alloc (.cells #[.int .i64 ct, .int .i64 cp, .int .i64 cs] 23)).alloc (.cells #[.int .i64 6, .int .i64 t, .int .i64 num, .int .i64 ok, .int .i64 oa, .int .i64 ob, .int .i64 n, .int .i64 m] 32)) := ((Below.refl _ _).alloc (Nat.le_refl _) _).alloc (by simp) _
      go_enter Try.func62, Try.ntmps62
      go_wp2_with fail
      refine (CK.out _).mono ?_
      rintro e w1 ⟨rfl, hb1⟩
      have hkc := blkT_call hb1 hkc
      have hke := blkT_call hb1 hke
      have hB : Below w.heap.size w w1 := hB.trans (hb1.mono hB.size)
      clear hb1
      have q0 : w1.cell? ⟨w.heap.size, 0, none⟩ = some (.int .i64 ct) := blkT_cell hkc rfl
      have q1 : w1.cell? ⟨w.heap.size, 1, none⟩ = some (.int .i64 cp) := blkT_cell hkc rfl
      have q2 : w1.cell? ⟨w.heap.size, 2, none⟩ = some (.int .i64 cs) := blkT_cell hkc rfl
      have c0 : w1.cell? ⟨w.heap.size + 1, 0, none⟩ = some (.int .i64 6) := blkT_cell hke rfl
      have c1 : w1.cell? ⟨w.heap.size + 1, 1, none⟩ = some (.int .i64 t) := blkT_cell hke rfl
      have c2 : w1.cell? ⟨w.heap.size + 1, 2, none⟩ = some (.int .i64 num) := blkT_cell hke rfl
      have c3 : w1.cell? ⟨w.heap.size + 1, 3, none⟩ = some (.int .i64 ok) := blkT_cell hke rfl
      have c4 : w1.cell? ⟨w.heap.size + 1, 4, none⟩ = some (.int .i64 oa) := blkT_cell hke rfl
      have c5 : w1.cell? ⟨w.heap.size + 1, 5, none⟩ = some (.int .i64 ob) := blkT_cell hke rfl
      have c6 : w1.cell? ⟨w.heap.size + 1, 6, none⟩ = some (.int .i64 n) := blkT_cell hke rfl
      have c7 : w1.cell? ⟨w.heap.size + 1, 7, none⟩ = some (.int .i64 m) := blkT_cell hke rfl
      have zq : w.heap.size < w1.heap.size := blkT_lt hkc
      have zc : w.heap.size + 1 < w1.heap.size := blkT_lt hke
      go_wp2_with fail
      refine (TH.out _).mono ?_
      rintro e _ ⟨rfl, rfl⟩
      go_wp2_with fail
      refine (BR.out _).mono ?_
      rintro e w2 ⟨rfl, hb2⟩
      have hkc := blkT_call hb2 hkc
      have hke := blkT_call hb2 hke
      have hB : Below w.heap.size w w2 := hB.trans (hb2.mono hB.size)
      clear hb2
      have q0 : w2.cell? ⟨w.heap.size, 0, none⟩ = some (.int .i64 ct) := blkT_cell hkc rfl
      have q1 : w2.cell? ⟨w.heap.size, 1, none⟩ = some (.int .i64 cp) := blkT_cell hkc rfl
      have q2 : w2.cell? ⟨w.heap.size, 2, none⟩ = some (.int .i64 cs) := blkT_cell hkc rfl
      have c0 : w2.cell? ⟨w.heap.size + 1, 0, none⟩ = some (.int .i64 6) := blkT_cell hke rfl
      have c1 : w2.cell? ⟨w.heap.size + 1, 1, none⟩ = some (.int .i64 t) := blkT_cell hke rfl
      have c2 : w2.cell? ⟨w.heap.size + 1, 2, none⟩ = some (.int .i64 num) := blkT_cell hke rfl
      have c3 : w2.cell? ⟨w.heap.size + 1, 3, none⟩ = some (.int .i64 ok) := blkT_cell hke rfl
      have c4 : w2.cell? ⟨w.heap.size + 1, 4, none⟩ = some (.int .i64 oa) := blkT_cell hke rfl
      have c5 : w2.cell? ⟨w.heap.size + 1, 5, none⟩ = some (.int .i64 ob) := blkT_cell hke rfl
      have c6 : w2.cell? ⟨w.heap.size + 1, 6, none⟩ = some (.int .i64 n) := blkT_cell hke rfl
      have c7 : w2.cell? ⟨w.heap.size + 1, 7, none⟩ = some (.int .i64 m) := blkT_cell hke rfl
      have zq : w.heap.size < w2.heap.size := blkT_lt hkc
      have zc : w.heap.size + 1 < w2.heap.size := blkT_lt hke
      go_wp2_with fail
      refine (SP.out _).mono ?_
      rintro e w3 ⟨rfl, hb3⟩
      have hkc := blkT_call hb3 hkc
      have hke := blkT_call hb3 hke
      have hB : Below w.heap.size w w3 := hB.trans (hb3.mono hB.size)
      clear hb3
      have q0 : w3.cell? ⟨w.heap.size, 0, none⟩ = some (.int .i64 ct) := blkT_cell hkc rfl
      have q1 : w3.cell? ⟨w.heap.size, 1, none⟩ = some (.int .i64 cp) := blkT_cell hkc rfl
      have q2 : w3.cell? ⟨w.heap.size, 2, none⟩ = some (.int .i64 cs) := blkT_cell hkc rfl
      have c0 : w3.cell? ⟨w.heap.size + 1, 0, none⟩ = some (.int .i64 6) := blkT_cell hke rfl
      have c1 : w3.cell? ⟨w.heap.size + 1, 1, none⟩ = some (.int .i64 t) := blkT_cell hke rfl
      have c2 : w3.cell? ⟨w.heap.size + 1, 2, none⟩ = some (.int .i64 num) := blkT_cell hke rfl
      have c3 : w3.cell? ⟨w.heap.size + 1, 3, none⟩ = some (.int .i64 ok) := blkT_cell hke rfl
      have c4 : w3.cell? ⟨w.heap.size + 1, 4, none⟩ = some (.int .i64 oa) := blkT_cell hke rfl
      have c5 : w3.cell? ⟨w.heap.size + 1, 5, none⟩ = some (.int .i64 ob) := blkT_cell hke rfl
      have c6 : w3.cell? ⟨w.heap.size + 1, 6, none⟩ = some (.int .i64 n) := blkT_cell hke rfl
      have c7 : w3.cell? ⟨w.heap.size + 1, 7, none⟩ = some (.int .i64 m) := blkT_cell hke rfl
      have zq : w.heap.size < w3.heap.size := blkT_lt hkc
      have zc : w.heap.size + 1 < w3.heap.size := blkT_lt hke
      go_wp2_with fail
      go_ret
      exact ⟨ret_bool (by first | rfl | (simp; omega) | (simp [*]; done)), hB⟩
    by_cases g2 : 0 ≤ t
    rotate_left
    · skip
      have HB := hid (show rightE ct cp cs ⟨6, t, num, ok, oa, ob, n, m⟩ = false by rw [rightE_steps, hr, hb, hs]; simp [useT, useNum, useOp, useM, g0, g1]; omega)
      rw [HB.out]
      have hkc : BlkT 23 ((w.alloc (.cells #[.int .i64 ct, .int .i64 cp, .int .i64 cs] 23)).alloc (.cells #[.int .i64 6, .int .i64 t, .int .i64 num, .int .i64 ok, .int .i64 oa, .int .i64 ob, .int .i64 n, .int .i64 m] 32)) w.heap.size #[.int .i64 ct, .int .i64 cp, .int .i64 cs] := blkT_old (blkT_new rfl)
      have hke : BlkT 32 ((w.alloc (.cells #[.int .i64 ct, .int .i64 cp, .int .i64 cs] 23)).alloc (.cells #[.int .i64 6, .int .i64 t, .int .i64 num, .int .i64 ok, .int .i64 oa, .int .i64 ob, .int .i64 n, .int .i64 m] 32)) (w.heap.size + 1) #[.int .i64 6, .int .i64 t, .int .i64 num, .int .i64 ok, .int .i64 oa, .int .i64 ob, .int .i64 n, .int .i64 m] := blkT_new (by simp)
      have hB : Below w.heap.size w ((w.alloc (.cells #[.int .i64 ct, .int .i64 cp, .int .i64 cs] 23)).alloc (.cells #[.int .i64 6, .int .i64 t, .int .i64 num, .int .i64 ok, .int .i64 oa, .int .i64 ob, .int .i64 n, .int .i64 m] 32)) := ((Below.refl _ _).alloc (Nat.le_refl _) _).alloc (by simp) _
      go_enter Try.func62, Try.ntmps62
      go_wp2_with fail
      refine (CK.out _).mono ?_
      rintro e w1 ⟨rfl, hb1⟩
      have hkc := blkT_call hb1 hkc
      have hke := blkT_call hb1 hke
      have hB : Below w.heap.size w w1 := hB.trans (hb1.mono hB.size)
      clear hb1
      have q0 : w1.cell? ⟨w.heap.size, 0, none⟩ = some (.int .i64 ct) := blkT_cell hkc rfl
      have q1 : w1.cell? ⟨w.heap.size, 1, none⟩ = some (.int .i64 cp) := blkT_cell hkc rfl
      have q2 : w1.cell? ⟨w.heap.size, 2, none⟩ = some (.int .i64 cs) := blkT_cell hkc rfl
      have c0 : w1.cell? ⟨w.heap.size + 1, 0, none⟩ = some (.int .i64 6) := blkT_cell hke rfl
      have c1 : w1.cell? ⟨w.heap.size + 1, 1, none⟩ = some (.int .i64 t) := blkT_cell hke rfl
      have c2 : w1.cell? ⟨w.heap.size + 1, 2, none⟩ = some (.int .i64 num) := blkT_cell hke rfl
      have c3 : w1.cell? ⟨w.heap.size + 1, 3, none⟩ = some (.int .i64 ok) := blkT_cell hke rfl
      have c4 : w1.cell? ⟨w.heap.size + 1, 4, none⟩ = some (.int .i64 oa) := blkT_cell hke rfl
      have c5 : w1.cell? ⟨w.heap.size + 1, 5, none⟩ = some (.int .i64 ob) := blkT_cell hke rfl
      have c6 : w1.cell? ⟨w.heap.size + 1, 6, none⟩ = some (.int .i64 n) := blkT_cell hke rfl
      have c7 : w1.cell? ⟨w.heap.size + 1, 7, none⟩ = some (.int .i64 m) := blkT_cell hke rfl
      have zq : w.heap.size < w1.heap.size := blkT_lt hkc
      have zc : w.heap.size + 1 < w1.heap.size := blkT_lt hke
      go_wp2_with fail
      refine (TH.out _).mono ?_
      rintro e _ ⟨rfl, rfl⟩
      go_wp2_with fail
      refine (BR.out _).mono ?_
      rintro e w2 ⟨rfl, hb2⟩
      have hkc := blkT_call hb2 hkc
      have hke := blkT_call hb2 hke
      have hB : Below w.heap.size w w2 := hB.trans (hb2.mono hB.size)
      clear hb2
      have q0 : w2.cell? ⟨w.heap.size, 0, none⟩ = some (.int .i64 ct) := blkT_cell hkc rfl
      have q1 : w2.cell? ⟨w.heap.size, 1, none⟩ = some (.int .i64 cp) := blkT_cell hkc rfl
      have q2 : w2.cell? ⟨w.heap.size, 2, none⟩ = some (.int .i64 cs) := blkT_cell hkc rfl
      have c0 : w2.cell? ⟨w.heap.size + 1, 0, none⟩ = some (.int .i64 6) := blkT_cell hke rfl
      have c1 : w2.cell? ⟨w.heap.size + 1, 1, none⟩ = some (.int .i64 t) := blkT_cell hke rfl
      have c2 : w2.cell? ⟨w.heap.size + 1, 2, none⟩ = some (.int .i64 num) := blkT_cell hke rfl
      have c3 : w2.cell? ⟨w.heap.size + 1, 3, none⟩ = some (.int .i64 ok) := blkT_cell hke rfl
      have c4 : w2.cell? ⟨w.heap.size + 1, 4, none⟩ = some (.int .i64 oa) := blkT_cell hke rfl
      have c5 : w2.cell? ⟨w.heap.size + 1, 5, none⟩ = some (.int .i64 ob) := blkT_cell hke rfl
      have c6 : w2.cell? ⟨w.heap.size + 1, 6, none⟩ = some (.int .i64 n) := blkT_cell hke rfl
      have c7 : w2.cell? ⟨w.heap.size + 1, 7, none⟩ = some (.int .i64 m) := blkT_cell hke rfl
      have zq : w.heap.size < w2.heap.size := blkT_lt hkc
      have zc : w.heap.size + 1 < w2.heap.size := blkT_lt hke
      go_wp2_with fail
      refine (SP.out _).mono ?_
      rintro e w3 ⟨rfl, hb3⟩
      have hkc := blkT_call hb3 hkc
      have hke := blkT_call hb3 hke
      have hB : Below w.heap.size w w3 := hB.trans (hb3.mono hB.size)
      clear hb3
      have q0 : w3.cell? ⟨w.heap.size, 0, none⟩ = some (.int .i64 ct) := blkT_cell hkc rfl
      have q1 : w3.cell? ⟨w.heap.size, 1, none⟩ = some (.int .i64 cp) := blkT_cell hkc rfl
      have q2 : w3.cell? ⟨w.heap.size, 2, none⟩ = some (.int .i64 cs) := blkT_cell hkc rfl
      have c0 : w3.cell? ⟨w.heap.size + 1, 0, none⟩ = some (.int .i64 6) := blkT_cell hke rfl
      have c1 : w3.cell? ⟨w.heap.size + 1, 1, none⟩ = some (.int .i64 t) := blkT_cell hke rfl
      have c2 : w3.cell? ⟨w.heap.size + 1, 2, none⟩ = some (.int .i64 num) := blkT_cell hke rfl
      have c3 : w3.cell? ⟨w.heap.size + 1, 3, none⟩ = some (.int .i64 ok) := blkT_cell hke rfl
      have c4 : w3.cell? ⟨w.heap.size + 1, 4, none⟩ = some (.int .i64 oa) := blkT_cell hke rfl
      have c5 : w3.cell? ⟨w.heap.size + 1, 5, none⟩ = some (.int .i64 ob) := blkT_cell hke rfl
      have c6 : w3.cell? ⟨w.heap.size + 1, 6, none⟩ = some (.int .i64 n) := blkT_cell hke rfl
      have c7 : w3.cell? ⟨w.heap.size + 1, 7, none⟩ = some (.int .i64 m) := blkT_cell hke rfl
      have zq : w.heap.size < w3.heap.size := blkT_lt hkc
      have zc : w.heap.size + 1 < w3.heap.size := blkT_lt hke
      go_wp2_with fail
      go_ret
      exact ⟨ret_bool (by first | rfl | (simp; omega) | (simp [*]; done)), hB⟩
    by_cases g3 : t < ct
    rotate_left
    · skip
      have HB := hid (show rightE ct cp cs ⟨6, t, num, ok, oa, ob, n, m⟩ = false by rw [rightE_steps, hr, hb, hs]; simp [useT, useNum, useOp, useM, g0, g1, g2]; omega)
      rw [HB.out]
      have hkc : BlkT 23 ((w.alloc (.cells #[.int .i64 ct, .int .i64 cp, .int .i64 cs] 23)).alloc (.cells #[.int .i64 6, .int .i64 t, .int .i64 num, .int .i64 ok, .int .i64 oa, .int .i64 ob, .int .i64 n, .int .i64 m] 32)) w.heap.size #[.int .i64 ct, .int .i64 cp, .int .i64 cs] := blkT_old (blkT_new rfl)
      have hke : BlkT 32 ((w.alloc (.cells #[.int .i64 ct, .int .i64 cp, .int .i64 cs] 23)).alloc (.cells #[.int .i64 6, .int .i64 t, .int .i64 num, .int .i64 ok, .int .i64 oa, .int .i64 ob, .int .i64 n, .int .i64 m] 32)) (w.heap.size + 1) #[.int .i64 6, .int .i64 t, .int .i64 num, .int .i64 ok, .int .i64 oa, .int .i64 ob, .int .i64 n, .int .i64 m] := blkT_new (by simp)
      have hB : Below w.heap.size w ((w.alloc (.cells #[.int .i64 ct, .int .i64 cp, .int .i64 cs] 23)).alloc (.cells #[.int .i64 6, .int .i64 t, .int .i64 num, .int .i64 ok, .int .i64 oa, .int .i64 ob, .int .i64 n, .int .i64 m] 32)) := ((Below.refl _ _).alloc (Nat.le_refl _) _).alloc (by simp) _
      go_enter Try.func62, Try.ntmps62
      go_wp2_with fail
      refine (CK.out _).mono ?_
      rintro e w1 ⟨rfl, hb1⟩
      have hkc := blkT_call hb1 hkc
      have hke := blkT_call hb1 hke
      have hB : Below w.heap.size w w1 := hB.trans (hb1.mono hB.size)
      clear hb1
      have q0 : w1.cell? ⟨w.heap.size, 0, none⟩ = some (.int .i64 ct) := blkT_cell hkc rfl
      have q1 : w1.cell? ⟨w.heap.size, 1, none⟩ = some (.int .i64 cp) := blkT_cell hkc rfl
      have q2 : w1.cell? ⟨w.heap.size, 2, none⟩ = some (.int .i64 cs) := blkT_cell hkc rfl
      have c0 : w1.cell? ⟨w.heap.size + 1, 0, none⟩ = some (.int .i64 6) := blkT_cell hke rfl
      have c1 : w1.cell? ⟨w.heap.size + 1, 1, none⟩ = some (.int .i64 t) := blkT_cell hke rfl
      have c2 : w1.cell? ⟨w.heap.size + 1, 2, none⟩ = some (.int .i64 num) := blkT_cell hke rfl
      have c3 : w1.cell? ⟨w.heap.size + 1, 3, none⟩ = some (.int .i64 ok) := blkT_cell hke rfl
      have c4 : w1.cell? ⟨w.heap.size + 1, 4, none⟩ = some (.int .i64 oa) := blkT_cell hke rfl
      have c5 : w1.cell? ⟨w.heap.size + 1, 5, none⟩ = some (.int .i64 ob) := blkT_cell hke rfl
      have c6 : w1.cell? ⟨w.heap.size + 1, 6, none⟩ = some (.int .i64 n) := blkT_cell hke rfl
      have c7 : w1.cell? ⟨w.heap.size + 1, 7, none⟩ = some (.int .i64 m) := blkT_cell hke rfl
      have zq : w.heap.size < w1.heap.size := blkT_lt hkc
      have zc : w.heap.size + 1 < w1.heap.size := blkT_lt hke
      go_wp2_with fail
      refine (TH.out _).mono ?_
      rintro e _ ⟨rfl, rfl⟩
      go_wp2_with fail
      refine (BR.out _).mono ?_
      rintro e w2 ⟨rfl, hb2⟩
      have hkc := blkT_call hb2 hkc
      have hke := blkT_call hb2 hke
      have hB : Below w.heap.size w w2 := hB.trans (hb2.mono hB.size)
      clear hb2
      have q0 : w2.cell? ⟨w.heap.size, 0, none⟩ = some (.int .i64 ct) := blkT_cell hkc rfl
      have q1 : w2.cell? ⟨w.heap.size, 1, none⟩ = some (.int .i64 cp) := blkT_cell hkc rfl
      have q2 : w2.cell? ⟨w.heap.size, 2, none⟩ = some (.int .i64 cs) := blkT_cell hkc rfl
      have c0 : w2.cell? ⟨w.heap.size + 1, 0, none⟩ = some (.int .i64 6) := blkT_cell hke rfl
      have c1 : w2.cell? ⟨w.heap.size + 1, 1, none⟩ = some (.int .i64 t) := blkT_cell hke rfl
      have c2 : w2.cell? ⟨w.heap.size + 1, 2, none⟩ = some (.int .i64 num) := blkT_cell hke rfl
      have c3 : w2.cell? ⟨w.heap.size + 1, 3, none⟩ = some (.int .i64 ok) := blkT_cell hke rfl
      have c4 : w2.cell? ⟨w.heap.size + 1, 4, none⟩ = some (.int .i64 oa) := blkT_cell hke rfl
      have c5 : w2.cell? ⟨w.heap.size + 1, 5, none⟩ = some (.int .i64 ob) := blkT_cell hke rfl
      have c6 : w2.cell? ⟨w.heap.size + 1, 6, none⟩ = some (.int .i64 n) := blkT_cell hke rfl
      have c7 : w2.cell? ⟨w.heap.size + 1, 7, none⟩ = some (.int .i64 m) := blkT_cell hke rfl
      have zq : w.heap.size < w2.heap.size := blkT_lt hkc
      have zc : w.heap.size + 1 < w2.heap.size := blkT_lt hke
      go_wp2_with fail
      refine (SP.out _).mono ?_
      rintro e w3 ⟨rfl, hb3⟩
      have hkc := blkT_call hb3 hkc
      have hke := blkT_call hb3 hke
      have hB : Below w.heap.size w w3 := hB.trans (hb3.mono hB.size)
      clear hb3
      have q0 : w3.cell? ⟨w.heap.size, 0, none⟩ = some (.int .i64 ct) := blkT_cell hkc rfl
      have q1 : w3.cell? ⟨w.heap.size, 1, none⟩ = some (.int .i64 cp) := blkT_cell hkc rfl
      have q2 : w3.cell? ⟨w.heap.size, 2, none⟩ = some (.int .i64 cs) := blkT_cell hkc rfl
      have c0 : w3.cell? ⟨w.heap.size + 1, 0, none⟩ = some (.int .i64 6) := blkT_cell hke rfl
      have c1 : w3.cell? ⟨w.heap.size + 1, 1, none⟩ = some (.int .i64 t) := blkT_cell hke rfl
      have c2 : w3.cell? ⟨w.heap.size + 1, 2, none⟩ = some (.int .i64 num) := blkT_cell hke rfl
      have c3 : w3.cell? ⟨w.heap.size + 1, 3, none⟩ = some (.int .i64 ok) := blkT_cell hke rfl
      have c4 : w3.cell? ⟨w.heap.size + 1, 4, none⟩ = some (.int .i64 oa) := blkT_cell hke rfl
      have c5 : w3.cell? ⟨w.heap.size + 1, 5, none⟩ = some (.int .i64 ob) := blkT_cell hke rfl
      have c6 : w3.cell? ⟨w.heap.size + 1, 6, none⟩ = some (.int .i64 n) := blkT_cell hke rfl
      have c7 : w3.cell? ⟨w.heap.size + 1, 7, none⟩ = some (.int .i64 m) := blkT_cell hke rfl
      have zq : w.heap.size < w3.heap.size := blkT_lt hkc
      have zc : w.heap.size + 1 < w3.heap.size := blkT_lt hke
      go_wp2_with fail
      go_ret
      exact ⟨ret_bool (by first | rfl | (simp; omega) | (simp [*]; done)), hB⟩
    have HB := hid (show rightE ct cp cs ⟨6, t, num, ok, oa, ob, n, m⟩ = true by rw [rightE_steps, hr, hb, hs]; simp [useT, useNum, useOp, useM, g0, g1, g2, g3])
    rw [HB.out]
    have hkc : BlkT 23 ((w.alloc (.cells #[.int .i64 ct, .int .i64 cp, .int .i64 cs] 23)).alloc (.cells #[.int .i64 6, .int .i64 t, .int .i64 num, .int .i64 ok, .int .i64 oa, .int .i64 ob, .int .i64 n, .int .i64 m] 32)) w.heap.size #[.int .i64 ct, .int .i64 cp, .int .i64 cs] := blkT_old (blkT_new rfl)
    have hke : BlkT 32 ((w.alloc (.cells #[.int .i64 ct, .int .i64 cp, .int .i64 cs] 23)).alloc (.cells #[.int .i64 6, .int .i64 t, .int .i64 num, .int .i64 ok, .int .i64 oa, .int .i64 ob, .int .i64 n, .int .i64 m] 32)) (w.heap.size + 1) #[.int .i64 6, .int .i64 t, .int .i64 num, .int .i64 ok, .int .i64 oa, .int .i64 ob, .int .i64 n, .int .i64 m] := blkT_new (by simp)
    have hB : Below w.heap.size w ((w.alloc (.cells #[.int .i64 ct, .int .i64 cp, .int .i64 cs] 23)).alloc (.cells #[.int .i64 6, .int .i64 t, .int .i64 num, .int .i64 ok, .int .i64 oa, .int .i64 ob, .int .i64 n, .int .i64 m] 32)) := ((Below.refl _ _).alloc (Nat.le_refl _) _).alloc (by simp) _
    go_enter Try.func62, Try.ntmps62
    go_wp2_with fail
    refine (CK.out _).mono ?_
    rintro e w1 ⟨rfl, hb1⟩
    have hkc := blkT_call hb1 hkc
    have hke := blkT_call hb1 hke
    have hB : Below w.heap.size w w1 := hB.trans (hb1.mono hB.size)
    clear hb1
    have q0 : w1.cell? ⟨w.heap.size, 0, none⟩ = some (.int .i64 ct) := blkT_cell hkc rfl
    have q1 : w1.cell? ⟨w.heap.size, 1, none⟩ = some (.int .i64 cp) := blkT_cell hkc rfl
    have q2 : w1.cell? ⟨w.heap.size, 2, none⟩ = some (.int .i64 cs) := blkT_cell hkc rfl
    have c0 : w1.cell? ⟨w.heap.size + 1, 0, none⟩ = some (.int .i64 6) := blkT_cell hke rfl
    have c1 : w1.cell? ⟨w.heap.size + 1, 1, none⟩ = some (.int .i64 t) := blkT_cell hke rfl
    have c2 : w1.cell? ⟨w.heap.size + 1, 2, none⟩ = some (.int .i64 num) := blkT_cell hke rfl
    have c3 : w1.cell? ⟨w.heap.size + 1, 3, none⟩ = some (.int .i64 ok) := blkT_cell hke rfl
    have c4 : w1.cell? ⟨w.heap.size + 1, 4, none⟩ = some (.int .i64 oa) := blkT_cell hke rfl
    have c5 : w1.cell? ⟨w.heap.size + 1, 5, none⟩ = some (.int .i64 ob) := blkT_cell hke rfl
    have c6 : w1.cell? ⟨w.heap.size + 1, 6, none⟩ = some (.int .i64 n) := blkT_cell hke rfl
    have c7 : w1.cell? ⟨w.heap.size + 1, 7, none⟩ = some (.int .i64 m) := blkT_cell hke rfl
    have zq : w.heap.size < w1.heap.size := blkT_lt hkc
    have zc : w.heap.size + 1 < w1.heap.size := blkT_lt hke
    go_wp2_with fail
    refine (TH.out _).mono ?_
    rintro e _ ⟨rfl, rfl⟩
    go_wp2_with fail
    refine (BR.out _).mono ?_
    rintro e w2 ⟨rfl, hb2⟩
    have hkc := blkT_call hb2 hkc
    have hke := blkT_call hb2 hke
    have hB : Below w.heap.size w w2 := hB.trans (hb2.mono hB.size)
    clear hb2
    have q0 : w2.cell? ⟨w.heap.size, 0, none⟩ = some (.int .i64 ct) := blkT_cell hkc rfl
    have q1 : w2.cell? ⟨w.heap.size, 1, none⟩ = some (.int .i64 cp) := blkT_cell hkc rfl
    have q2 : w2.cell? ⟨w.heap.size, 2, none⟩ = some (.int .i64 cs) := blkT_cell hkc rfl
    have c0 : w2.cell? ⟨w.heap.size + 1, 0, none⟩ = some (.int .i64 6) := blkT_cell hke rfl
    have c1 : w2.cell? ⟨w.heap.size + 1, 1, none⟩ = some (.int .i64 t) := blkT_cell hke rfl
    have c2 : w2.cell? ⟨w.heap.size + 1, 2, none⟩ = some (.int .i64 num) := blkT_cell hke rfl
    have c3 : w2.cell? ⟨w.heap.size + 1, 3, none⟩ = some (.int .i64 ok) := blkT_cell hke rfl
    have c4 : w2.cell? ⟨w.heap.size + 1, 4, none⟩ = some (.int .i64 oa) := blkT_cell hke rfl
    have c5 : w2.cell? ⟨w.heap.size + 1, 5, none⟩ = some (.int .i64 ob) := blkT_cell hke rfl
    have c6 : w2.cell? ⟨w.heap.size + 1, 6, none⟩ = some (.int .i64 n) := blkT_cell hke rfl
    have c7 : w2.cell? ⟨w.heap.size + 1, 7, none⟩ = some (.int .i64 m) := blkT_cell hke rfl
    have zq : w.heap.size < w2.heap.size := blkT_lt hkc
    have zc : w.heap.size + 1 < w2.heap.size := blkT_lt hke
    go_wp2_with fail
    refine (SP.out _).mono ?_
    rintro e w3 ⟨rfl, hb3⟩
    have hkc := blkT_call hb3 hkc
    have hke := blkT_call hb3 hke
    have hB : Below w.heap.size w w3 := hB.trans (hb3.mono hB.size)
    clear hb3
    have q0 : w3.cell? ⟨w.heap.size, 0, none⟩ = some (.int .i64 ct) := blkT_cell hkc rfl
    have q1 : w3.cell? ⟨w.heap.size, 1, none⟩ = some (.int .i64 cp) := blkT_cell hkc rfl
    have q2 : w3.cell? ⟨w.heap.size, 2, none⟩ = some (.int .i64 cs) := blkT_cell hkc rfl
    have c0 : w3.cell? ⟨w.heap.size + 1, 0, none⟩ = some (.int .i64 6) := blkT_cell hke rfl
    have c1 : w3.cell? ⟨w.heap.size + 1, 1, none⟩ = some (.int .i64 t) := blkT_cell hke rfl
    have c2 : w3.cell? ⟨w.heap.size + 1, 2, none⟩ = some (.int .i64 num) := blkT_cell hke rfl
    have c3 : w3.cell? ⟨w.heap.size + 1, 3, none⟩ = some (.int .i64 ok) := blkT_cell hke rfl
    have c4 : w3.cell? ⟨w.heap.size + 1, 4, none⟩ = some (.int .i64 oa) := blkT_cell hke rfl
    have c5 : w3.cell? ⟨w.heap.size + 1, 5, none⟩ = some (.int .i64 ob) := blkT_cell hke rfl
    have c6 : w3.cell? ⟨w.heap.size + 1, 6, none⟩ = some (.int .i64 n) := blkT_cell hke rfl
    have c7 : w3.cell? ⟨w.heap.size + 1, 7, none⟩ = some (.int .i64 m) := blkT_cell hke rfl
    have zq : w.heap.size < w3.heap.size := blkT_lt hkc
    have zc : w.heap.size + 1 < w3.heap.size := blkT_lt hke
    go_wp2_with fail
    go_ret
    exact ⟨ret_bool (by first | rfl | (simp; omega) | (simp [*]; done)), hB⟩

end Go.Proofs.Ytpeeaapheohehaa
