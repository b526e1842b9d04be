/- The walk of the statement on what calls say: it answers true. -/
import Derived.Test.YtkkhoiahjmfibaaRef28c
import Derived.Test.YtkkhoiahjmfibaaLive28
namespace Go.Proofs.Ytkkhoiahjmfibaa
open Go.RowKit
set_option linter.unusedVariables false
set_option linter.unusedSimpArgs false

set_option maxRecDepth 100000 in
theorem callSaysBig (w : World) (t p s : Int) (a : Option Addr) (len cap : Nat) (ws : List Nat) (u num ok oa ob : Int) (hl1 : len ≤ cap) (hl2 : cap ≤ maxLen) (hf : 3000 < len) :
    Calls Try.prog 6 #[.agg #[.int .i64 t, .int .i64 p, .int .i64 s], .slice a len cap, .agg #[.int .i64 u, .int .i64 num, .int .i64 ok, .int .i64 oa, .int .i64 ob]] w fun e w' => e = .returned (.bool true) ∧ Below w.heap.size w w' := by
  go_enter Try.func6, Try.ntmps6
  go_wp2_with fail
  refine (live28 _).mono ?_
  rintro e w2 ⟨rfl, hb2⟩
  go_wp2_with fail
  go_ret
  exact ⟨rfl, bel⟩

set_option maxRecDepth 100000 in
set_option maxHeartbeats 3200000 in
theorem callSaysFew (w : World) (t p s : Int) (a : Option Addr) (len cap : Nat) (ws : List Nat) (u num ok oa ob : Int) (hl1 : len ≤ cap) (hl2 : cap ≤ maxLen) (hf : len ≤ 3000)
    (ln lb : Int) (lk : Bool) (so sa sb : Int) (sc : Bool) (r : Option (List Nat))
    (LA : RowKit.Hid (∀ w', Below w.heap.size w w' → Calls Try.prog 25 #[.agg #[.int .i64 t, .int .i64 p, .int .i64 s], .slice a len cap, .int .i64 u] w' fun e w'' => e = .returned (.tuple #[.int .i64 ln, .int .i64 lb, .bool lk]) ∧ Below w'.heap.size w' w''))
    (LR : RowKit.Hid (∀ w', Below w.heap.size w w' → Calls Try.prog 26 #[.agg #[.int .i64 t, .int .i64 p, .int .i64 s], .slice a len cap, .int .i64 u] w' fun e w'' => e = .returned (.tuple #[.int .i64 ln, .int .i64 lb, .bool lk]) ∧ Below w'.heap.size w' w''))
    (SA : RowKit.Hid (∀ w', Below w.heap.size w w' → Calls Try.prog 27 #[.agg #[.int .i64 t, .int .i64 p, .int .i64 s], .slice a len cap, .int .i64 u, .int .i64 num] w' fun e w'' => e = .returned (.tuple #[.agg #[.int .i64 so, .int .i64 sa, .int .i64 sb], .bool sc]) ∧ Below w'.heap.size w' w''))
    (SR : RowKit.Hid (∀ w', Below w.heap.size w w' → Calls Try.prog 28 #[.agg #[.int .i64 t, .int .i64 p, .int .i64 s], .slice a len cap, .int .i64 u, .int .i64 num] w' fun e w'' => e = .returned (.tuple #[.agg #[.int .i64 so, .int .i64 sa, .int .i64 sb], .bool sc]) ∧ Below w'.heap.size w' w''))
    (YA : RowKit.Hid (∀ w', Below w.heap.size w w' → Calls Try.prog 29 #[.agg #[.int .i64 t, .int .i64 p, .int .i64 s], .slice a len cap, .int .i64 u, .int .i64 num, .agg #[.int .i64 ok, .int .i64 oa, .int .i64 ob]] w' (OptPost 46 .u64 w' r)))
    (YR : RowKit.Hid (∀ w', Below w.heap.size w w' → Calls Try.prog 30 #[.agg #[.int .i64 t, .int .i64 p, .int .i64 s], .slice a len cap, .int .i64 u, .int .i64 num, .agg #[.int .i64 ok, .int .i64 oa, .int .i64 ob]] w' (OptPost 46 .u64 w' r))) :
    Calls Try.prog 6 #[.agg #[.int .i64 t, .int .i64 p, .int .i64 s], .slice a len cap, .agg #[.int .i64 u, .int .i64 num, .int .i64 ok, .int .i64 oa, .int .i64 ob]] w fun e w' => e = .returned (.bool true) ∧ Below w.heap.size w w' := by
  go_enter Try.func6, Try.ntmps6
  go_wp2_with fail
  have hB0 : Below w.heap.size w ((w.alloc (.cells #[.int .i64 t, .int .i64 p, .int .i64 s] 23)).alloc (.cells #[.int .i64 u, .int .i64 num, .int .i64 ok, .int .i64 oa, .int .i64 ob] 57)) := ((Below.refl _ _).alloc (Nat.le_refl _) _).alloc (by simp) _
  refine (LA.out _ hB0).mono ?_
  rintro e w1 ⟨rfl, hb1⟩
  have hC1 : Below (w.heap.size + 2) ((w.alloc (.cells #[.int .i64 t, .int .i64 p, .int .i64 s] 23)).alloc (.cells #[.int .i64 u, .int .i64 num, .int .i64 ok, .int .i64 oa, .int .i64 ob] 57)) w1 := hb1.mono (by simp)
  have z1 : w.heap.size + 2 ≤ w1.heap.size := by have := hb1.size; simp at this; omega
  have x1 : w.heap.size < w1.heap.size := by omega
  have x1' : w.heap.size + 1 < w1.heap.size := by omega
  have hB1 : Below w.heap.size w w1 := hB0.trans (hb1.mono (by simp; omega))
  have q0 : w1.cell? ⟨w.heap.size, 0, none⟩ = some (.int .i64 t) := (hC1.cell (p := ⟨w.heap.size, 0, none⟩) (by first | omega | (simp; done) | (simp; omega))).trans (cellOld (by simp) (cellNew rfl rfl))
  have q1 : w1.cell? ⟨w.heap.size, 1, none⟩ = some (.int .i64 p) := (hC1.cell (p := ⟨w.heap.size, 1, none⟩) (by first | omega | (simp; done) | (simp; omega))).trans (cellOld (by simp) (cellNew rfl rfl))
  have q2 : w1.cell? ⟨w.heap.size, 2, none⟩ = some (.int .i64 s) := (hC1.cell (p := ⟨w.heap.size, 2, none⟩) (by first | omega | (simp; done) | (simp; omega))).trans (cellOld (by simp) (cellNew rfl rfl))
  have q3 : w1.cell? ⟨w.heap.size + 1, 0, none⟩ = some (.int .i64 u) := (hC1.cell (p := ⟨w.heap.size + 1, 0, none⟩) (by first | omega | (simp; done) | (simp; omega))).trans (cellNew (by simp) rfl)
  have q4 : w1.cell? ⟨w.heap.size + 1, 1, none⟩ = some (.int .i64 num) := (hC1.cell (p := ⟨w.heap.size + 1, 1, none⟩) (by first | omega | (simp; done) | (simp; omega))).trans (cellNew (by simp) rfl)
  have q5 : w1.cell? ⟨w.heap.size + 1, 2, none⟩ = some (.int .i64 ok) := (hC1.cell (p := ⟨w.heap.size + 1, 2, none⟩) (by first | omega | (simp; done) | (simp; omega))).trans (cellNew (by simp) rfl)
  have q6 : w1.cell? ⟨w.heap.size + 1, 3, none⟩ = some (.int .i64 oa) := (hC1.cell (p := ⟨w.heap.size + 1, 3, none⟩) (by first | omega | (simp; done) | (simp; omega))).trans (cellNew (by simp) rfl)
  have q7 : w1.cell? ⟨w.heap.size + 1, 4, none⟩ = some (.int .i64 ob) := (hC1.cell (p := ⟨w.heap.size + 1, 4, none⟩) (by first | omega | (simp; done) | (simp; omega))).trans (cellNew (by simp) rfl)
  clear hb1 hC1 hB0
  go_wp2_with fail
  refine (LR.out _ hB1).mono ?_
  rintro e w2 ⟨rfl, hb2⟩
  have z2 : w1.heap.size ≤ w2.heap.size := hb2.size
  have x2 : w.heap.size < w2.heap.size := by omega
  have x2' : w.heap.size + 1 < w2.heap.size := by omega
  have hB2 : Below w.heap.size w w2 := hB1.trans (hb2.mono (by omega))
  have q0 : w2.cell? ⟨w.heap.size, 0, none⟩ = some (.int .i64 t) := (hb2.cell (p := ⟨w.heap.size, 0, none⟩) (by (try simp); omega)).trans q0
  have q1 : w2.cell? ⟨w.heap.size, 1, none⟩ = some (.int .i64 p) := (hb2.cell (p := ⟨w.heap.size, 1, none⟩) (by (try simp); omega)).trans q1
  have q2 : w2.cell? ⟨w.heap.size, 2, none⟩ = some (.int .i64 s) := (hb2.cell (p := ⟨w.heap.size, 2, none⟩) (by (try simp); omega)).trans q2
  have q3 : w2.cell? ⟨w.heap.size + 1, 0, none⟩ = some (.int .i64 u) := (hb2.cell (p := ⟨w.heap.size + 1, 0, none⟩) (by (try simp); omega)).trans q3
  have q4 : w2.cell? ⟨w.heap.size + 1, 1, none⟩ = some (.int .i64 num) := (hb2.cell (p := ⟨w.heap.size + 1, 1, none⟩) (by (try simp); omega)).trans q4
  have q5 : w2.cell? ⟨w.heap.size + 1, 2, none⟩ = some (.int .i64 ok) := (hb2.cell (p := ⟨w.heap.size + 1, 2, none⟩) (by (try simp); omega)).trans q5
  have q6 : w2.cell? ⟨w.heap.size + 1, 3, none⟩ = some (.int .i64 oa) := (hb2.cell (p := ⟨w.heap.size + 1, 3, none⟩) (by (try simp); omega)).trans q6
  have q7 : w2.cell? ⟨w.heap.size + 1, 4, none⟩ = some (.int .i64 ob) := (hb2.cell (p := ⟨w.heap.size + 1, 4, none⟩) (by (try simp); omega)).trans q7
  clear hb2
  go_wp2_with fail
  refine (SA.out _ hB2).mono ?_
  rintro e w3 ⟨rfl, hb3⟩
  have z3 : w2.heap.size ≤ w3.heap.size := hb3.size
  have x3 : w.heap.size < w3.heap.size := by omega
  have x3' : w.heap.size + 1 < w3.heap.size := by omega
  have hB3 : Below w.heap.size w w3 := hB2.trans (hb3.mono (by omega))
  have q0 : w3.cell? ⟨w.heap.size, 0, none⟩ = some (.int .i64 t) := (hb3.cell (p := ⟨w.heap.size, 0, none⟩) (by (try simp); omega)).trans q0
  have q1 : w3.cell? ⟨w.heap.size, 1, none⟩ = some (.int .i64 p) := (hb3.cell (p := ⟨w.heap.size, 1, none⟩) (by (try simp); omega)).trans q1
  have q2 : w3.cell? ⟨w.heap.size, 2, none⟩ = some (.int .i64 s) := (hb3.cell (p := ⟨w.heap.size, 2, none⟩) (by (try simp); omega)).trans q2
  have q3 : w3.cell? ⟨w.heap.size + 1, 0, none⟩ = some (.int .i64 u) := (hb3.cell (p := ⟨w.heap.size + 1, 0, none⟩) (by (try simp); omega)).trans q3
  have q4 : w3.cell? ⟨w.heap.size + 1, 1, none⟩ = some (.int .i64 num) := (hb3.cell (p := ⟨w.heap.size + 1, 1, none⟩) (by (try simp); omega)).trans q4
  have q5 : w3.cell? ⟨w.heap.size + 1, 2, none⟩ = some (.int .i64 ok) := (hb3.cell (p := ⟨w.heap.size + 1, 2, none⟩) (by (try simp); omega)).trans q5
  have q6 : w3.cell? ⟨w.heap.size + 1, 3, none⟩ = some (.int .i64 oa) := (hb3.cell (p := ⟨w.heap.size + 1, 3, none⟩) (by (try simp); omega)).trans q6
  have q7 : w3.cell? ⟨w.heap.size + 1, 4, none⟩ = some (.int .i64 ob) := (hb3.cell (p := ⟨w.heap.size + 1, 4, none⟩) (by (try simp); omega)).trans q7
  clear hb3
  go_wp2_with fail
  refine (SR.out _ (hB3.alloc (by omega) _)).mono ?_
  rintro e w4 ⟨rfl, hb4⟩
  have hb4' : Below (w3.heap.size + 1) (w3.alloc (.cells #[.int .i64 so, .int .i64 sa, .int .i64 sb] 55)) w4 := hb4.mono (by simp)
  have z4 : w3.heap.size + 1 ≤ w4.heap.size := by have := hb4'.size; simp at this; omega
  have x4 : w.heap.size < w4.heap.size := by omega
  have x4' : w.heap.size + 1 < w4.heap.size := by omega
  have u4 : w3.heap.size < w4.heap.size := by omega
  have hB4 : Below w.heap.size w w4 := (hB3.alloc (by omega) _).trans (hb4'.mono (by omega))
  have q0 : w4.cell? ⟨w.heap.size, 0, none⟩ = some (.int .i64 t) := (hb4'.cell (p := ⟨w.heap.size, 0, none⟩) (by (try simp); omega)).trans (cellOld (by omega) q0)
  have q1 : w4.cell? ⟨w.heap.size, 1, none⟩ = some (.int .i64 p) := (hb4'.cell (p := ⟨w.heap.size, 1, none⟩) (by (try simp); omega)).trans (cellOld (by omega) q1)
  have q2 : w4.cell? ⟨w.heap.size, 2, none⟩ = some (.int .i64 s) := (hb4'.cell (p := ⟨w.heap.size, 2, none⟩) (by (try simp); omega)).trans (cellOld (by omega) q2)
  have q3 : w4.cell? ⟨w.heap.size + 1, 0, none⟩ = some (.int .i64 u) := (hb4'.cell (p := ⟨w.heap.size + 1, 0, none⟩) (by (try simp); omega)).trans (cellOld (by omega) q3)
  have q4 : w4.cell? ⟨w.heap.size + 1, 1, none⟩ = some (.int .i64 num) := (hb4'.cell (p := ⟨w.heap.size + 1, 1, none⟩) (by (try simp); omega)).trans (cellOld (by omega) q4)
  have q5 : w4.cell? ⟨w.heap.size + 1, 2, none⟩ = some (.int .i64 ok) := (hb4'.cell (p := ⟨w.heap.size + 1, 2, none⟩) (by (try simp); omega)).trans (cellOld (by omega) q5)
  have q6 : w4.cell? ⟨w.heap.size + 1, 3, none⟩ = some (.int .i64 oa) := (hb4'.cell (p := ⟨w.heap.size + 1, 3, none⟩) (by (try simp); omega)).trans (cellOld (by omega) q6)
  have q7 : w4.cell? ⟨w.heap.size + 1, 4, none⟩ = some (.int .i64 ob) := (hb4'.cell (p := ⟨w.heap.size + 1, 4, none⟩) (by (try simp); omega)).trans (cellOld (by omega) q7)
  have n0 : w4.cell? ⟨w3.heap.size, 0, none⟩ = some (.int .i64 so) := (hb4'.cell (p := ⟨w3.heap.size, 0, none⟩) (Nat.lt_succ_self _)).trans (cellNew rfl rfl)
  have n1 : w4.cell? ⟨w3.heap.size, 1, none⟩ = some (.int .i64 sa) := (hb4'.cell (p := ⟨w3.heap.size, 1, none⟩) (Nat.lt_succ_self _)).trans (cellNew rfl rfl)
  have n2 : w4.cell? ⟨w3.heap.size, 2, none⟩ = some (.int .i64 sb) := (hb4'.cell (p := ⟨w3.heap.size, 2, none⟩) (Nat.lt_succ_self _)).trans (cellNew rfl rfl)
  clear hb4 hb4'
  go_wp2_with fail
  refine (YA.out _ (hB4.alloc (by omega) _)).mono ?_
  rintro e w5 hp5
  obtain ⟨a5, m5, cap5, rfl, ho5, hb5⟩ := hp5.open
  clear hp5
  have hb5' : Below (w4.heap.size + 1) (w4.alloc (.cells #[.int .i64 so, .int .i64 sa, .int .i64 sb] 55)) w5 := hb5.mono (by simp)
  have z5 : w4.heap.size + 1 ≤ w5.heap.size := by have := hb5'.size; simp at this; omega
  have x5 : w.heap.size < w5.heap.size := by omega
  have x5' : w.heap.size + 1 < w5.heap.size := by omega
  have u5 : w3.heap.size < w5.heap.size := by omega
  have u5' : w4.heap.size < w5.heap.size := by omega
  have hB5 : Below w.heap.size w w5 := (hB4.alloc (by omega) _).trans (hb5'.mono (by omega))
  have q0 : w5.cell? ⟨w.heap.size, 0, none⟩ = some (.int .i64 t) := (hb5'.cell (p := ⟨w.heap.size, 0, none⟩) (by (try simp); omega)).trans (cellOld (by omega) q0)
  have q1 : w5.cell? ⟨w.heap.size, 1, none⟩ = some (.int .i64 p) := (hb5'.cell (p := ⟨w.heap.size, 1, none⟩) (by (try simp); omega)).trans (cellOld (by omega) q1)
  have q2 : w5.cell? ⟨w.heap.size, 2, none⟩ = some (.int .i64 s) := (hb5'.cell (p := ⟨w.heap.size, 2, none⟩) (by (try simp); omega)).trans (cellOld (by omega) q2)
  have q3 : w5.cell? ⟨w.heap.size + 1, 0, none⟩ = some (.int .i64 u) := (hb5'.cell (p := ⟨w.heap.size + 1, 0, none⟩) (by (try simp); omega)).trans (cellOld (by omega) q3)
  have q4 : w5.cell? ⟨w.heap.size + 1, 1, none⟩ = some (.int .i64 num) := (hb5'.cell (p := ⟨w.heap.size + 1, 1, none⟩) (by (try simp); omega)).trans (cellOld (by omega) q4)
  have q5 : w5.cell? ⟨w.heap.size + 1, 2, none⟩ = some (.int .i64 ok) := (hb5'.cell (p := ⟨w.heap.size + 1, 2, none⟩) (by (try simp); omega)).trans (cellOld (by omega) q5)
  have q6 : w5.cell? ⟨w.heap.size + 1, 3, none⟩ = some (.int .i64 oa) := (hb5'.cell (p := ⟨w.heap.size + 1, 3, none⟩) (by (try simp); omega)).trans (cellOld (by omega) q6)
  have q7 : w5.cell? ⟨w.heap.size + 1, 4, none⟩ = some (.int .i64 ob) := (hb5'.cell (p := ⟨w.heap.size + 1, 4, none⟩) (by (try simp); omega)).trans (cellOld (by omega) q7)
  have n0 : w5.cell? ⟨w3.heap.size, 0, none⟩ = some (.int .i64 so) := (hb5'.cell (p := ⟨w3.heap.size, 0, none⟩) (by (try simp); omega)).trans (cellOld (by omega) n0)
  have n1 : w5.cell? ⟨w3.heap.size, 1, none⟩ = some (.int .i64 sa) := (hb5'.cell (p := ⟨w3.heap.size, 1, none⟩) (by (try simp); omega)).trans (cellOld (by omega) n1)
  have n2 : w5.cell? ⟨w3.heap.size, 2, none⟩ = some (.int .i64 sb) := (hb5'.cell (p := ⟨w3.heap.size, 2, none⟩) (by (try simp); omega)).trans (cellOld (by omega) n2)
  have m0 : w5.cell? ⟨w4.heap.size, 0, none⟩ = some (.int .i64 so) := (hb5'.cell (p := ⟨w4.heap.size, 0, none⟩) (Nat.lt_succ_self _)).trans (cellNew rfl rfl)
  have m1 : w5.cell? ⟨w4.heap.size, 1, none⟩ = some (.int .i64 sa) := (hb5'.cell (p := ⟨w4.heap.size, 1, none⟩) (Nat.lt_succ_self _)).trans (cellNew rfl rfl)
  have m2 : w5.cell? ⟨w4.heap.size, 2, none⟩ = some (.int .i64 sb) := (hb5'.cell (p := ⟨w4.heap.size, 2, none⟩) (Nat.lt_succ_self _)).trans (cellNew rfl rfl)
  clear hb5 hb5'
  go_wp2_with fail
  refine (YR.out _ hB5).mono ?_
  rintro e w6 hp6
  obtain ⟨a6, m6, cap6, rfl, ho6, hb6⟩ := hp6.open
  clear hp6
  have z6 : w5.heap.size ≤ w6.heap.size := hb6.size
  have u6 : w3.heap.size < w6.heap.size := by omega
  have u6' : w4.heap.size < w6.heap.size := by omega
  have hB6 : Below w.heap.size w w6 := hB5.trans (hb6.mono (by omega))
  have n0 : w6.cell? ⟨w3.heap.size, 0, none⟩ = some (.int .i64 so) := (hb6.cell (p := ⟨w3.heap.size, 0, none⟩) (by (try simp); omega)).trans n0
  have n1 : w6.cell? ⟨w3.heap.size, 1, none⟩ = some (.int .i64 sa) := (hb6.cell (p := ⟨w3.heap.size, 1, none⟩) (by (try simp); omega)).trans n1
  have n2 : w6.cell? ⟨w3.heap.size, 2, none⟩ = some (.int .i64 sb) := (hb6.cell (p := ⟨w3.heap.size, 2, none⟩) (by (try simp); omega)).trans n2
  have m0 : w6.cell? ⟨w4.heap.size, 0, none⟩ = some (.int .i64 so) := (hb6.cell (p := ⟨w4.heap.size, 0, none⟩) (by (try simp); omega)).trans m0
  have m1 : w6.cell? ⟨w4.heap.size, 1, none⟩ = some (.int .i64 sa) := (hb6.cell (p := ⟨w4.heap.size, 1, none⟩) (by (try simp); omega)).trans m1
  have m2 : w6.cell? ⟨w4.heap.size, 2, none⟩ = some (.int .i64 sb) := (hb6.cell (p := ⟨w4.heap.size, 2, none⟩) (by (try simp); omega)).trans m2
  have ho5 := ho5.kept hb6 (Nat.le_refl _)
  clear hb6 q0 q1 q2 q3 q4 q5 q6 q7
  go_wp2_with fail
  refine (refSameWordsB _ _ _ _ _ _ _ _ _ ho5.seen ho6.seen).mono ?_
  rw [beq_self_eq_true]
  rintro e w7 ⟨rfl, hb7⟩
  have hB7 : Below w.heap.size w w7 := hB6.trans (hb7.mono (by omega))
  have z7 : w6.heap.size ≤ w7.heap.size := hb7.size
  clear hb7 ho5 ho6
  go_wp2_with fail
  refine (live28 _).mono ?_
  rintro e w8 ⟨rfl, hb8⟩
  have hB8 : Below w.heap.size w w8 := hB7.trans (hb8.mono (by omega))
  clear hb8
  go_wp2_with fail
  go_ret
  exact ⟨rfl, hB8⟩

theorem saidForm (t p u : Int) (ws : List Nat) (num : Int) : ∃ k a b c, saidV t p u ws num = .tuple #[.agg #[.int .i64 k, .int .i64 a, .int .i64 b], .bool c] := by
  unfold saidV
  repeat' split
  all_goals first | exact ⟨_, _, _, _, rfl⟩ | exact ofForm3 _ _ _
theorem lawCallSays (w : World) (t p s : Int) (a : Option Addr) (len cap : Nat) (ws : List Nat) (u num ok oa ob : Int) (t1 : -9223372036854775808 ≤ t) (t2 : t ≤ 9223372036854775807) (p1 : -9223372036854775808 ≤ p) (p2 : p ≤ 9223372036854775807) (s1 : -9223372036854775808 ≤ s) (s2 : s ≤ 9223372036854775807)
    (hs : Seen .u64 w a len cap ws) (hf : Fit 18446744073709551616 ws) (u1 : -9223372036854775808 ≤ u) (u2 : u ≤ 9223372036854775807) (n1 : -9223372036854775808 ≤ num) (n2 : num ≤ 9223372036854775807) (k1 : -9223372036854775808 ≤ ok) (k2 : ok ≤ 9223372036854775807) (aa1 : -9223372036854775808 ≤ oa) (aa2 : oa ≤ 9223372036854775807) (bb1 : -9223372036854775808 ≤ ob) (bb2 : ob ≤ 9223372036854775807) :
    Calls Try.prog 6 #[.agg #[.int .i64 t, .int .i64 p, .int .i64 s], .slice a len cap, .agg #[.int .i64 u, .int .i64 num, .int .i64 ok, .int .i64 oa, .int .i64 ob]] w fun e w' => e = .returned (.bool true) ∧ Below w.heap.size w w' := by
  have hl1 := hs.2.1
  have hl2 : cap ≤ maxLen := hs.2.2.1
  by_cases hw : len ≤ 3000
  · by_cases h : okW t p s len ∧ 0 ≤ u ∧ u < t
    · obtain ⟨so, sa, sb, sc, hS⟩ := saidForm t p u ws num
      exact callSaysFew w t p s a len cap ws u num ok oa ob hl1 hl2 hw _ _ true so sa sb sc _
        (hid fun w' hb => callLastYes t p s u w' a len cap ws (hs.below hb) h.1 h.2.1 h.2.2)
        (hid fun w' hb => refLastYes t p s u w' a len cap ws (hs.below hb) h.1 h.2.1 h.2.2)
        (hid fun w' hb => by have g := callSaidYes t p s u w' a len cap ws num (hs.below hb) h.1 h.2.1 h.2.2; rw [hS] at g; exact g)
        (hid fun w' hb => by have g := refSaidYes t p s u w' a len cap ws num (hs.below hb) hf h.1 h.2.1 h.2.2; rw [hS] at g; exact g)
        (hid fun w' hb => callLayYes t p s u w' a len cap ws num ok oa ob (hs.below hb) h.1 h.2.1 h.2.2)
        (hid fun w' hb => refLayCYes t p s u w' a len cap ws num ok oa ob (hs.below hb) h.1 h.2.1 h.2.2 k1 k2)
    · exact callSaysFew w t p s a len cap ws u num ok oa ob hl1 hl2 hw 0 0 false 0 0 0 false none
        (hid fun w' hb => callLastNo t p s u w' a len cap ws ⟨hl1, hl2⟩ h)
        (hid fun w' hb => refLastNo t p s u w' a len cap ws ⟨hl1, hl2⟩ h)
        (hid fun w' hb => callSaidNo t p s u w' a len cap ws num ⟨hl1, hl2⟩ h)
        (hid fun w' hb => refSaidNo t p s u w' a len cap ws num ⟨hl1, hl2⟩ h)
        (hid fun w' hb => callLayNo t p s u w' a len cap ws num ok oa ob ⟨hl1, hl2⟩ h)
        (hid fun w' hb => refLayCNo t p s u w' a len cap ws num ok oa ob ⟨hl1, hl2⟩ h)
  · exact callSaysBig w t p s a len cap ws u num ok oa ob hl1 hl2 (by omega)
end Go.Proofs.Ytkkhoiahjmfibaa
