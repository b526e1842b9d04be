/- The walk of package call's Resolve, of a thread's last call. -/
import Derived.Test.YtkkhoiahjmfibaaCall4
namespace Go.Proofs.Ytkkhoiahjmfibaa
open Go.RowKit
set_option linter.unusedVariables false
set_option linter.unusedSimpArgs false

set_option maxRecDepth 100000 in
set_option maxHeartbeats 3200000 in
theorem callResolveNot (t p s u : Int) (w : World) (a : Option Addr) (len cap : Nat) (ws : List Nat) (num : Int) (vs : List Nat) (ok oa ob : Int) (oc : Bool) (SET : RowKit.Hid (∀ w', Below w.heap.size w w' → Calls Try.prog 18 #[.agg #[.int .i64 t, .int .i64 p, .int .i64 s], .slice a len cap] w' (OptPost 25 .u32 w' (some vs)))) (hs : Seen .u64 w a len cap ws) (ho : okW t p s len) (h0 : 0 ≤ u) (h1 : u < t) (hn : 1 ≤ num) (hl : num = (lastN t p u ws : Int))
    (hv : (vs.length : Int) = cellsN t p) (hf : Fit 4294967296 vs) (hsv : saidV t p u ws num = .tuple #[.agg #[.int .i64 ok, .int .i64 oa, .int .i64 ob], .bool oc]) (hd : (dvN u vs 0 : Int) ≠ num) :
    Calls Try.prog 31 #[.agg #[.int .i64 t, .int .i64 p, .int .i64 s], .slice a len cap, .int .i64 u, .int .i64 num] w fun e w' => e = .returned (.agg #[.int .i64 1, .int .i64 ok, .int .i64 oa, .int .i64 ob, .int .i64 0, .int .i64 0, .int .i64 0]) ∧ Below w.heap.size w w' := by
  have HS := hid hs
  have HO := hid ho
  have HV := hid hv
  have HF := hid hf
  have SV := hid hsv
  have dn : (num != (lastN t p u ws : Int)) = false := by rw [bne_eq_false_iff_eq]; exact hl
  have g2 : decide (num < 1) = false := by simp; omega
  have dd : ((dvN u vs 0 : Int) != num) = true := by rw [bne_iff_ne]; exact hd
  clear hs ho hv hf hsv hl hd
  go_enter Try.func31, Try.ntmps31
  go_wp2_with fail
  refine (callLastYes t p s u _ a len cap ws (HS.out.below bel) HO.out h0 h1).mono ?_
  rintro e w1 ⟨rfl, hb1⟩
  have hC1 : Below (w.heap.size + 2) ((w.alloc (.cells #[.int .i64 t, .int .i64 p, .int .i64 s] 23)).alloc (.cells #[.int .i64 0, .int .i64 0, .int .i64 0, .int .i64 0, .int .i64 0, .int .i64 0, .int .i64 0] 68)) w1 := hb1.mono (by simp)
  have z1 : w.heap.size < w1.heap.size := by have := hb1.size; simp at this; omega
  have z1' : w.heap.size + 1 < w1.heap.size := by have := hb1.size; simp at this; omega
  have hB1 : Below w.heap.size w w1 := bel
  have q0 : w1.cell? ⟨w.heap.size, 0, none⟩ = some (.int .i64 t) := (hC1.cell (p := ⟨w.heap.size, 0, none⟩) (by first | omega | (simp; done) | (simp; omega))).trans (cellOld (by simp) (cellNew rfl rfl))
  have q1 : w1.cell? ⟨w.heap.size, 1, none⟩ = some (.int .i64 p) := (hC1.cell (p := ⟨w.heap.size, 1, none⟩) (by first | omega | (simp; done) | (simp; omega))).trans (cellOld (by simp) (cellNew rfl rfl))
  have q2 : w1.cell? ⟨w.heap.size, 2, none⟩ = some (.int .i64 s) := (hC1.cell (p := ⟨w.heap.size, 2, none⟩) (by first | omega | (simp; done) | (simp; omega))).trans (cellOld (by simp) (cellNew rfl rfl))
  have r0 : w1.cell? ⟨w.heap.size + 1, 0, none⟩ = some (.int .i64 0) := (hC1.cell (p := ⟨w.heap.size + 1, 0, none⟩) (by first | omega | (simp; done) | (simp; omega))).trans (cellNew (by simp) rfl)
  have r1 : w1.cell? ⟨w.heap.size + 1, 1, none⟩ = some (.int .i64 0) := (hC1.cell (p := ⟨w.heap.size + 1, 1, none⟩) (by first | omega | (simp; done) | (simp; omega))).trans (cellNew (by simp) rfl)
  have r2 : w1.cell? ⟨w.heap.size + 1, 2, none⟩ = some (.int .i64 0) := (hC1.cell (p := ⟨w.heap.size + 1, 2, none⟩) (by first | omega | (simp; done) | (simp; omega))).trans (cellNew (by simp) rfl)
  have r3 : w1.cell? ⟨w.heap.size + 1, 3, none⟩ = some (.int .i64 0) := (hC1.cell (p := ⟨w.heap.size + 1, 3, none⟩) (by first | omega | (simp; done) | (simp; omega))).trans (cellNew (by simp) rfl)
  have r4 : w1.cell? ⟨w.heap.size + 1, 4, none⟩ = some (.int .i64 0) := (hC1.cell (p := ⟨w.heap.size + 1, 4, none⟩) (by first | omega | (simp; done) | (simp; omega))).trans (cellNew (by simp) rfl)
  have r5 : w1.cell? ⟨w.heap.size + 1, 5, none⟩ = some (.int .i64 0) := (hC1.cell (p := ⟨w.heap.size + 1, 5, none⟩) (by first | omega | (simp; done) | (simp; omega))).trans (cellNew (by simp) rfl)
  have r6 : w1.cell? ⟨w.heap.size + 1, 6, none⟩ = some (.int .i64 0) := (hC1.cell (p := ⟨w.heap.size + 1, 6, none⟩) (by first | omega | (simp; done) | (simp; omega))).trans (cellNew (by simp) rfl)
  have mm : ∀ o, w1.frozen? ⟨w.heap.size + 1, o, none⟩ = false := by intro o; rw [hC1.frozen (p := ⟨w.heap.size + 1, o, none⟩) (by first | omega | (simp; done) | (simp; omega)), frozen?_alloc_cells, frozen?_alloc_cells]; simp [World.frozen?]
  clear hb1 hC1
  go_wp2_with fail
  refine (SET.out _ hB1).mono ?_
  rintro e w2 hp2
  obtain ⟨a2, m2, cap2, rfl, ho2, hb2⟩ := hp2.open
  clear hp2
  have z2 : w.heap.size < w2.heap.size := by have := hb2.size; omega
  have z2' : w.heap.size + 1 < w2.heap.size := by have := hb2.size; omega
  have hB2 : Below w.heap.size w w2 := hB1.trans (hb2.mono (by omega))
  have q0 := (hb2.cell (p := ⟨w.heap.size, 0, none⟩) z1).trans q0
  have q1 := (hb2.cell (p := ⟨w.heap.size, 1, none⟩) z1).trans q1
  have q2 := (hb2.cell (p := ⟨w.heap.size, 2, none⟩) z1).trans q2
  have r0 := (hb2.cell (p := ⟨w.heap.size + 1, 0, none⟩) z1').trans r0
  have r1 := (hb2.cell (p := ⟨w.heap.size + 1, 1, none⟩) z1').trans r1
  have r2 := (hb2.cell (p := ⟨w.heap.size + 1, 2, none⟩) z1').trans r2
  have r3 := (hb2.cell (p := ⟨w.heap.size + 1, 3, none⟩) z1').trans r3
  have r4 := (hb2.cell (p := ⟨w.heap.size + 1, 4, none⟩) z1').trans r4
  have r5 := (hb2.cell (p := ⟨w.heap.size + 1, 5, none⟩) z1').trans r5
  have r6 := (hb2.cell (p := ⟨w.heap.size + 1, 6, none⟩) z1').trans r6
  have mm := fun o => (hb2.frozen (p := ⟨w.heap.size + 1, o, none⟩) z1').trans (mm o)
  clear hb2 hB1
  have ho2 : Own 25 .u32 w2 w1.heap.size (.slice a2 m2 cap2) vs := ho2
  have hm : m2 = vs.length := by obtain ⟨a', c', h⟩ := ho2.anyForm; cases h; rfl
  subst hm
  have hs2 := HS.out.below hB2
  go_wp2_with fail
  refine (callSaidYes t p s u _ a len cap ws num hs2 HO.out h0 h1).mono ?_
  rw [SV.out]
  rintro e w3 ⟨rfl, hb3⟩
  have z3 : w.heap.size < w3.heap.size := by have := hb3.size; omega
  have z3' : w.heap.size + 1 < w3.heap.size := by have := hb3.size; omega
  have hB3 : Below w.heap.size w w3 := hB2.trans (hb3.mono (by omega))
  have q0 := (hb3.cell (p := ⟨w.heap.size, 0, none⟩) z2).trans q0
  have q1 := (hb3.cell (p := ⟨w.heap.size, 1, none⟩) z2).trans q1
  have q2 := (hb3.cell (p := ⟨w.heap.size, 2, none⟩) z2).trans q2
  have r0 := (hb3.cell (p := ⟨w.heap.size + 1, 0, none⟩) z2').trans r0
  have r1 := (hb3.cell (p := ⟨w.heap.size + 1, 1, none⟩) z2').trans r1
  have r2 := (hb3.cell (p := ⟨w.heap.size + 1, 2, none⟩) z2').trans r2
  have r3 := (hb3.cell (p := ⟨w.heap.size + 1, 3, none⟩) z2').trans r3
  have r4 := (hb3.cell (p := ⟨w.heap.size + 1, 4, none⟩) z2').trans r4
  have r5 := (hb3.cell (p := ⟨w.heap.size + 1, 5, none⟩) z2').trans r5
  have r6 := (hb3.cell (p := ⟨w.heap.size + 1, 6, none⟩) z2').trans r6
  have mm := fun o => (hb3.frozen (p := ⟨w.heap.size + 1, o, none⟩) z2').trans (mm o)
  have ho3 := (ho2.kept hb3 (Nat.le_refl _)).kept (B := w3.heap.size) ((Below.refl _ _).alloc (Nat.le_refl _) (.cells #[.int .i64 ok, .int .i64 oa, .int .i64 ob] 55)) (Nat.le_refl _)
  clear hb3 ho2 hs2 hB2
  go_wp2_with fail
  refine (callDone t p s u _ a2 _ cap2 vs ho3.seen HF.out HO.out.1 HV.out h0 h1).mono ?_
  rintro e w4 ⟨rfl, hb4⟩
  have hC4 : Below (w3.heap.size + 1) (w3.alloc (.cells #[.int .i64 ok, .int .i64 oa, .int .i64 ob] 55)) w4 := hb4.mono (by simp)
  have z4 : w.heap.size < w4.heap.size := by have := hC4.size; simp at this; omega
  have z4' : w.heap.size + 1 < w4.heap.size := by have := hC4.size; simp at this; omega
  have z4'' : w3.heap.size < w4.heap.size := by have := hC4.size; simp at this; omega
  have hB4 : Below w.heap.size w w4 := (hB3.alloc (by omega) _).trans (hC4.mono (by omega))
  have q0 := (hC4.cell (p := ⟨w.heap.size, 0, none⟩) (by show w.heap.size < w3.heap.size + 1; omega)).trans (cellOld (by omega) q0)
  have q1 := (hC4.cell (p := ⟨w.heap.size, 1, none⟩) (by show w.heap.size < w3.heap.size + 1; omega)).trans (cellOld (by omega) q1)
  have q2 := (hC4.cell (p := ⟨w.heap.size, 2, none⟩) (by show w.heap.size < w3.heap.size + 1; omega)).trans (cellOld (by omega) q2)
  have r0 := (hC4.cell (p := ⟨w.heap.size + 1, 0, none⟩) (by show w.heap.size + 1 < w3.heap.size + 1; omega)).trans (cellOld (by omega) r0)
  have r1 := (hC4.cell (p := ⟨w.heap.size + 1, 1, none⟩) (by show w.heap.size + 1 < w3.heap.size + 1; omega)).trans (cellOld (by omega) r1)
  have r2 := (hC4.cell (p := ⟨w.heap.size + 1, 2, none⟩) (by show w.heap.size + 1 < w3.heap.size + 1; omega)).trans (cellOld (by omega) r2)
  have r3 := (hC4.cell (p := ⟨w.heap.size + 1, 3, none⟩) (by show w.heap.size + 1 < w3.heap.size + 1; omega)).trans (cellOld (by omega) r3)
  have r4 := (hC4.cell (p := ⟨w.heap.size + 1, 4, none⟩) (by show w.heap.size + 1 < w3.heap.size + 1; omega)).trans (cellOld (by omega) r4)
  have r5 := (hC4.cell (p := ⟨w.heap.size + 1, 5, none⟩) (by show w.heap.size + 1 < w3.heap.size + 1; omega)).trans (cellOld (by omega) r5)
  have r6 := (hC4.cell (p := ⟨w.heap.size + 1, 6, none⟩) (by show w.heap.size + 1 < w3.heap.size + 1; omega)).trans (cellOld (by omega) r6)
  have mm := fun o => (hC4.frozen (p := ⟨w.heap.size + 1, o, none⟩) (by show w.heap.size + 1 < w3.heap.size + 1; omega)).trans ((frozen?_alloc_cells _ _ _ _).trans (mm o))
  have o0 : w4.cell? ⟨w3.heap.size, 0, none⟩ = some (.int .i64 ok) := (hC4.cell (p := ⟨w3.heap.size, 0, none⟩) (Nat.lt_succ_self _)).trans (cellNew rfl rfl)
  have o1 : w4.cell? ⟨w3.heap.size, 1, none⟩ = some (.int .i64 oa) := (hC4.cell (p := ⟨w3.heap.size, 1, none⟩) (Nat.lt_succ_self _)).trans (cellNew rfl rfl)
  have o2 : w4.cell? ⟨w3.heap.size, 2, none⟩ = some (.int .i64 ob) := (hC4.cell (p := ⟨w3.heap.size, 2, none⟩) (Nat.lt_succ_self _)).trans (cellNew rfl rfl)
  clear hb4 hC4 ho3 hB3
  generalize hd0 : dvN u vs 0 = d0 at *
  have E0 := hid hd0
  clear hd0
  generalize hd1 : dvN u vs 1 = d1 at *
  have E1 := hid hd1
  clear hd1
  generalize hd2 : dvN u vs 2 = d2 at *
  have E2 := hid hd2
  clear hd2
  generalize hd3 : dvN u vs 3 = d3 at *
  have E3 := hid hd3
  clear hd3
  go_wp2_with fail
  exact bodyPost_ret (v := .agg #[.int .i64 1, .int .i64 ok, .int .i64 oa, .int .i64 ob, .int .i64 0, .int .i64 0, .int .i64 0]) (by simp [results, Try.results31, go_sem, r0, r1, r2, r3, r4, r5, r6, z4, z4']) rfl ⟨rfl, (((((((hB4.setCell (by show w.heap.size ≤ w.heap.size + 1; omega) _).setCell (by show w.heap.size ≤ w.heap.size + 1; omega) _).setCell (by show w.heap.size ≤ w.heap.size + 1; omega) _).setCell (by show w.heap.size ≤ w.heap.size + 1; omega) _).setCell (by show w.heap.size ≤ w.heap.size + 1; omega) _).setCell (by show w.heap.size ≤ w.heap.size + 1; omega) _).setCell (by show w.heap.size ≤ w.heap.size + 1; omega) _).alloc (by simp; omega) _⟩

set_option maxRecDepth 100000 in
set_option maxHeartbeats 3200000 in
theorem callResolveDone (t p s u : Int) (w : World) (a : Option Addr) (len cap : Nat) (ws : List Nat) (num : Int) (vs : List Nat) (ok oa ob : Int) (oc : Bool) (SET : RowKit.Hid (∀ w', Below w.heap.size w w' → Calls Try.prog 18 #[.agg #[.int .i64 t, .int .i64 p, .int .i64 s], .slice a len cap] w' (OptPost 25 .u32 w' (some vs)))) (hs : Seen .u64 w a len cap ws) (ho : okW t p s len) (h0 : 0 ≤ u) (h1 : u < t) (hn : 1 ≤ num) (hl : num = (lastN t p u ws : Int))
    (hv : (vs.length : Int) = cellsN t p) (hf : Fit 4294967296 vs) (hsv : saidV t p u ws num = .tuple #[.agg #[.int .i64 ok, .int .i64 oa, .int .i64 ob], .bool oc]) (hd : (dvN u vs 0 : Int) = num) :
    Calls Try.prog 31 #[.agg #[.int .i64 t, .int .i64 p, .int .i64 s], .slice a len cap, .int .i64 u, .int .i64 num] w fun e w' => e = .returned (.agg #[.int .i64 2, .int .i64 ok, .int .i64 oa, .int .i64 ob, .int .i64 (dvN u vs 1 : Int), .int .i64 (dvN u vs 2 : Int), .int .i64 (dvN u vs 3 : Int)]) ∧ Below w.heap.size w w' := by
  have HS := hid hs
  have HO := hid ho
  have HV := hid hv
  have HF := hid hf
  have SV := hid hsv
  have dn : (num != (lastN t p u ws : Int)) = false := by rw [bne_eq_false_iff_eq]; exact hl
  have g2 : decide (num < 1) = false := by simp; omega
  have dd : ((dvN u vs 0 : Int) != num) = false := by rw [bne_eq_false_iff_eq]; exact hd
  clear hs ho hv hf hsv hl hd
  go_enter Try.func31, Try.ntmps31
  go_wp2_with fail
  refine (callLastYes t p s u _ a len cap ws (HS.out.below bel) HO.out h0 h1).mono ?_
  rintro e w1 ⟨rfl, hb1⟩
  have hC1 : Below (w.heap.size + 2) ((w.alloc (.cells #[.int .i64 t, .int .i64 p, .int .i64 s] 23)).alloc (.cells #[.int .i64 0, .int .i64 0, .int .i64 0, .int .i64 0, .int .i64 0, .int .i64 0, .int .i64 0] 68)) w1 := hb1.mono (by simp)
  have z1 : w.heap.size < w1.heap.size := by have := hb1.size; simp at this; omega
  have z1' : w.heap.size + 1 < w1.heap.size := by have := hb1.size; simp at this; omega
  have hB1 : Below w.heap.size w w1 := bel
  have q0 : w1.cell? ⟨w.heap.size, 0, none⟩ = some (.int .i64 t) := (hC1.cell (p := ⟨w.heap.size, 0, none⟩) (by first | omega | (simp; done) | (simp; omega))).trans (cellOld (by simp) (cellNew rfl rfl))
  have q1 : w1.cell? ⟨w.heap.size, 1, none⟩ = some (.int .i64 p) := (hC1.cell (p := ⟨w.heap.size, 1, none⟩) (by first | omega | (simp; done) | (simp; omega))).trans (cellOld (by simp) (cellNew rfl rfl))
  have q2 : w1.cell? ⟨w.heap.size, 2, none⟩ = some (.int .i64 s) := (hC1.cell (p := ⟨w.heap.size, 2, none⟩) (by first | omega | (simp; done) | (simp; omega))).trans (cellOld (by simp) (cellNew rfl rfl))
  have r0 : w1.cell? ⟨w.heap.size + 1, 0, none⟩ = some (.int .i64 0) := (hC1.cell (p := ⟨w.heap.size + 1, 0, none⟩) (by first | omega | (simp; done) | (simp; omega))).trans (cellNew (by simp) rfl)
  have r1 : w1.cell? ⟨w.heap.size + 1, 1, none⟩ = some (.int .i64 0) := (hC1.cell (p := ⟨w.heap.size + 1, 1, none⟩) (by first | omega | (simp; done) | (simp; omega))).trans (cellNew (by simp) rfl)
  have r2 : w1.cell? ⟨w.heap.size + 1, 2, none⟩ = some (.int .i64 0) := (hC1.cell (p := ⟨w.heap.size + 1, 2, none⟩) (by first | omega | (simp; done) | (simp; omega))).trans (cellNew (by simp) rfl)
  have r3 : w1.cell? ⟨w.heap.size + 1, 3, none⟩ = some (.int .i64 0) := (hC1.cell (p := ⟨w.heap.size + 1, 3, none⟩) (by first | omega | (simp; done) | (simp; omega))).trans (cellNew (by simp) rfl)
  have r4 : w1.cell? ⟨w.heap.size + 1, 4, none⟩ = some (.int .i64 0) := (hC1.cell (p := ⟨w.heap.size + 1, 4, none⟩) (by first | omega | (simp; done) | (simp; omega))).trans (cellNew (by simp) rfl)
  have r5 : w1.cell? ⟨w.heap.size + 1, 5, none⟩ = some (.int .i64 0) := (hC1.cell (p := ⟨w.heap.size + 1, 5, none⟩) (by first | omega | (simp; done) | (simp; omega))).trans (cellNew (by simp) rfl)
  have r6 : w1.cell? ⟨w.heap.size + 1, 6, none⟩ = some (.int .i64 0) := (hC1.cell (p := ⟨w.heap.size + 1, 6, none⟩) (by first | omega | (simp; done) | (simp; omega))).trans (cellNew (by simp) rfl)
  have mm : ∀ o, w1.frozen? ⟨w.heap.size + 1, o, none⟩ = false := by intro o; rw [hC1.frozen (p := ⟨w.heap.size + 1, o, none⟩) (by first | omega | (simp; done) | (simp; omega)), frozen?_alloc_cells, frozen?_alloc_cells]; simp [World.frozen?]
  clear hb1 hC1
  go_wp2_with fail
  refine (SET.out _ hB1).mono ?_
  rintro e w2 hp2
  obtain ⟨a2, m2, cap2, rfl, ho2, hb2⟩ := hp2.open
  clear hp2
  have z2 : w.heap.size < w2.heap.size := by have := hb2.size; omega
  have z2' : w.heap.size + 1 < w2.heap.size := by have := hb2.size; omega
  have hB2 : Below w.heap.size w w2 := hB1.trans (hb2.mono (by omega))
  have q0 := (hb2.cell (p := ⟨w.heap.size, 0, none⟩) z1).trans q0
  have q1 := (hb2.cell (p := ⟨w.heap.size, 1, none⟩) z1).trans q1
  have q2 := (hb2.cell (p := ⟨w.heap.size, 2, none⟩) z1).trans q2
  have r0 := (hb2.cell (p := ⟨w.heap.size + 1, 0, none⟩) z1').trans r0
  have r1 := (hb2.cell (p := ⟨w.heap.size + 1, 1, none⟩) z1').trans r1
  have r2 := (hb2.cell (p := ⟨w.heap.size + 1, 2, none⟩) z1').trans r2
  have r3 := (hb2.cell (p := ⟨w.heap.size + 1, 3, none⟩) z1').trans r3
  have r4 := (hb2.cell (p := ⟨w.heap.size + 1, 4, none⟩) z1').trans r4
  have r5 := (hb2.cell (p := ⟨w.heap.size + 1, 5, none⟩) z1').trans r5
  have r6 := (hb2.cell (p := ⟨w.heap.size + 1, 6, none⟩) z1').trans r6
  have mm := fun o => (hb2.frozen (p := ⟨w.heap.size + 1, o, none⟩) z1').trans (mm o)
  clear hb2 hB1
  have ho2 : Own 25 .u32 w2 w1.heap.size (.slice a2 m2 cap2) vs := ho2
  have hm : m2 = vs.length := by obtain ⟨a', c', h⟩ := ho2.anyForm; cases h; rfl
  subst hm
  have hs2 := HS.out.below hB2
  go_wp2_with fail
  refine (callSaidYes t p s u _ a len cap ws num hs2 HO.out h0 h1).mono ?_
  rw [SV.out]
  rintro e w3 ⟨rfl, hb3⟩
  have z3 : w.heap.size < w3.heap.size := by have := hb3.size; omega
  have z3' : w.heap.size + 1 < w3.heap.size := by have := hb3.size; omega
  have hB3 : Below w.heap.size w w3 := hB2.trans (hb3.mono (by omega))
  have q0 := (hb3.cell (p := ⟨w.heap.size, 0, none⟩) z2).trans q0
  have q1 := (hb3.cell (p := ⟨w.heap.size, 1, none⟩) z2).trans q1
  have q2 := (hb3.cell (p := ⟨w.heap.size, 2, none⟩) z2).trans q2
  have r0 := (hb3.cell (p := ⟨w.heap.size + 1, 0, none⟩) z2').trans r0
  have r1 := (hb3.cell (p := ⟨w.heap.size + 1, 1, none⟩) z2').trans r1
  have r2 := (hb3.cell (p := ⟨w.heap.size + 1, 2, none⟩) z2').trans r2
  have r3 := (hb3.cell (p := ⟨w.heap.size + 1, 3, none⟩) z2').trans r3
  have r4 := (hb3.cell (p := ⟨w.heap.size + 1, 4, none⟩) z2').trans r4
  have r5 := (hb3.cell (p := ⟨w.heap.size + 1, 5, none⟩) z2').trans r5
  have r6 := (hb3.cell (p := ⟨w.heap.size + 1, 6, none⟩) z2').trans r6
  have mm := fun o => (hb3.frozen (p := ⟨w.heap.size + 1, o, none⟩) z2').trans (mm o)
  have ho3 := (ho2.kept hb3 (Nat.le_refl _)).kept (B := w3.heap.size) ((Below.refl _ _).alloc (Nat.le_refl _) (.cells #[.int .i64 ok, .int .i64 oa, .int .i64 ob] 55)) (Nat.le_refl _)
  clear hb3 ho2 hs2 hB2
  go_wp2_with fail
  refine (callDone t p s u _ a2 _ cap2 vs ho3.seen HF.out HO.out.1 HV.out h0 h1).mono ?_
  rintro e w4 ⟨rfl, hb4⟩
  have hC4 : Below (w3.heap.size + 1) (w3.alloc (.cells #[.int .i64 ok, .int .i64 oa, .int .i64 ob] 55)) w4 := hb4.mono (by simp)
  have z4 : w.heap.size < w4.heap.size := by have := hC4.size; simp at this; omega
  have z4' : w.heap.size + 1 < w4.heap.size := by have := hC4.size; simp at this; omega
  have z4'' : w3.heap.size < w4.heap.size := by have := hC4.size; simp at this; omega
  have hB4 : Below w.heap.size w w4 := (hB3.alloc (by omega) _).trans (hC4.mono (by omega))
  have q0 := (hC4.cell (p := ⟨w.heap.size, 0, none⟩) (by show w.heap.size < w3.heap.size + 1; omega)).trans (cellOld (by omega) q0)
  have q1 := (hC4.cell (p := ⟨w.heap.size, 1, none⟩) (by show w.heap.size < w3.heap.size + 1; omega)).trans (cellOld (by omega) q1)
  have q2 := (hC4.cell (p := ⟨w.heap.size, 2, none⟩) (by show w.heap.size < w3.heap.size + 1; omega)).trans (cellOld (by omega) q2)
  have r0 := (hC4.cell (p := ⟨w.heap.size + 1, 0, none⟩) (by show w.heap.size + 1 < w3.heap.size + 1; omega)).trans (cellOld (by omega) r0)
  have r1 := (hC4.cell (p := ⟨w.heap.size + 1, 1, none⟩) (by show w.heap.size + 1 < w3.heap.size + 1; omega)).trans (cellOld (by omega) r1)
  have r2 := (hC4.cell (p := ⟨w.heap.size + 1, 2, none⟩) (by show w.heap.size + 1 < w3.heap.size + 1; omega)).trans (cellOld (by omega) r2)
  have r3 := (hC4.cell (p := ⟨w.heap.size + 1, 3, none⟩) (by show w.heap.size + 1 < w3.heap.size + 1; omega)).trans (cellOld (by omega) r3)
  have r4 := (hC4.cell (p := ⟨w.heap.size + 1, 4, none⟩) (by show w.heap.size + 1 < w3.heap.size + 1; omega)).trans (cellOld (by omega) r4)
  have r5 := (hC4.cell (p := ⟨w.heap.size + 1, 5, none⟩) (by show w.heap.size + 1 < w3.heap.size + 1; omega)).trans (cellOld (by omega) r5)
  have r6 := (hC4.cell (p := ⟨w.heap.size + 1, 6, none⟩) (by show w.heap.size + 1 < w3.heap.size + 1; omega)).trans (cellOld (by omega) r6)
  have mm := fun o => (hC4.frozen (p := ⟨w.heap.size + 1, o, none⟩) (by show w.heap.size + 1 < w3.heap.size + 1; omega)).trans ((frozen?_alloc_cells _ _ _ _).trans (mm o))
  have o0 : w4.cell? ⟨w3.heap.size, 0, none⟩ = some (.int .i64 ok) := (hC4.cell (p := ⟨w3.heap.size, 0, none⟩) (Nat.lt_succ_self _)).trans (cellNew rfl rfl)
  have o1 : w4.cell? ⟨w3.heap.size, 1, none⟩ = some (.int .i64 oa) := (hC4.cell (p := ⟨w3.heap.size, 1, none⟩) (Nat.lt_succ_self _)).trans (cellNew rfl rfl)
  have o2 : w4.cell? ⟨w3.heap.size, 2, none⟩ = some (.int .i64 ob) := (hC4.cell (p := ⟨w3.heap.size, 2, none⟩) (Nat.lt_succ_self _)).trans (cellNew rfl rfl)
  clear hb4 hC4 ho3 hB3
  generalize hd0 : dvN u vs 0 = d0 at *
  have E0 := hid hd0
  clear hd0
  generalize hd1 : dvN u vs 1 = d1 at *
  have E1 := hid hd1
  clear hd1
  generalize hd2 : dvN u vs 2 = d2 at *
  have E2 := hid hd2
  clear hd2
  generalize hd3 : dvN u vs 3 = d3 at *
  have E3 := hid hd3
  clear hd3
  go_wp2_with fail
  exact bodyPost_ret (v := .agg #[.int .i64 2, .int .i64 ok, .int .i64 oa, .int .i64 ob, .int .i64 (d1 : Int), .int .i64 (d2 : Int), .int .i64 (d3 : Int)]) (by simp [results, Try.results31, go_sem, r0, r1, r2, r3, r4, r5, r6, z4, z4']) rfl ⟨by rw [E1.out, E2.out, E3.out], (((((((hB4.setCell (by show w.heap.size ≤ w.heap.size + 1; omega) _).setCell (by show w.heap.size ≤ w.heap.size + 1; omega) _).setCell (by show w.heap.size ≤ w.heap.size + 1; omega) _).setCell (by show w.heap.size ≤ w.heap.size + 1; omega) _).setCell (by show w.heap.size ≤ w.heap.size + 1; omega) _).setCell (by show w.heap.size ≤ w.heap.size + 1; omega) _).setCell (by show w.heap.size ≤ w.heap.size + 1; omega) _).alloc (by simp; omega) _⟩

end Go.Proofs.Ytkkhoiahjmfibaa
