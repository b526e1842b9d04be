/- The walks of package call: the last call, what was said. -/
import Derived.Test.YtkkhoiahjmfibaaCall
import Derived.LoopN
namespace Go.Proofs.Ytkkhoiahjmfibaa
open Go.RowKit
set_option linter.unusedVariables false
set_option linter.unusedSimpArgs false

def n0N (t p u : Int) (ws : List Nat) : Nat := numX (cwN t p u ws 0)
def n1N (t p u : Int) (ws : List Nat) : Nat := numX (cwN t p u ws 8)
/-- A thread's last call, and its number. -/
def lastB (t p u : Int) (ws : List Nat) : Nat := if n1N t p u ws < n0N t p u ws then 0 else 1
def lastN (t p u : Int) (ws : List Nat) : Nat := if n1N t p u ws < n0N t p u ws then n0N t p u ws else n1N t p u ws
def saidV (t p u : Int) (ws : List Nat) (num : Int) : Value :=
  if num < 1 then .tuple #[.agg #[.int .i64 0, .int .i64 0, .int .i64 0], .bool false]
  else if (n1N t p u ws : Int) = num then ofWords (cwN t p u ws 9) (cwN t p u ws 10) (cwN t p u ws 11)
  else if (n0N t p u ws : Int) = num then ofWords (cwN t p u ws 1) (cwN t p u ws 2) (cwN t p u ws 3)
  else .tuple #[.agg #[.int .i64 0, .int .i64 0, .int .i64 0], .bool false]
theorem ofForm3 (x y z : Int) : ∃ k a b c, ofWords x y z = .tuple #[.agg #[.int .i64 k, .int .i64 a, .int .i64 b], .bool c] := by
  unfold ofWords
  split
  · exact ⟨_, _, _, _, rfl⟩
  · exact ⟨_, _, _, _, rfl⟩

theorem callLastNo (t p s u : Int) (w : World) (a : Option Addr) (len cap : Nat) (ws : List Nat) (hl : len ≤ cap ∧ cap ≤ maxLen) (h : ¬ (okW t p s len ∧ 0 ≤ u ∧ u < t)) :
    Calls Try.prog 25 #[.agg #[.int .i64 t, .int .i64 p, .int .i64 s], .slice a len cap, .int .i64 u] w fun e w' => e = .returned (.tuple #[.int .i64 0, .int .i64 0, .bool false]) ∧ Below w.heap.size w w' := by
  have H := hid h
  have HL := hid hl
  clear h hl
  go_enter Try.func25, Try.ntmps25
  go_wp2_with fail
  refine (callOfNo t p s u _ a len cap ws HL.out H.out).mono ?_
  rintro e w1 ⟨rfl, hb1⟩
  have z1 : w.heap.size < w1.heap.size := by have := hb1.size; simp at this; omega
  go_wp2_with fail
  exact bodyPost_ret (v := .tuple #[.int .i64 0, .int .i64 0, .bool false]) (by simp [results, Try.results25, go_sem]) rfl ⟨rfl, bel⟩

set_option maxRecDepth 100000 in
set_option maxHeartbeats 1600000 in
theorem callLastYes (t p s u : Int) (w : World) (a : Option Addr) (len cap : Nat) (ws : List Nat) (hs : Seen .u64 w a len cap ws) (ho : okW t p s len) (h0 : 0 ≤ u) (h1 : u < t) :
    Calls Try.prog 25 #[.agg #[.int .i64 t, .int .i64 p, .int .i64 s], .slice a len cap, .int .i64 u] w fun e w' => e = .returned (.tuple #[.int .i64 (lastN t p u ws : Int), .int .i64 (lastB t p u ws : Int), .bool true]) ∧ Below w.heap.size w w' := by
  have HS := hid hs
  have HO := hid ho
  have hq := extCell
  clear hs ho
  by_cases hlt : n1N t p u ws < n0N t p u ws
  · have LN := hid (show lastN t p u ws = n0N t p u ws by rw [lastN, if_pos hlt])
    have LB := hid (show lastB t p u ws = 0 by rw [lastB, if_pos hlt])
    have d : decide (numX (cwN t p u ws 8) < numX (cwN t p u ws 0)) = true := by simpa [n0N, n1N] using hlt
    rw [n0N] at LN
    clear hlt
    go_enter Try.func25, Try.ntmps25
    go_wp2_with fail
    refine (callOfYes t p s u _ a len cap ws (HS.out.below bel) HO.out h0 h1).mono ?_
    rintro e w1 ⟨rfl, hb1⟩
    have z1 : w.heap.size < w1.heap.size := by have := hb1.size; simp at this; omega
    have hB1 : Below w.heap.size w w1 := bel
    clear hb1
    generalize cwN t p u ws 0 = x0 at *
    generalize cwN t p u ws 1 = x1 at *
    generalize cwN t p u ws 2 = x2 at *
    generalize cwN t p u ws 3 = x3 at *
    generalize cwN t p u ws 8 = y0 at *
    generalize cwN t p u ws 9 = y1 at *
    generalize cwN t p u ws 10 = y2 at *
    generalize cwN t p u ws 11 = y3 at *
    go_wp2_with fail
    obtain ⟨w2, hw2⟩ : ∃ x : World, x = w1.alloc (.cells #[.int .u64 (x0 : Int), .int .u64 (x1 : Int), .int .u64 (x2 : Int), .int .u64 (x3 : Int), .int .u64 (y0 : Int), .int .u64 (y1 : Int), .int .u64 (y2 : Int), .int .u64 (y3 : Int)] 95) := ⟨_, rfl⟩
    have e0 : w2.cell? ⟨w1.heap.size, 0, none⟩ = some (.int .u64 (x0 : Int)) := by rw [hw2]; exact cellNew rfl rfl
    have e1 : w2.cell? ⟨w1.heap.size, 1, none⟩ = some (.int .u64 (x1 : Int)) := by rw [hw2]; exact cellNew rfl rfl
    have e2 : w2.cell? ⟨w1.heap.size, 2, none⟩ = some (.int .u64 (x2 : Int)) := by rw [hw2]; exact cellNew rfl rfl
    have e3 : w2.cell? ⟨w1.heap.size, 3, none⟩ = some (.int .u64 (x3 : Int)) := by rw [hw2]; exact cellNew rfl rfl
    have e4 : w2.cell? ⟨w1.heap.size, 4, none⟩ = some (.int .u64 (y0 : Int)) := by rw [hw2]; exact cellNew rfl rfl
    have e5 : w2.cell? ⟨w1.heap.size, 5, none⟩ = some (.int .u64 (y1 : Int)) := by rw [hw2]; exact cellNew rfl rfl
    have e6 : w2.cell? ⟨w1.heap.size, 6, none⟩ = some (.int .u64 (y2 : Int)) := by rw [hw2]; exact cellNew rfl rfl
    have e7 : w2.cell? ⟨w1.heap.size, 7, none⟩ = some (.int .u64 (y3 : Int)) := by rw [hw2]; exact cellNew rfl rfl
    have z2 : w1.heap.size < w2.heap.size := by rw [hw2]; simp
    have hB2 : Below w.heap.size w w2 := by rw [hw2]; exact hB1.alloc (by omega) _
    rw [← hw2]
    clear hw2 hB1
    refine regionBelow (by kernel_rfl) (by kernel_rfl) ?_
    repeat (go_big_quiet_step ((go_at_call 61; exact quietBelow (callNum _ _ _ _ _))))
    refine wpQuiet_nil ?_
    intro _ hw'
    obtain ⟨nq, hw''⟩ := hw'
    subst hw''
    have hn2 := nq.below
    have e0 := (hn2.cell (p := ⟨w1.heap.size, 0, none⟩) z2).trans e0
    have e1 := (hn2.cell (p := ⟨w1.heap.size, 1, none⟩) z2).trans e1
    have e2 := (hn2.cell (p := ⟨w1.heap.size, 2, none⟩) z2).trans e2
    have e3 := (hn2.cell (p := ⟨w1.heap.size, 3, none⟩) z2).trans e3
    have e4 := (hn2.cell (p := ⟨w1.heap.size, 4, none⟩) z2).trans e4
    have e5 := (hn2.cell (p := ⟨w1.heap.size, 5, none⟩) z2).trans e5
    have e6 := (hn2.cell (p := ⟨w1.heap.size, 6, none⟩) z2).trans e6
    have e7 := (hn2.cell (p := ⟨w1.heap.size, 7, none⟩) z2).trans e7
    have hB3 : Below w.heap.size w nq.to := hB2.trans (hn2.mono (by omega))
    have z3 : w1.heap.size < nq.to.heap.size := by have := hn2.size; omega
    clear hn2 hB2
    go_wp2_with fail
    refine (callNum x0 x1 x2 x3 _).mono ?_
    rintro e w5 ⟨rfl, hb5⟩
    have hB5 : Below w.heap.size w w5 := hB3.trans (hb5.mono (by omega))
    clear hb5
    go_wp2_with fail
    exact bodyPost_ret (v := .tuple #[.int .i64 (numX x0 : Int), .int .i64 0, .bool true]) (by simp [results, Try.results25, go_sem]) rfl ⟨by rw [LN.out, LB.out]; rfl, hB5⟩
  · have LN := hid (show lastN t p u ws = n1N t p u ws by rw [lastN, if_neg hlt])
    have LB := hid (show lastB t p u ws = 1 by rw [lastB, if_neg hlt])
    have d : decide (numX (cwN t p u ws 8) < numX (cwN t p u ws 0)) = false := by simpa [n0N, n1N] using hlt
    rw [n1N] at LN
    clear hlt
    go_enter Try.func25, Try.ntmps25
    go_wp2_with fail
    refine (callOfYes t p s u _ a len cap ws (HS.out.below bel) HO.out h0 h1).mono ?_
    rintro e w1 ⟨rfl, hb1⟩
    have z1 : w.heap.size < w1.heap.size := by have := hb1.size; simp at this; omega
    have hB1 : Below w.heap.size w w1 := bel
    clear hb1
    generalize cwN t p u ws 0 = x0 at *
    generalize cwN t p u ws 1 = x1 at *
    generalize cwN t p u ws 2 = x2 at *
    generalize cwN t p u ws 3 = x3 at *
    generalize cwN t p u ws 8 = y0 at *
    generalize cwN t p u ws 9 = y1 at *
    generalize cwN t p u ws 10 = y2 at *
    generalize cwN t p u ws 11 = y3 at *
    go_wp2_with fail
    obtain ⟨w2, hw2⟩ : ∃ x : World, x = w1.alloc (.cells #[.int .u64 (x0 : Int), .int .u64 (x1 : Int), .int .u64 (x2 : Int), .int .u64 (x3 : Int), .int .u64 (y0 : Int), .int .u64 (y1 : Int), .int .u64 (y2 : Int), .int .u64 (y3 : Int)] 95) := ⟨_, rfl⟩
    have e0 : w2.cell? ⟨w1.heap.size, 0, none⟩ = some (.int .u64 (x0 : Int)) := by rw [hw2]; exact cellNew rfl rfl
    have e1 : w2.cell? ⟨w1.heap.size, 1, none⟩ = some (.int .u64 (x1 : Int)) := by rw [hw2]; exact cellNew rfl rfl
    have e2 : w2.cell? ⟨w1.heap.size, 2, none⟩ = some (.int .u64 (x2 : Int)) := by rw [hw2]; exact cellNew rfl rfl
    have e3 : w2.cell? ⟨w1.heap.size, 3, none⟩ = some (.int .u64 (x3 : Int)) := by rw [hw2]; exact cellNew rfl rfl
    have e4 : w2.cell? ⟨w1.heap.size, 4, none⟩ = some (.int .u64 (y0 : Int)) := by rw [hw2]; exact cellNew rfl rfl
    have e5 : w2.cell? ⟨w1.heap.size, 5, none⟩ = some (.int .u64 (y1 : Int)) := by rw [hw2]; exact cellNew rfl rfl
    have e6 : w2.cell? ⟨w1.heap.size, 6, none⟩ = some (.int .u64 (y2 : Int)) := by rw [hw2]; exact cellNew rfl rfl
    have e7 : w2.cell? ⟨w1.heap.size, 7, none⟩ = some (.int .u64 (y3 : Int)) := by rw [hw2]; exact cellNew rfl rfl
    have z2 : w1.heap.size < w2.heap.size := by rw [hw2]; simp
    have hB2 : Below w.heap.size w w2 := by rw [hw2]; exact hB1.alloc (by omega) _
    rw [← hw2]
    clear hw2 hB1
    refine regionBelow (by kernel_rfl) (by kernel_rfl) ?_
    repeat (go_big_quiet_step ((go_at_call 61; exact quietBelow (callNum _ _ _ _ _))))
    refine wpQuiet_nil ?_
    intro _ hw'
    obtain ⟨nq, hw''⟩ := hw'
    subst hw''
    have hn2 := nq.below
    have e0 := (hn2.cell (p := ⟨w1.heap.size, 0, none⟩) z2).trans e0
    have e1 := (hn2.cell (p := ⟨w1.heap.size, 1, none⟩) z2).trans e1
    have e2 := (hn2.cell (p := ⟨w1.heap.size, 2, none⟩) z2).trans e2
    have e3 := (hn2.cell (p := ⟨w1.heap.size, 3, none⟩) z2).trans e3
    have e4 := (hn2.cell (p := ⟨w1.heap.size, 4, none⟩) z2).trans e4
    have e5 := (hn2.cell (p := ⟨w1.heap.size, 5, none⟩) z2).trans e5
    have e6 := (hn2.cell (p := ⟨w1.heap.size, 6, none⟩) z2).trans e6
    have e7 := (hn2.cell (p := ⟨w1.heap.size, 7, none⟩) z2).trans e7
    have hB3 : Below w.heap.size w nq.to := hB2.trans (hn2.mono (by omega))
    have z3 : w1.heap.size < nq.to.heap.size := by have := hn2.size; omega
    clear hn2 hB2
    go_wp2_with fail
    refine (callNum y0 y1 y2 y3 _).mono ?_
    rintro e w5 ⟨rfl, hb5⟩
    have hB5 : Below w.heap.size w w5 := hB3.trans (hb5.mono (by omega))
    clear hb5
    go_wp2_with fail
    exact bodyPost_ret (v := .tuple #[.int .i64 (numX y0 : Int), .int .i64 1, .bool true]) (by simp [results, Try.results25, go_sem]) rfl ⟨by rw [LN.out, LB.out]; rfl, hB5⟩

theorem callSaidNo (t p s u : Int) (w : World) (a : Option Addr) (len cap : Nat) (ws : List Nat) (num : Int) (hl : len ≤ cap ∧ cap ≤ maxLen) (h : ¬ (okW t p s len ∧ 0 ≤ u ∧ u < t)) :
    Calls Try.prog 27 #[.agg #[.int .i64 t, .int .i64 p, .int .i64 s], .slice a len cap, .int .i64 u, .int .i64 num] w fun e w' => e = .returned (.tuple #[.agg #[.int .i64 0, .int .i64 0, .int .i64 0], .bool false]) ∧ Below w.heap.size w w' := by
  have H := hid h
  have HL := hid hl
  clear h hl
  go_enter Try.func27, Try.ntmps27
  go_wp2_with fail
  refine (callOfNo t p s u _ a len cap ws HL.out H.out).mono ?_
  rintro e w1 ⟨rfl, hb1⟩
  have z1 : w.heap.size < w1.heap.size := by have := hb1.size; simp at this; omega
  have z1' : w.heap.size + 1 < w1.heap.size := by have := hb1.size; simp at this; omega
  have hB1 : Below w.heap.size w w1 := bel
  have k0 : w1.cell? ⟨w.heap.size + 1, 0, none⟩ = some (.int .i64 0) := (hb1.cell (p := ⟨w.heap.size + 1, 0, none⟩) (by first | omega | (simp; done) | (simp; omega))).trans (cellNew (by simp) rfl)
  have k1 : w1.cell? ⟨w.heap.size + 1, 1, none⟩ = some (.int .i64 0) := (hb1.cell (p := ⟨w.heap.size + 1, 1, none⟩) (by first | omega | (simp; done) | (simp; omega))).trans (cellNew (by simp) rfl)
  have k2 : w1.cell? ⟨w.heap.size + 1, 2, none⟩ = some (.int .i64 0) := (hb1.cell (p := ⟨w.heap.size + 1, 2, none⟩) (by first | omega | (simp; done) | (simp; omega))).trans (cellNew (by simp) rfl)
  have m1 : ∀ o, w1.frozen? ⟨w.heap.size + 1, o, none⟩ = false := by intro o; rw [hb1.frozen (p := ⟨w.heap.size + 1, o, none⟩) (by first | omega | (simp; done) | (simp; omega)), frozen?_alloc_cells, frozen?_alloc_cells]; simp [World.frozen?]
  clear hb1
  go_wp2_with fail
  exact bodyPost_ret (v := .tuple #[.agg #[.int .i64 0, .int .i64 0, .int .i64 0], .bool false]) (by simp [results, Try.results27, go_sem, k0, k1, k2, z1, z1']) rfl ⟨rfl, bel⟩

set_option maxRecDepth 100000 in
set_option maxHeartbeats 3200000 in
theorem callSaidYes (t p s u : Int) (w : World) (a : Option Addr) (len cap : Nat) (ws : List Nat) (num : Int) (hs : Seen .u64 w a len cap ws) (ho : okW t p s len) (h0 : 0 ≤ u) (h1 : u < t) :
    Calls Try.prog 27 #[.agg #[.int .i64 t, .int .i64 p, .int .i64 s], .slice a len cap, .int .i64 u, .int .i64 num] w fun e w' => e = .returned (saidV t p u ws num) ∧ Below w.heap.size w w' := by
  have HS := hid hs
  have HO := hid ho
  clear hs ho
  by_cases hn : num < 1
  · have SV := hid (show saidV t p u ws num = .tuple #[.agg #[.int .i64 0, .int .i64 0, .int .i64 0], .bool false] by rw [saidV, if_pos hn])
    go_enter Try.func27, Try.ntmps27
    go_wp2_with fail
    refine (callOfYes t p s u _ a len cap ws (HS.out.below bel) HO.out h0 h1).mono ?_
    rintro e w1 ⟨rfl, hb1⟩
    have z1 : w.heap.size < w1.heap.size := by have := hb1.size; simp at this; omega
    have z1' : w.heap.size + 1 < w1.heap.size := by have := hb1.size; simp at this; omega
    have hB1 : Below w.heap.size w w1 := bel
    have k0 : w1.cell? ⟨w.heap.size + 1, 0, none⟩ = some (.int .i64 0) := (hb1.cell (p := ⟨w.heap.size + 1, 0, none⟩) (by first | omega | (simp; done) | (simp; omega))).trans (cellNew (by simp) rfl)
    have k1 : w1.cell? ⟨w.heap.size + 1, 1, none⟩ = some (.int .i64 0) := (hb1.cell (p := ⟨w.heap.size + 1, 1, none⟩) (by first | omega | (simp; done) | (simp; omega))).trans (cellNew (by simp) rfl)
    have k2 : w1.cell? ⟨w.heap.size + 1, 2, none⟩ = some (.int .i64 0) := (hb1.cell (p := ⟨w.heap.size + 1, 2, none⟩) (by first | omega | (simp; done) | (simp; omega))).trans (cellNew (by simp) rfl)
    have m1 : ∀ o, w1.frozen? ⟨w.heap.size + 1, o, none⟩ = false := by intro o; rw [hb1.frozen (p := ⟨w.heap.size + 1, o, none⟩) (by first | omega | (simp; done) | (simp; omega)), frozen?_alloc_cells, frozen?_alloc_cells]; simp [World.frozen?]
    clear hb1
    generalize cwN t p u ws 0 = x0 at *
    generalize cwN t p u ws 1 = x1 at *
    generalize cwN t p u ws 2 = x2 at *
    generalize cwN t p u ws 3 = x3 at *
    generalize cwN t p u ws 8 = y0 at *
    generalize cwN t p u ws 9 = y1 at *
    generalize cwN t p u ws 10 = y2 at *
    generalize cwN t p u ws 11 = y3 at *
    go_wp2_with fail
    exact bodyPost_ret (v := .tuple #[.agg #[.int .i64 0, .int .i64 0, .int .i64 0], .bool false]) (by simp [results, Try.results27, go_sem, k0, k1, k2, z1, z1']) rfl ⟨by rw [SV.out], bel⟩
  have dn : decide (num < 1) = false := by simp; omega
  by_cases g1 : (n1N t p u ws : Int) = num
  · have SV := hid (show saidV t p u ws num = ofWords (cwN t p u ws 9) (cwN t p u ws 10) (cwN t p u ws 11) by rw [saidV, if_neg hn, if_pos g1])
    obtain ⟨ok, oa, ob, oc, hO⟩ := ofForm3 (cwN t p u ws 9) (cwN t p u ws 10) (cwN t p u ws 11)
    rw [hO] at SV
    have O := hid hO
    have dy : (((numX (cwN t p u ws 8) : Nat) : Int) == num) = true := by rw [beq_iff_eq]; exact g1
    clear hO hn g1
    go_enter Try.func27, Try.ntmps27
    go_wp2_with fail
    refine (callOfYes t p s u _ a len cap ws (HS.out.below bel) HO.out h0 h1).mono ?_
    rintro e w1 ⟨rfl, hb1⟩
    have z1 : w.heap.size < w1.heap.size := by have := hb1.size; simp at this; omega
    have z1' : w.heap.size + 1 < w1.heap.size := by have := hb1.size; simp at this; omega
    have hB1 : Below w.heap.size w w1 := bel
    have k0 : w1.cell? ⟨w.heap.size + 1, 0, none⟩ = some (.int .i64 0) := (hb1.cell (p := ⟨w.heap.size + 1, 0, none⟩) (by first | omega | (simp; done) | (simp; omega))).trans (cellNew (by simp) rfl)
    have k1 : w1.cell? ⟨w.heap.size + 1, 1, none⟩ = some (.int .i64 0) := (hb1.cell (p := ⟨w.heap.size + 1, 1, none⟩) (by first | omega | (simp; done) | (simp; omega))).trans (cellNew (by simp) rfl)
    have k2 : w1.cell? ⟨w.heap.size + 1, 2, none⟩ = some (.int .i64 0) := (hb1.cell (p := ⟨w.heap.size + 1, 2, none⟩) (by first | omega | (simp; done) | (simp; omega))).trans (cellNew (by simp) rfl)
    have m1 : ∀ o, w1.frozen? ⟨w.heap.size + 1, o, none⟩ = false := by intro o; rw [hb1.frozen (p := ⟨w.heap.size + 1, o, none⟩) (by first | omega | (simp; done) | (simp; omega)), frozen?_alloc_cells, frozen?_alloc_cells]; simp [World.frozen?]
    clear hb1
    generalize cwN t p u ws 0 = x0 at *
    generalize cwN t p u ws 1 = x1 at *
    generalize cwN t p u ws 2 = x2 at *
    generalize cwN t p u ws 3 = x3 at *
    generalize cwN t p u ws 8 = y0 at *
    generalize cwN t p u ws 9 = y1 at *
    generalize cwN t p u ws 10 = y2 at *
    generalize cwN t p u ws 11 = y3 at *
    go_wp2_with fail
    obtain ⟨w2, hw2⟩ : ∃ x : World, x = (w1.alloc (.cells #[.int .u64 (x0 : Int), .int .u64 (x1 : Int), .int .u64 (x2 : Int), .int .u64 (x3 : Int), .int .u64 (y0 : Int), .int .u64 (y1 : Int), .int .u64 (y2 : Int), .int .u64 (y3 : Int)] 95)).alloc (.cells #[.int .u64 (y0 : Int), .int .u64 (y1 : Int), .int .u64 (y2 : Int), .int .u64 (y3 : Int), .int .u64 (x0 : Int), .int .u64 (x1 : Int), .int .u64 (x2 : Int), .int .u64 (x3 : Int)] 94) := ⟨_, rfl⟩
    have hb2 : Below w1.heap.size w1 w2 := by rw [hw2]; exact ((Below.refl _ _).alloc (Nat.le_refl _) _).alloc (by simp) _
    have e0 : w2.cell? ⟨w1.heap.size + 1, 0, none⟩ = some (.int .u64 (y0 : Int)) := by rw [hw2]; exact cellNew (by simp) rfl
    have e1 : w2.cell? ⟨w1.heap.size + 1, 1, none⟩ = some (.int .u64 (y1 : Int)) := by rw [hw2]; exact cellNew (by simp) rfl
    have e2 : w2.cell? ⟨w1.heap.size + 1, 2, none⟩ = some (.int .u64 (y2 : Int)) := by rw [hw2]; exact cellNew (by simp) rfl
    have e3 : w2.cell? ⟨w1.heap.size + 1, 3, none⟩ = some (.int .u64 (y3 : Int)) := by rw [hw2]; exact cellNew (by simp) rfl
    have e4 : w2.cell? ⟨w1.heap.size + 1, 4, none⟩ = some (.int .u64 (x0 : Int)) := by rw [hw2]; exact cellNew (by simp) rfl
    have e5 : w2.cell? ⟨w1.heap.size + 1, 5, none⟩ = some (.int .u64 (x1 : Int)) := by rw [hw2]; exact cellNew (by simp) rfl
    have e6 : w2.cell? ⟨w1.heap.size + 1, 6, none⟩ = some (.int .u64 (x2 : Int)) := by rw [hw2]; exact cellNew (by simp) rfl
    have e7 : w2.cell? ⟨w1.heap.size + 1, 7, none⟩ = some (.int .u64 (x3 : Int)) := by rw [hw2]; exact cellNew (by simp) rfl
    have z2 : w1.heap.size + 1 < w2.heap.size := by rw [hw2]; simp
    have hB2 : Below w.heap.size w w2 := hB1.trans (hb2.mono (by omega))
    have k0 := (hb2.cell (p := ⟨w.heap.size + 1, 0, none⟩) z1').trans k0
    have k1 := (hb2.cell (p := ⟨w.heap.size + 1, 1, none⟩) z1').trans k1
    have k2 := (hb2.cell (p := ⟨w.heap.size + 1, 2, none⟩) z1').trans k2
    have m1 := fun o => (hb2.frozen (p := ⟨w.heap.size + 1, o, none⟩) z1').trans (m1 o)
    rw [← hw2]
    clear hw2 hB1 hb2
    have z2' : w.heap.size + 1 < w2.heap.size := by omega
    have z2'' : w.heap.size < w2.heap.size := by omega
    refine wp_loop_rounds 4 ?_
    rw [rounds_succ]
    go_wp2_with fail
    refine (callNum y0 y1 y2 y3 _).mono ?_
    rintro e w3 ⟨rfl, hb0⟩
    have h0 : Below (w2.heap.size + 1) (w2.alloc (.cells #[.int .u64 (y0 : Int), .int .u64 (y1 : Int), .int .u64 (y2 : Int), .int .u64 (y3 : Int)] 94)) w3 := hb0.mono (by simp)
    have hA0 : Below w2.heap.size w2 w3 := ((Below.refl _ _).alloc (Nat.le_refl _) _).trans (h0.mono (by omega))
    have hBw3 : Below w.heap.size w w3 := hB2.trans (hA0.mono (by omega))
    have v0 : w2.heap.size < w3.heap.size := by have := h0.size; simp at this; omega
    have v0' : w.heap.size + 1 < w3.heap.size := by omega
    have v0'' : w1.heap.size + 1 < w3.heap.size := by omega
    have p0 : w3.cell? ⟨w2.heap.size, 0, none⟩ = some (.int .u64 (y0 : Int)) := (h0.cell (p := ⟨w2.heap.size, 0, none⟩) (Nat.lt_succ_self _)).trans (cellNew rfl rfl)
    have p1 : w3.cell? ⟨w2.heap.size, 1, none⟩ = some (.int .u64 (y1 : Int)) := (h0.cell (p := ⟨w2.heap.size, 1, none⟩) (Nat.lt_succ_self _)).trans (cellNew rfl rfl)
    have p2 : w3.cell? ⟨w2.heap.size, 2, none⟩ = some (.int .u64 (y2 : Int)) := (h0.cell (p := ⟨w2.heap.size, 2, none⟩) (Nat.lt_succ_self _)).trans (cellNew rfl rfl)
    have p3 : w3.cell? ⟨w2.heap.size, 3, none⟩ = some (.int .u64 (y3 : Int)) := (h0.cell (p := ⟨w2.heap.size, 3, none⟩) (Nat.lt_succ_self _)).trans (cellNew rfl rfl)
    have k0 := (hA0.cell (p := ⟨w.heap.size + 1, 0, none⟩) z2').trans k0
    have k1 := (hA0.cell (p := ⟨w.heap.size + 1, 1, none⟩) z2').trans k1
    have k2 := (hA0.cell (p := ⟨w.heap.size + 1, 2, none⟩) z2').trans k2
    have m1 := fun o => (hA0.frozen (p := ⟨w.heap.size + 1, o, none⟩) z2').trans (m1 o)
    have e0 := (hA0.cell (p := ⟨w1.heap.size + 1, 0, none⟩) z2).trans e0
    have e1 := (hA0.cell (p := ⟨w1.heap.size + 1, 1, none⟩) z2).trans e1
    have e2 := (hA0.cell (p := ⟨w1.heap.size + 1, 2, none⟩) z2).trans e2
    have e3 := (hA0.cell (p := ⟨w1.heap.size + 1, 3, none⟩) z2).trans e3
    have e4 := (hA0.cell (p := ⟨w1.heap.size + 1, 4, none⟩) z2).trans e4
    have e5 := (hA0.cell (p := ⟨w1.heap.size + 1, 5, none⟩) z2).trans e5
    have e6 := (hA0.cell (p := ⟨w1.heap.size + 1, 6, none⟩) z2).trans e6
    have e7 := (hA0.cell (p := ⟨w1.heap.size + 1, 7, none⟩) z2).trans e7
    clear hb0 h0 hA0 hB2
    go_wp2_with fail
    refine (callOp y0 y1 y2 y3 _).mono ?_
    rw [O.out]
    rintro e wO ⟨rfl, hbO⟩
    have vO' : w.heap.size + 1 < wO.heap.size := by have := hbO.size; omega
    have vO : w.heap.size < wO.heap.size := by omega
    have k0 := (hbO.cell (p := ⟨w.heap.size + 1, 0, none⟩) v0').trans k0
    have k1 := (hbO.cell (p := ⟨w.heap.size + 1, 1, none⟩) v0').trans k1
    have k2 := (hbO.cell (p := ⟨w.heap.size + 1, 2, none⟩) v0').trans k2
    have m1 := fun o => (hbO.frozen (p := ⟨w.heap.size + 1, o, none⟩) v0').trans (m1 o)
    have hBO : Below w.heap.size w wO := hBw3.trans (hbO.mono (by omega))
    clear hbO hBw3
    go_wp2_with fail
    exact bodyPost_ret (v := .tuple #[.agg #[.int .i64 ok, .int .i64 oa, .int .i64 ob], .bool oc]) (by simp [results, Try.results27, go_sem, k0, k1, k2, vO, vO']) rfl ⟨by rw [SV.out], bel⟩
  by_cases g0 : (n0N t p u ws : Int) = num
  · have SV := hid (show saidV t p u ws num = ofWords (cwN t p u ws 1) (cwN t p u ws 2) (cwN t p u ws 3) by rw [saidV, if_neg hn, if_neg g1, if_pos g0])
    obtain ⟨ok, oa, ob, oc, hO⟩ := ofForm3 (cwN t p u ws 1) (cwN t p u ws 2) (cwN t p u ws 3)
    rw [hO] at SV
    have O := hid hO
    have dy : (((numX (cwN t p u ws 8) : Nat) : Int) == num) = false := by rw [beq_eq_false_iff_ne]; exact g1
    have dx : (((numX (cwN t p u ws 0) : Nat) : Int) == num) = true := by rw [beq_iff_eq]; exact g0
    clear hO hn g1 g0
    go_enter Try.func27, Try.ntmps27
    go_wp2_with fail
    refine (callOfYes t p s u _ a len cap ws (HS.out.below bel) HO.out h0 h1).mono ?_
    rintro e w1 ⟨rfl, hb1⟩
    have z1 : w.heap.size < w1.heap.size := by have := hb1.size; simp at this; omega
    have z1' : w.heap.size + 1 < w1.heap.size := by have := hb1.size; simp at this; omega
    have hB1 : Below w.heap.size w w1 := bel
    have k0 : w1.cell? ⟨w.heap.size + 1, 0, none⟩ = some (.int .i64 0) := (hb1.cell (p := ⟨w.heap.size + 1, 0, none⟩) (by first | omega | (simp; done) | (simp; omega))).trans (cellNew (by simp) rfl)
    have k1 : w1.cell? ⟨w.heap.size + 1, 1, none⟩ = some (.int .i64 0) := (hb1.cell (p := ⟨w.heap.size + 1, 1, none⟩) (by first | omega | (simp; done) | (simp; omega))).trans (cellNew (by simp) rfl)
    have k2 : w1.cell? ⟨w.heap.size + 1, 2, none⟩ = some (.int .i64 0) := (hb1.cell (p := ⟨w.heap.size + 1, 2, none⟩) (by first | omega | (simp; done) | (simp; omega))).trans (cellNew (by simp) rfl)
    have m1 : ∀ o, w1.frozen? ⟨w.heap.size + 1, o, none⟩ = false := by intro o; rw [hb1.frozen (p := ⟨w.heap.size + 1, o, none⟩) (by first | omega | (simp; done) | (simp; omega)), frozen?_alloc_cells, frozen?_alloc_cells]; simp [World.frozen?]
    clear hb1
    generalize cwN t p u ws 0 = x0 at *
    generalize cwN t p u ws 1 = x1 at *
    generalize cwN t p u ws 2 = x2 at *
    generalize cwN t p u ws 3 = x3 at *
    generalize cwN t p u ws 8 = y0 at *
    generalize cwN t p u ws 9 = y1 at *
    generalize cwN t p u ws 10 = y2 at *
    generalize cwN t p u ws 11 = y3 at *
    go_wp2_with fail
    obtain ⟨w2, hw2⟩ : ∃ x : World, x = (w1.alloc (.cells #[.int .u64 (x0 : Int), .int .u64 (x1 : Int), .int .u64 (x2 : Int), .int .u64 (x3 : Int), .int .u64 (y0 : Int), .int .u64 (y1 : Int), .int .u64 (y2 : Int), .int .u64 (y3 : Int)] 95)).alloc (.cells #[.int .u64 (y0 : Int), .int .u64 (y1 : Int), .int .u64 (y2 : Int), .int .u64 (y3 : Int), .int .u64 (x0 : Int), .int .u64 (x1 : Int), .int .u64 (x2 : Int), .int .u64 (x3 : Int)] 94) := ⟨_, rfl⟩
    have hb2 : Below w1.heap.size w1 w2 := by rw [hw2]; exact ((Below.refl _ _).alloc (Nat.le_refl _) _).alloc (by simp) _
    have e0 : w2.cell? ⟨w1.heap.size + 1, 0, none⟩ = some (.int .u64 (y0 : Int)) := by rw [hw2]; exact cellNew (by simp) rfl
    have e1 : w2.cell? ⟨w1.heap.size + 1, 1, none⟩ = some (.int .u64 (y1 : Int)) := by rw [hw2]; exact cellNew (by simp) rfl
    have e2 : w2.cell? ⟨w1.heap.size + 1, 2, none⟩ = some (.int .u64 (y2 : Int)) := by rw [hw2]; exact cellNew (by simp) rfl
    have e3 : w2.cell? ⟨w1.heap.size + 1, 3, none⟩ = some (.int .u64 (y3 : Int)) := by rw [hw2]; exact cellNew (by simp) rfl
    have e4 : w2.cell? ⟨w1.heap.size + 1, 4, none⟩ = some (.int .u64 (x0 : Int)) := by rw [hw2]; exact cellNew (by simp) rfl
    have e5 : w2.cell? ⟨w1.heap.size + 1, 5, none⟩ = some (.int .u64 (x1 : Int)) := by rw [hw2]; exact cellNew (by simp) rfl
    have e6 : w2.cell? ⟨w1.heap.size + 1, 6, none⟩ = some (.int .u64 (x2 : Int)) := by rw [hw2]; exact cellNew (by simp) rfl
    have e7 : w2.cell? ⟨w1.heap.size + 1, 7, none⟩ = some (.int .u64 (x3 : Int)) := by rw [hw2]; exact cellNew (by simp) rfl
    have z2 : w1.heap.size + 1 < w2.heap.size := by rw [hw2]; simp
    have hB2 : Below w.heap.size w w2 := hB1.trans (hb2.mono (by omega))
    have k0 := (hb2.cell (p := ⟨w.heap.size + 1, 0, none⟩) z1').trans k0
    have k1 := (hb2.cell (p := ⟨w.heap.size + 1, 1, none⟩) z1').trans k1
    have k2 := (hb2.cell (p := ⟨w.heap.size + 1, 2, none⟩) z1').trans k2
    have m1 := fun o => (hb2.frozen (p := ⟨w.heap.size + 1, o, none⟩) z1').trans (m1 o)
    rw [← hw2]
    clear hw2 hB1 hb2
    have z2' : w.heap.size + 1 < w2.heap.size := by omega
    have z2'' : w.heap.size < w2.heap.size := by omega
    refine wp_loop_rounds 4 ?_
    rw [rounds_succ]
    go_wp2_with fail
    refine (callNum y0 y1 y2 y3 _).mono ?_
    rintro e w3 ⟨rfl, hb0⟩
    have h0 : Below (w2.heap.size + 1) (w2.alloc (.cells #[.int .u64 (y0 : Int), .int .u64 (y1 : Int), .int .u64 (y2 : Int), .int .u64 (y3 : Int)] 94)) w3 := hb0.mono (by simp)
    have hA0 : Below w2.heap.size w2 w3 := ((Below.refl _ _).alloc (Nat.le_refl _) _).trans (h0.mono (by omega))
    have hBw3 : Below w.heap.size w w3 := hB2.trans (hA0.mono (by omega))
    have v0 : w2.heap.size < w3.heap.size := by have := h0.size; simp at this; omega
    have v0' : w.heap.size + 1 < w3.heap.size := by omega
    have v0'' : w1.heap.size + 1 < w3.heap.size := by omega
    have p0 : w3.cell? ⟨w2.heap.size, 0, none⟩ = some (.int .u64 (y0 : Int)) := (h0.cell (p := ⟨w2.heap.size, 0, none⟩) (Nat.lt_succ_self _)).trans (cellNew rfl rfl)
    have p1 : w3.cell? ⟨w2.heap.size, 1, none⟩ = some (.int .u64 (y1 : Int)) := (h0.cell (p := ⟨w2.heap.size, 1, none⟩) (Nat.lt_succ_self _)).trans (cellNew rfl rfl)
    have p2 : w3.cell? ⟨w2.heap.size, 2, none⟩ = some (.int .u64 (y2 : Int)) := (h0.cell (p := ⟨w2.heap.size, 2, none⟩) (Nat.lt_succ_self _)).trans (cellNew rfl rfl)
    have p3 : w3.cell? ⟨w2.heap.size, 3, none⟩ = some (.int .u64 (y3 : Int)) := (h0.cell (p := ⟨w2.heap.size, 3, none⟩) (Nat.lt_succ_self _)).trans (cellNew rfl rfl)
    have k0 := (hA0.cell (p := ⟨w.heap.size + 1, 0, none⟩) z2').trans k0
    have k1 := (hA0.cell (p := ⟨w.heap.size + 1, 1, none⟩) z2').trans k1
    have k2 := (hA0.cell (p := ⟨w.heap.size + 1, 2, none⟩) z2').trans k2
    have m1 := fun o => (hA0.frozen (p := ⟨w.heap.size + 1, o, none⟩) z2').trans (m1 o)
    have e0 := (hA0.cell (p := ⟨w1.heap.size + 1, 0, none⟩) z2).trans e0
    have e1 := (hA0.cell (p := ⟨w1.heap.size + 1, 1, none⟩) z2).trans e1
    have e2 := (hA0.cell (p := ⟨w1.heap.size + 1, 2, none⟩) z2).trans e2
    have e3 := (hA0.cell (p := ⟨w1.heap.size + 1, 3, none⟩) z2).trans e3
    have e4 := (hA0.cell (p := ⟨w1.heap.size + 1, 4, none⟩) z2).trans e4
    have e5 := (hA0.cell (p := ⟨w1.heap.size + 1, 5, none⟩) z2).trans e5
    have e6 := (hA0.cell (p := ⟨w1.heap.size + 1, 6, none⟩) z2).trans e6
    have e7 := (hA0.cell (p := ⟨w1.heap.size + 1, 7, none⟩) z2).trans e7
    clear hb0 h0 hA0 hB2
    go_wp2_with fail
    rw [rounds_succ]
    go_wp2_with fail
    refine (callNum x0 x1 x2 x3 _).mono ?_
    rintro e w4 ⟨rfl, hb1⟩
    have h1 : Below (w3.heap.size + 1) (w3.alloc (.cells #[.int .u64 (x0 : Int), .int .u64 (x1 : Int), .int .u64 (x2 : Int), .int .u64 (x3 : Int)] 94)) w4 := hb1.mono (by simp)
    have hA1 : Below w3.heap.size w3 w4 := ((Below.refl _ _).alloc (Nat.le_refl _) _).trans (h1.mono (by omega))
    have hBw4 : Below w.heap.size w w4 := hBw3.trans (hA1.mono (by omega))
    have v1 : w3.heap.size < w4.heap.size := by have := h1.size; simp at this; omega
    have v1' : w.heap.size + 1 < w4.heap.size := by omega
    have v1'' : w1.heap.size + 1 < w4.heap.size := by omega
    have p0 : w4.cell? ⟨w3.heap.size, 0, none⟩ = some (.int .u64 (x0 : Int)) := (h1.cell (p := ⟨w3.heap.size, 0, none⟩) (Nat.lt_succ_self _)).trans (cellNew rfl rfl)
    have p1 : w4.cell? ⟨w3.heap.size, 1, none⟩ = some (.int .u64 (x1 : Int)) := (h1.cell (p := ⟨w3.heap.size, 1, none⟩) (Nat.lt_succ_self _)).trans (cellNew rfl rfl)
    have p2 : w4.cell? ⟨w3.heap.size, 2, none⟩ = some (.int .u64 (x2 : Int)) := (h1.cell (p := ⟨w3.heap.size, 2, none⟩) (Nat.lt_succ_self _)).trans (cellNew rfl rfl)
    have p3 : w4.cell? ⟨w3.heap.size, 3, none⟩ = some (.int .u64 (x3 : Int)) := (h1.cell (p := ⟨w3.heap.size, 3, none⟩) (Nat.lt_succ_self _)).trans (cellNew rfl rfl)
    have k0 := (hA1.cell (p := ⟨w.heap.size + 1, 0, none⟩) v0').trans k0
    have k1 := (hA1.cell (p := ⟨w.heap.size + 1, 1, none⟩) v0').trans k1
    have k2 := (hA1.cell (p := ⟨w.heap.size + 1, 2, none⟩) v0').trans k2
    have m1 := fun o => (hA1.frozen (p := ⟨w.heap.size + 1, o, none⟩) v0').trans (m1 o)
    have e0 := (hA1.cell (p := ⟨w1.heap.size + 1, 0, none⟩) v0'').trans e0
    have e1 := (hA1.cell (p := ⟨w1.heap.size + 1, 1, none⟩) v0'').trans e1
    have e2 := (hA1.cell (p := ⟨w1.heap.size + 1, 2, none⟩) v0'').trans e2
    have e3 := (hA1.cell (p := ⟨w1.heap.size + 1, 3, none⟩) v0'').trans e3
    have e4 := (hA1.cell (p := ⟨w1.heap.size + 1, 4, none⟩) v0'').trans e4
    have e5 := (hA1.cell (p := ⟨w1.heap.size + 1, 5, none⟩) v0'').trans e5
    have e6 := (hA1.cell (p := ⟨w1.heap.size + 1, 6, none⟩) v0'').trans e6
    have e7 := (hA1.cell (p := ⟨w1.heap.size + 1, 7, none⟩) v0'').trans e7
    clear hb1 h1 hA1 hBw3
    go_wp2_with fail
    refine (callOp x0 x1 x2 x3 _).mono ?_
    rw [O.out]
    rintro e wO ⟨rfl, hbO⟩
    have vO' : w.heap.size + 1 < wO.heap.size := by have := hbO.size; omega
    have vO : w.heap.size < wO.heap.size := by omega
    have k0 := (hbO.cell (p := ⟨w.heap.size + 1, 0, none⟩) v1').trans k0
    have k1 := (hbO.cell (p := ⟨w.heap.size + 1, 1, none⟩) v1').trans k1
    have k2 := (hbO.cell (p := ⟨w.heap.size + 1, 2, none⟩) v1').trans k2
    have m1 := fun o => (hbO.frozen (p := ⟨w.heap.size + 1, o, none⟩) v1').trans (m1 o)
    have hBO : Below w.heap.size w wO := hBw4.trans (hbO.mono (by omega))
    clear hbO hBw4
    go_wp2_with fail
    exact bodyPost_ret (v := .tuple #[.agg #[.int .i64 ok, .int .i64 oa, .int .i64 ob], .bool oc]) (by simp [results, Try.results27, go_sem, k0, k1, k2, vO, vO']) rfl ⟨by rw [SV.out], bel⟩
  · have SV := hid (show saidV t p u ws num = .tuple #[.agg #[.int .i64 0, .int .i64 0, .int .i64 0], .bool false] by rw [saidV, if_neg hn, if_neg g1, if_neg g0])
    have dy : (((numX (cwN t p u ws 8) : Nat) : Int) == num) = false := by rw [beq_eq_false_iff_ne]; exact g1
    have dx : (((numX (cwN t p u ws 0) : Nat) : Int) == num) = false := by rw [beq_eq_false_iff_ne]; exact g0
    clear hn g1 g0
    go_enter Try.func27, Try.ntmps27
    go_wp2_with fail
    refine (callOfYes t p s u _ a len cap ws (HS.out.below bel) HO.out h0 h1).mono ?_
    rintro e w1 ⟨rfl, hb1⟩
    have z1 : w.heap.size < w1.heap.size := by have := hb1.size; simp at this; omega
    have z1' : w.heap.size + 1 < w1.heap.size := by have := hb1.size; simp at this; omega
    have hB1 : Below w.heap.size w w1 := bel
    have k0 : w1.cell? ⟨w.heap.size + 1, 0, none⟩ = some (.int .i64 0) := (hb1.cell (p := ⟨w.heap.size + 1, 0, none⟩) (by first | omega | (simp; done) | (simp; omega))).trans (cellNew (by simp) rfl)
    have k1 : w1.cell? ⟨w.heap.size + 1, 1, none⟩ = some (.int .i64 0) := (hb1.cell (p := ⟨w.heap.size + 1, 1, none⟩) (by first | omega | (simp; done) | (simp; omega))).trans (cellNew (by simp) rfl)
    have k2 : w1.cell? ⟨w.heap.size + 1, 2, none⟩ = some (.int .i64 0) := (hb1.cell (p := ⟨w.heap.size + 1, 2, none⟩) (by first | omega | (simp; done) | (simp; omega))).trans (cellNew (by simp) rfl)
    have m1 : ∀ o, w1.frozen? ⟨w.heap.size + 1, o, none⟩ = false := by intro o; rw [hb1.frozen (p := ⟨w.heap.size + 1, o, none⟩) (by first | omega | (simp; done) | (simp; omega)), frozen?_alloc_cells, frozen?_alloc_cells]; simp [World.frozen?]
    clear hb1
    generalize cwN t p u ws 0 = x0 at *
    generalize cwN t p u ws 1 = x1 at *
    generalize cwN t p u ws 2 = x2 at *
    generalize cwN t p u ws 3 = x3 at *
    generalize cwN t p u ws 8 = y0 at *
    generalize cwN t p u ws 9 = y1 at *
    generalize cwN t p u ws 10 = y2 at *
    generalize cwN t p u ws 11 = y3 at *
    go_wp2_with fail
    obtain ⟨w2, hw2⟩ : ∃ x : World, x = (w1.alloc (.cells #[.int .u64 (x0 : Int), .int .u64 (x1 : Int), .int .u64 (x2 : Int), .int .u64 (x3 : Int), .int .u64 (y0 : Int), .int .u64 (y1 : Int), .int .u64 (y2 : Int), .int .u64 (y3 : Int)] 95)).alloc (.cells #[.int .u64 (y0 : Int), .int .u64 (y1 : Int), .int .u64 (y2 : Int), .int .u64 (y3 : Int), .int .u64 (x0 : Int), .int .u64 (x1 : Int), .int .u64 (x2 : Int), .int .u64 (x3 : Int)] 94) := ⟨_, rfl⟩
    have hb2 : Below w1.heap.size w1 w2 := by rw [hw2]; exact ((Below.refl _ _).alloc (Nat.le_refl _) _).alloc (by simp) _
    have e0 : w2.cell? ⟨w1.heap.size + 1, 0, none⟩ = some (.int .u64 (y0 : Int)) := by rw [hw2]; exact cellNew (by simp) rfl
    have e1 : w2.cell? ⟨w1.heap.size + 1, 1, none⟩ = some (.int .u64 (y1 : Int)) := by rw [hw2]; exact cellNew (by simp) rfl
    have e2 : w2.cell? ⟨w1.heap.size + 1, 2, none⟩ = some (.int .u64 (y2 : Int)) := by rw [hw2]; exact cellNew (by simp) rfl
    have e3 : w2.cell? ⟨w1.heap.size + 1, 3, none⟩ = some (.int .u64 (y3 : Int)) := by rw [hw2]; exact cellNew (by simp) rfl
    have e4 : w2.cell? ⟨w1.heap.size + 1, 4, none⟩ = some (.int .u64 (x0 : Int)) := by rw [hw2]; exact cellNew (by simp) rfl
    have e5 : w2.cell? ⟨w1.heap.size + 1, 5, none⟩ = some (.int .u64 (x1 : Int)) := by rw [hw2]; exact cellNew (by simp) rfl
    have e6 : w2.cell? ⟨w1.heap.size + 1, 6, none⟩ = some (.int .u64 (x2 : Int)) := by rw [hw2]; exact cellNew (by simp) rfl
    have e7 : w2.cell? ⟨w1.heap.size + 1, 7, none⟩ = some (.int .u64 (x3 : Int)) := by rw [hw2]; exact cellNew (by simp) rfl
    have z2 : w1.heap.size + 1 < w2.heap.size := by rw [hw2]; simp
    have hB2 : Below w.heap.size w w2 := hB1.trans (hb2.mono (by omega))
    have k0 := (hb2.cell (p := ⟨w.heap.size + 1, 0, none⟩) z1').trans k0
    have k1 := (hb2.cell (p := ⟨w.heap.size + 1, 1, none⟩) z1').trans k1
    have k2 := (hb2.cell (p := ⟨w.heap.size + 1, 2, none⟩) z1').trans k2
    have m1 := fun o => (hb2.frozen (p := ⟨w.heap.size + 1, o, none⟩) z1').trans (m1 o)
    rw [← hw2]
    clear hw2 hB1 hb2
    have z2' : w.heap.size + 1 < w2.heap.size := by omega
    have z2'' : w.heap.size < w2.heap.size := by omega
    refine wp_loop_rounds 4 ?_
    rw [rounds_succ]
    go_wp2_with fail
    refine (callNum y0 y1 y2 y3 _).mono ?_
    rintro e w3 ⟨rfl, hb0⟩
    have h0 : Below (w2.heap.size + 1) (w2.alloc (.cells #[.int .u64 (y0 : Int), .int .u64 (y1 : Int), .int .u64 (y2 : Int), .int .u64 (y3 : Int)] 94)) w3 := hb0.mono (by simp)
    have hA0 : Below w2.heap.size w2 w3 := ((Below.refl _ _).alloc (Nat.le_refl _) _).trans (h0.mono (by omega))
    have hBw3 : Below w.heap.size w w3 := hB2.trans (hA0.mono (by omega))
    have v0 : w2.heap.size < w3.heap.size := by have := h0.size; simp at this; omega
    have v0' : w.heap.size + 1 < w3.heap.size := by omega
    have v0'' : w1.heap.size + 1 < w3.heap.size := by omega
    have p0 : w3.cell? ⟨w2.heap.size, 0, none⟩ = some (.int .u64 (y0 : Int)) := (h0.cell (p := ⟨w2.heap.size, 0, none⟩) (Nat.lt_succ_self _)).trans (cellNew rfl rfl)
    have p1 : w3.cell? ⟨w2.heap.size, 1, none⟩ = some (.int .u64 (y1 : Int)) := (h0.cell (p := ⟨w2.heap.size, 1, none⟩) (Nat.lt_succ_self _)).trans (cellNew rfl rfl)
    have p2 : w3.cell? ⟨w2.heap.size, 2, none⟩ = some (.int .u64 (y2 : Int)) := (h0.cell (p := ⟨w2.heap.size, 2, none⟩) (Nat.lt_succ_self _)).trans (cellNew rfl rfl)
    have p3 : w3.cell? ⟨w2.heap.size, 3, none⟩ = some (.int .u64 (y3 : Int)) := (h0.cell (p := ⟨w2.heap.size, 3, none⟩) (Nat.lt_succ_self _)).trans (cellNew rfl rfl)
    have k0 := (hA0.cell (p := ⟨w.heap.size + 1, 0, none⟩) z2').trans k0
    have k1 := (hA0.cell (p := ⟨w.heap.size + 1, 1, none⟩) z2').trans k1
    have k2 := (hA0.cell (p := ⟨w.heap.size + 1, 2, none⟩) z2').trans k2
    have m1 := fun o => (hA0.frozen (p := ⟨w.heap.size + 1, o, none⟩) z2').trans (m1 o)
    have e0 := (hA0.cell (p := ⟨w1.heap.size + 1, 0, none⟩) z2).trans e0
    have e1 := (hA0.cell (p := ⟨w1.heap.size + 1, 1, none⟩) z2).trans e1
    have e2 := (hA0.cell (p := ⟨w1.heap.size + 1, 2, none⟩) z2).trans e2
    have e3 := (hA0.cell (p := ⟨w1.heap.size + 1, 3, none⟩) z2).trans e3
    have e4 := (hA0.cell (p := ⟨w1.heap.size + 1, 4, none⟩) z2).trans e4
    have e5 := (hA0.cell (p := ⟨w1.heap.size + 1, 5, none⟩) z2).trans e5
    have e6 := (hA0.cell (p := ⟨w1.heap.size + 1, 6, none⟩) z2).trans e6
    have e7 := (hA0.cell (p := ⟨w1.heap.size + 1, 7, none⟩) z2).trans e7
    clear hb0 h0 hA0 hB2
    go_wp2_with fail
    rw [rounds_succ]
    go_wp2_with fail
    refine (callNum x0 x1 x2 x3 _).mono ?_
    rintro e w4 ⟨rfl, hb1⟩
    have h1 : Below (w3.heap.size + 1) (w3.alloc (.cells #[.int .u64 (x0 : Int), .int .u64 (x1 : Int), .int .u64 (x2 : Int), .int .u64 (x3 : Int)] 94)) w4 := hb1.mono (by simp)
    have hA1 : Below w3.heap.size w3 w4 := ((Below.refl _ _).alloc (Nat.le_refl _) _).trans (h1.mono (by omega))
    have hBw4 : Below w.heap.size w w4 := hBw3.trans (hA1.mono (by omega))
    have v1 : w3.heap.size < w4.heap.size := by have := h1.size; simp at this; omega
    have v1' : w.heap.size + 1 < w4.heap.size := by omega
    have v1'' : w1.heap.size + 1 < w4.heap.size := by omega
    have p0 : w4.cell? ⟨w3.heap.size, 0, none⟩ = some (.int .u64 (x0 : Int)) := (h1.cell (p := ⟨w3.heap.size, 0, none⟩) (Nat.lt_succ_self _)).trans (cellNew rfl rfl)
    have p1 : w4.cell? ⟨w3.heap.size, 1, none⟩ = some (.int .u64 (x1 : Int)) := (h1.cell (p := ⟨w3.heap.size, 1, none⟩) (Nat.lt_succ_self _)).trans (cellNew rfl rfl)
    have p2 : w4.cell? ⟨w3.heap.size, 2, none⟩ = some (.int .u64 (x2 : Int)) := (h1.cell (p := ⟨w3.heap.size, 2, none⟩) (Nat.lt_succ_self _)).trans (cellNew rfl rfl)
    have p3 : w4.cell? ⟨w3.heap.size, 3, none⟩ = some (.int .u64 (x3 : Int)) := (h1.cell (p := ⟨w3.heap.size, 3, none⟩) (Nat.lt_succ_self _)).trans (cellNew rfl rfl)
    have k0 := (hA1.cell (p := ⟨w.heap.size + 1, 0, none⟩) v0').trans k0
    have k1 := (hA1.cell (p := ⟨w.heap.size + 1, 1, none⟩) v0').trans k1
    have k2 := (hA1.cell (p := ⟨w.heap.size + 1, 2, none⟩) v0').trans k2
    have m1 := fun o => (hA1.frozen (p := ⟨w.heap.size + 1, o, none⟩) v0').trans (m1 o)
    have e0 := (hA1.cell (p := ⟨w1.heap.size + 1, 0, none⟩) v0'').trans e0
    have e1 := (hA1.cell (p := ⟨w1.heap.size + 1, 1, none⟩) v0'').trans e1
    have e2 := (hA1.cell (p := ⟨w1.heap.size + 1, 2, none⟩) v0'').trans e2
    have e3 := (hA1.cell (p := ⟨w1.heap.size + 1, 3, none⟩) v0'').trans e3
    have e4 := (hA1.cell (p := ⟨w1.heap.size + 1, 4, none⟩) v0'').trans e4
    have e5 := (hA1.cell (p := ⟨w1.heap.size + 1, 5, none⟩) v0'').trans e5
    have e6 := (hA1.cell (p := ⟨w1.heap.size + 1, 6, none⟩) v0'').trans e6
    have e7 := (hA1.cell (p := ⟨w1.heap.size + 1, 7, none⟩) v0'').trans e7
    clear hb1 h1 hA1 hBw3
    go_wp2_with fail
    rw [rounds_succ]
    go_wp2_with fail
    have vz : w.heap.size < w4.heap.size := by omega
    exact bodyPost_ret (v := .tuple #[.agg #[.int .i64 0, .int .i64 0, .int .i64 0], .bool false]) (by simp [results, Try.results27, go_sem, k0, k1, k2, v1', vz]) rfl ⟨by rw [SV.out], bel⟩
end Go.Proofs.Ytkkhoiahjmfibaa
