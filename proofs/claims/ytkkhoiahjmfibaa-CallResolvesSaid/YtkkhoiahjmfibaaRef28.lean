/- The walks of the reference's calls: is there that thread, the number of a call, the last one, what was said. -/
import Derived.Test.YtkkhoiahjmfibaaCall2
namespace Go.Proofs.Ytkkhoiahjmfibaa
open Go.RowKit
set_option linter.unusedVariables false
set_option linter.unusedSimpArgs false

theorem refThereYes (t p s u : Int) (w : World) (a : Option Addr) (len cap : Nat) (ws : List Nat) (hl : len ≤ cap ∧ cap ≤ maxLen) (ho : okW t p s len) (h0 : 0 ≤ u) (h1 : u < t) :
    Calls Try.prog 62 #[.agg #[.int .i64 t, .int .i64 p, .int .i64 s], .slice a len cap, .int .i64 u] w fun e w' => e = .returned (.bool true) ∧ Below w.heap.size w w' := by
  obtain ⟨ew, l1, l2⟩ := okW_words ho
  have E := hid ew
  obtain ⟨hl1, hl2⟩ := hl
  clear ho ew
  have dl : 0 < len := by omega
  go_enter Try.func62, Try.ntmps62
  go_wp2_with fail
  refine (refWords t p s _).mono ?_
  rw [E.out]
  rintro e w1 ⟨rfl, hb1⟩
  have z1 : w.heap.size < w1.heap.size := by have := hb1.size; simp at this; omega
  have hB1 : Below w.heap.size w w1 := bel
  have q0 : w1.cell? ⟨w.heap.size, 0, none⟩ = some (.int .i64 t) := (hb1.cell (p := ⟨w.heap.size, 0, none⟩) (by first | omega | (simp; done) | (simp; omega))).trans (cellNew rfl rfl)
  have q1 : w1.cell? ⟨w.heap.size, 1, none⟩ = some (.int .i64 p) := (hb1.cell (p := ⟨w.heap.size, 1, none⟩) (by first | omega | (simp; done) | (simp; omega))).trans (cellNew rfl rfl)
  have q2 : w1.cell? ⟨w.heap.size, 2, none⟩ = some (.int .i64 s) := (hb1.cell (p := ⟨w.heap.size, 2, none⟩) (by first | omega | (simp; done) | (simp; omega))).trans (cellNew rfl rfl)
  go_wp2_with fail
  go_ret
  exact ⟨ret_bool (by first | (simp; done) | (simp; omega)), bel⟩
theorem refThereNo (t p s u : Int) (w : World) (a : Option Addr) (len cap : Nat) (ws : List Nat) (hl : len ≤ cap ∧ cap ≤ maxLen) (h : ¬ (okW t p s len ∧ 0 ≤ u ∧ u < t)) :
    Calls Try.prog 62 #[.agg #[.int .i64 t, .int .i64 p, .int .i64 s], .slice a len cap, .int .i64 u] w fun e w' => e = .returned (.bool false) ∧ Below w.heap.size w w' := by
  obtain ⟨hl1, hl2⟩ := hl
  by_cases hn : len = 0
  · subst hn
    clear h
    go_enter Try.func62, Try.ntmps62
    go_wp2_with fail
    go_ret
    exact ⟨rfl, bel⟩
  · have dl : 0 < len := by omega
    by_cases hw : wordsC t p s = (len : Int)
    · have ho : okW t p s len := by
        by_cases ho : okW t p s len
        · exact ho
        · have := okW_no ho
          omega
      have E := hid hw
      have hu : ¬ (0 ≤ u ∧ u < t) := fun hu => h ⟨ho, hu⟩
      clear h ho hw
      go_enter Try.func62, Try.ntmps62
      go_wp2_with fail
      refine (refWords t p s _).mono ?_
      rw [E.out]
      rintro e w1 ⟨rfl, hb1⟩
      have z1 : w.heap.size < w1.heap.size := by have := hb1.size; simp at this; omega
      have hB1 : Below w.heap.size w w1 := bel
      have q0 : w1.cell? ⟨w.heap.size, 0, none⟩ = some (.int .i64 t) := (hb1.cell (p := ⟨w.heap.size, 0, none⟩) (by first | omega | (simp; done) | (simp; omega))).trans (cellNew rfl rfl)
      have q1 : w1.cell? ⟨w.heap.size, 1, none⟩ = some (.int .i64 p) := (hb1.cell (p := ⟨w.heap.size, 1, none⟩) (by first | omega | (simp; done) | (simp; omega))).trans (cellNew rfl rfl)
      have q2 : w1.cell? ⟨w.heap.size, 2, none⟩ = some (.int .i64 s) := (hb1.cell (p := ⟨w.heap.size, 2, none⟩) (by first | omega | (simp; done) | (simp; omega))).trans (cellNew rfl rfl)
      by_cases h0 : 0 ≤ u
      · have h1 : t ≤ u := by omega
        go_wp2_with fail
        go_ret
        exact ⟨ret_bool (by first | (simp; done) | (simp; omega)), bel⟩
      · have h1 : u < 0 := by omega
        go_wp2_with fail
        go_ret
        exact ⟨ret_bool (by first | (simp; done) | (simp; omega)), bel⟩
    · clear h
      have PW := hidAll fun w => refWords t p s w
      generalize wordsC t p s = n at hw PW
      have d : ((len : Int) == n) = false := by rw [beq_eq_false_iff_ne]; exact fun h => hw h.symm
      go_enter Try.func62, Try.ntmps62
      go_wp2_with fail
      refine (PW.out _).mono ?_
      rintro e w1 ⟨rfl, hb1⟩
      have z1 : w.heap.size < w1.heap.size := by have := hb1.size; simp at this; omega
      have hB1 : Below w.heap.size w w1 := bel
      have q0 : w1.cell? ⟨w.heap.size, 0, none⟩ = some (.int .i64 t) := (hb1.cell (p := ⟨w.heap.size, 0, none⟩) (by first | omega | (simp; done) | (simp; omega))).trans (cellNew rfl rfl)
      have q1 : w1.cell? ⟨w.heap.size, 1, none⟩ = some (.int .i64 p) := (hb1.cell (p := ⟨w.heap.size, 1, none⟩) (by first | omega | (simp; done) | (simp; omega))).trans (cellNew rfl rfl)
      have q2 : w1.cell? ⟨w.heap.size, 2, none⟩ = some (.int .i64 s) := (hb1.cell (p := ⟨w.heap.size, 2, none⟩) (by first | omega | (simp; done) | (simp; omega))).trans (cellNew rfl rfl)
      go_wp2_with fail
      go_ret
      exact ⟨rfl, bel⟩

theorem refNumber0 (t p s u : Int) (w : World) (a : Option Addr) (len cap : Nat) (ws : List Nat) (hs : Seen .u64 w a len cap ws) (ho : okW t p s len) (h0 : 0 ≤ u) (h1 : u < t) :
    Calls Try.prog 63 #[.agg #[.int .i64 t, .int .i64 p, .int .i64 s], .slice a len cap, .int .i64 u, .int .i64 0] w fun e w' => e = .returned (.int .i64 (numX (cwN t p u ws 0) : Int)) ∧ Below w.heap.size w w' := by
  have hlc := hs.2.1
  have hlm : cap ≤ maxLen := hs.2.2.1
  obtain ⟨m1, m2, m3⟩ := mkI_bd ho h0 h1
  have CW := hid (show callW t p s u 0 = ((mkI t p u : Nat) : Int) by rw [callW, if_pos ⟨ho.1, ⟨h0, by omega⟩, by omega, by omega⟩]; omega)
  obtain ⟨_, _, _, h4⟩ := id hs
  rcases h4 with ⟨h4, _⟩ | ⟨b0, off, rfl, hc⟩
  · omega
  have cx : w.cell? ⟨b0, off + (mkI t p u), none⟩ = some (.int .u64 (cwN t p u ws 0 : Int)) := hc (mkI t p u + 0) (by omega)
  have hb0 : b0 < w.heap.size := World.block_lt_of_cell? w _ cx
  have i0 : (0 : Int) ≤ (mkI t p u : Int) := by omega
  have i1 : (mkI t p u : Int) < (len : Int) := by omega
  have tn : ((mkI t p u : Int)).toNat = mkI t p u := by omega
  clear hs ho hc m1
  generalize cwN t p u ws 0 = x at *
  generalize mkI t p u = c at *
  by_cases h : 2147483647 < x
  · have N := hid (show numX x = 0 by rw [numX, if_pos h])
    go_enter Try.func63, Try.ntmps63
    go_wp2_with fail
    refine (refCallW t p s u 0 _).mono ?_
    rw [CW.out]
    rintro e w1 ⟨rfl, hb1⟩
    have hB1 : Below w.heap.size w w1 := bel
    have cx1 := (hB1.cell (p := ⟨b0, off + (c), none⟩) hb0).trans cx
    go_wp2_with fail
    go_ret
    exact ⟨ret_int (by simp [N.out]), bel⟩
  · have N := hid (show numX x = x by rw [numX, if_neg h])
    have hh : x ≤ 2147483647 := by omega
    clear h
    go_enter Try.func63, Try.ntmps63
    go_wp2_with fail
    refine (refCallW t p s u 0 _).mono ?_
    rw [CW.out]
    rintro e w1 ⟨rfl, hb1⟩
    have hB1 : Below w.heap.size w w1 := bel
    have cx1 := (hB1.cell (p := ⟨b0, off + (c), none⟩) hb0).trans cx
    go_wp2_with fail
    go_ret
    exact ⟨ret_int (by rw [N.out]), bel⟩

theorem refNumber1 (t p s u : Int) (w : World) (a : Option Addr) (len cap : Nat) (ws : List Nat) (hs : Seen .u64 w a len cap ws) (ho : okW t p s len) (h0 : 0 ≤ u) (h1 : u < t) :
    Calls Try.prog 63 #[.agg #[.int .i64 t, .int .i64 p, .int .i64 s], .slice a len cap, .int .i64 u, .int .i64 1] w fun e w' => e = .returned (.int .i64 (numX (cwN t p u ws 8) : Int)) ∧ Below w.heap.size w w' := by
  have hlc := hs.2.1
  have hlm : cap ≤ maxLen := hs.2.2.1
  obtain ⟨m1, m2, m3⟩ := mkI_bd ho h0 h1
  have CW := hid (show callW t p s u 1 = ((mkI t p u + 8 : Nat) : Int) by rw [callW, if_pos ⟨ho.1, ⟨h0, by omega⟩, by omega, by omega⟩]; omega)
  obtain ⟨_, _, _, h4⟩ := id hs
  rcases h4 with ⟨h4, _⟩ | ⟨b0, off, rfl, hc⟩
  · omega
  have cx : w.cell? ⟨b0, off + (mkI t p u + 8), none⟩ = some (.int .u64 (cwN t p u ws 8 : Int)) := hc (mkI t p u + 8) (by omega)
  have hb0 : b0 < w.heap.size := World.block_lt_of_cell? w _ cx
  have i0 : (0 : Int) ≤ (mkI t p u : Int) + 8 := by omega
  have i1 : (mkI t p u : Int) + 8 < (len : Int) := by omega
  have tn : ((mkI t p u : Int) + 8).toNat = mkI t p u + 8 := by omega
  clear hs ho hc m1
  generalize cwN t p u ws 8 = x at *
  generalize mkI t p u = c at *
  by_cases h : 2147483647 < x
  · have N := hid (show numX x = 0 by rw [numX, if_pos h])
    go_enter Try.func63, Try.ntmps63
    go_wp2_with fail
    refine (refCallW t p s u 1 _).mono ?_
    rw [CW.out]
    rintro e w1 ⟨rfl, hb1⟩
    have hB1 : Below w.heap.size w w1 := bel
    have cx1 := (hB1.cell (p := ⟨b0, off + (c + 8), none⟩) hb0).trans cx
    go_wp2_with fail
    go_ret
    exact ⟨ret_int (by simp [N.out]), bel⟩
  · have N := hid (show numX x = x by rw [numX, if_neg h])
    have hh : x ≤ 2147483647 := by omega
    clear h
    go_enter Try.func63, Try.ntmps63
    go_wp2_with fail
    refine (refCallW t p s u 1 _).mono ?_
    rw [CW.out]
    rintro e w1 ⟨rfl, hb1⟩
    have hB1 : Below w.heap.size w w1 := bel
    have cx1 := (hB1.cell (p := ⟨b0, off + (c + 8), none⟩) hb0).trans cx
    go_wp2_with fail
    go_ret
    exact ⟨ret_int (by rw [N.out]), bel⟩

theorem refLastNo (t p s u : Int) (w : World) (a : Option Addr) (len cap : Nat) (ws : List Nat) (hl : len ≤ cap ∧ cap ≤ maxLen) (h : ¬ (okW t p s len ∧ 0 ≤ u ∧ u < t)) :
    Calls Try.prog 26 #[.agg #[.int .i64 t, .int .i64 p, .int .i64 s], .slice a len cap, .int .i64 u] w fun e w' => e = .returned (.tuple #[.int .i64 0, .int .i64 0, .bool false]) ∧ Below w.heap.size w w' := by
  have H := hid h
  have HL := hid hl
  clear h hl
  go_enter Try.func26, Try.ntmps26
  go_wp2_with fail
  refine (refThereNo t p s u _ a len cap ws HL.out H.out).mono ?_
  rintro e w1 ⟨rfl, hb1⟩
  go_wp2_with fail
  exact bodyPost_ret (v := .tuple #[.int .i64 0, .int .i64 0, .bool false]) (by simp [results, Try.results26, go_sem]) rfl ⟨rfl, bel⟩

set_option maxRecDepth 100000 in
set_option maxHeartbeats 1600000 in
theorem refLastYes (t p s u : Int) (w : World) (a : Option Addr) (len cap : Nat) (ws : List Nat) (hs : Seen .u64 w a len cap ws) (ho : okW t p s len) (h0 : 0 ≤ u) (h1 : u < t) :
    Calls Try.prog 26 #[.agg #[.int .i64 t, .int .i64 p, .int .i64 s], .slice a len cap, .int .i64 u] w fun e w' => e = .returned (.tuple #[.int .i64 (lastN t p u ws : Int), .int .i64 (lastB t p u ws : Int), .bool true]) ∧ Below w.heap.size w w' := by
  have HL := hid (show len ≤ cap ∧ cap ≤ maxLen from ⟨hs.2.1, hs.2.2.1⟩)
  have HS := hid hs
  have HO := hid ho
  have hq := extCell
  clear hs ho
  by_cases hlt : n1N t p u ws < n0N t p u ws
  · have LN := hid (show lastN t p u ws = n0N t p u ws by rw [lastN, if_pos hlt])
    have LB := hid (show lastB t p u ws = 0 by rw [lastB, if_pos hlt])
    have d : decide (numX (cwN t p u ws 8) < numX (cwN t p u ws 0)) = true := by simpa [n0N, n1N] using hlt
    rw [n0N] at LN
    clear hlt
    go_enter Try.func26, Try.ntmps26
    go_wp2_with fail
    refine (refThereYes t p s u _ a len cap ws HL.out HO.out h0 h1).mono ?_
    rintro e w1 ⟨rfl, hb1⟩
    have z1 : w.heap.size < w1.heap.size := by have := hb1.size; simp at this; omega
    have hB1 : Below w.heap.size w w1 := bel
    have q0 : w1.cell? ⟨w.heap.size, 0, none⟩ = some (.int .i64 t) := (hb1.cell (p := ⟨w.heap.size, 0, none⟩) (by first | omega | (simp; done) | (simp; omega))).trans (cellNew rfl rfl)
    have q1 : w1.cell? ⟨w.heap.size, 1, none⟩ = some (.int .i64 p) := (hb1.cell (p := ⟨w.heap.size, 1, none⟩) (by first | omega | (simp; done) | (simp; omega))).trans (cellNew rfl rfl)
    have q2 : w1.cell? ⟨w.heap.size, 2, none⟩ = some (.int .i64 s) := (hb1.cell (p := ⟨w.heap.size, 2, none⟩) (by first | omega | (simp; done) | (simp; omega))).trans (cellNew rfl rfl)
    have hs1 := HS.out.below hB1
    clear hb1
    go_wp2_with fail
    refine regionBelow (by kernel_rfl) (by kernel_rfl) ?_
    repeat (go_big_quiet_step (first | (go_at_call_of 63 (Value.int .i64 0); exact quietBelow (refNumber0 t p s u _ a len cap ws (hs1.below (Ext.below _)) HO.out h0 h1)) | (go_at_call_of 63 (Value.int .i64 1); exact quietBelow (refNumber1 t p s u _ a len cap ws (hs1.below (Ext.below _)) HO.out h0 h1))))
    refine wpQuiet_nil ?_
    intro _ hw'
    obtain ⟨nq, hw''⟩ := hw'
    subst hw''
    have hn2 := nq.below
    have q0 := (hn2.cell (p := ⟨w.heap.size, 0, none⟩) z1).trans q0
    have q1 := (hn2.cell (p := ⟨w.heap.size, 1, none⟩) z1).trans q1
    have q2 := (hn2.cell (p := ⟨w.heap.size, 2, none⟩) z1).trans q2
    have hB3 : Below w.heap.size w nq.to := hB1.trans (hn2.mono (by omega))
    have z3 : w.heap.size < nq.to.heap.size := by have := hn2.size; omega
    have hs3 := hs1.below hn2
    clear hn2 hB1 hs1
    go_wp2_with fail
    refine (refNumber0 t p s u _ a len cap ws hs3 HO.out h0 h1).mono ?_
    rintro e w5 ⟨rfl, hb5⟩
    have hB5 : Below w.heap.size w w5 := hB3.trans (hb5.mono (by omega))
    clear hb5
    go_wp2_with fail
    exact bodyPost_ret (v := .tuple #[.int .i64 (numX (cwN t p u ws 0) : Int), .int .i64 0, .bool true]) (by simp [results, Try.results26, go_sem]) rfl ⟨by rw [LN.out, LB.out]; rfl, hB5⟩
  · have LN := hid (show lastN t p u ws = n1N t p u ws by rw [lastN, if_neg hlt])
    have LB := hid (show lastB t p u ws = 1 by rw [lastB, if_neg hlt])
    have d : decide (numX (cwN t p u ws 8) < numX (cwN t p u ws 0)) = false := by simpa [n0N, n1N] using hlt
    rw [n1N] at LN
    clear hlt
    go_enter Try.func26, Try.ntmps26
    go_wp2_with fail
    refine (refThereYes t p s u _ a len cap ws HL.out HO.out h0 h1).mono ?_
    rintro e w1 ⟨rfl, hb1⟩
    have z1 : w.heap.size < w1.heap.size := by have := hb1.size; simp at this; omega
    have hB1 : Below w.heap.size w w1 := bel
    have q0 : w1.cell? ⟨w.heap.size, 0, none⟩ = some (.int .i64 t) := (hb1.cell (p := ⟨w.heap.size, 0, none⟩) (by first | omega | (simp; done) | (simp; omega))).trans (cellNew rfl rfl)
    have q1 : w1.cell? ⟨w.heap.size, 1, none⟩ = some (.int .i64 p) := (hb1.cell (p := ⟨w.heap.size, 1, none⟩) (by first | omega | (simp; done) | (simp; omega))).trans (cellNew rfl rfl)
    have q2 : w1.cell? ⟨w.heap.size, 2, none⟩ = some (.int .i64 s) := (hb1.cell (p := ⟨w.heap.size, 2, none⟩) (by first | omega | (simp; done) | (simp; omega))).trans (cellNew rfl rfl)
    have hs1 := HS.out.below hB1
    clear hb1
    go_wp2_with fail
    refine regionBelow (by kernel_rfl) (by kernel_rfl) ?_
    repeat (go_big_quiet_step (first | (go_at_call_of 63 (Value.int .i64 0); exact quietBelow (refNumber0 t p s u _ a len cap ws (hs1.below (Ext.below _)) HO.out h0 h1)) | (go_at_call_of 63 (Value.int .i64 1); exact quietBelow (refNumber1 t p s u _ a len cap ws (hs1.below (Ext.below _)) HO.out h0 h1))))
    refine wpQuiet_nil ?_
    intro _ hw'
    obtain ⟨nq, hw''⟩ := hw'
    subst hw''
    have hn2 := nq.below
    have q0 := (hn2.cell (p := ⟨w.heap.size, 0, none⟩) z1).trans q0
    have q1 := (hn2.cell (p := ⟨w.heap.size, 1, none⟩) z1).trans q1
    have q2 := (hn2.cell (p := ⟨w.heap.size, 2, none⟩) z1).trans q2
    have hB3 : Below w.heap.size w nq.to := hB1.trans (hn2.mono (by omega))
    have z3 : w.heap.size < nq.to.heap.size := by have := hn2.size; omega
    have hs3 := hs1.below hn2
    clear hn2 hB1 hs1
    go_wp2_with fail
    refine (refNumber1 t p s u _ a len cap ws hs3 HO.out h0 h1).mono ?_
    rintro e w5 ⟨rfl, hb5⟩
    have hB5 : Below w.heap.size w w5 := hB3.trans (hb5.mono (by omega))
    clear hb5
    go_wp2_with fail
    exact bodyPost_ret (v := .tuple #[.int .i64 (numX (cwN t p u ws 8) : Int), .int .i64 1, .bool true]) (by simp [results, Try.results26, go_sem]) rfl ⟨by rw [LN.out, LB.out]; rfl, hB5⟩
end Go.Proofs.Ytkkhoiahjmfibaa
