/- The walk of the reference's Lay, of layer 28. -/
import Derived.Test.YtkkhoiahjmfibaaRef28b
namespace Go.Proofs.Ytkkhoiahjmfibaa
open Go.RowKit
set_option linter.unusedVariables false
set_option linter.unusedSimpArgs false

/-- The words, as a call is laid. -/
def layF (ws : List Nat) (c m kk aa bb : Nat) : Nat → List Nat
  | 0 => ws.set c m
  | 1 => (ws.set c m).set (c + 1) kk
  | 2 => ((ws.set c m).set (c + 1) kk).set (c + 2) aa
  | _ => (((ws.set c m).set (c + 1) kk).set (c + 2) aa).set (c + 3) bb
theorem layF_length (ws : List Nat) (c m kk aa bb k : Nat) : (layF ws c m kk aa bb k).length = ws.length := by
  match k with
  | 0 => simp [layF]
  | 1 => simp [layF]
  | 2 => simp [layF]
  | k + 3 => simp [layF]
theorem set_at (ws : List Nat) (i x k : Nat) : (ws.set i x)[k]?.getD 0 = if i = k ∧ k < ws.length then x else ws[k]?.getD 0 := by
  by_cases h : i = k
  · subst h
    by_cases hl : i < ws.length
    · rw [if_pos ⟨rfl, hl⟩, List.getElem?_set_self hl]; rfl
    · rw [if_neg (fun g => hl g.2), List.getElem?_eq_none (by rw [List.length_set]; omega), List.getElem?_eq_none (by omega)]
  · rw [if_neg (fun g => h g.1), List.getElem?_set_ne h]
theorem layF_splice (ws : List Nat) (c m kk aa bb : Nat) (h : c + 4 ≤ ws.length) : layF ws c m kk aa bb 3 = splice ws c [m, kk, aa, bb] := by
  have hl : (layF ws c m kk aa bb 3).length = (splice ws c [m, kk, aa, bb]).length := by
    rw [layF_length, length_splice _ _ _ (by simpa using h)]
  refine List.ext_getElem? fun i => ?_
  by_cases hi : i < ws.length
  · have e := splice_at ws [m, kk, aa, bb] c i (by simpa using h)
    have e2 : (layF ws c m kk aa bb 3)[i]?.getD 0 = (splice ws c [m, kk, aa, bb])[i]?.getD 0 := by
      rw [e]
      simp only [layF, set_at, List.length_set]
      by_cases c0 : i = c
      · subst c0; simp [hi]
      by_cases c1 : i = c + 1
      · subst c1; simp [hi]
      by_cases c2 : i = c + 2
      · subst c2; simp [hi]
      by_cases c3 : i = c + 3
      · subst c3; simp [hi]
      · rw [if_neg (by omega), if_neg (by omega), if_neg (by omega), if_neg (by omega), if_neg (by simp; omega)]
    have h1 : i < (layF ws c m kk aa bb 3).length := by rw [layF_length]; exact hi
    have h2 : i < (splice ws c [m, kk, aa, bb]).length := by rw [← hl]; exact h1
    rw [List.getElem?_eq_getElem h1, List.getElem?_eq_getElem h2] at e2 ⊢
    exact congrArg some e2
  · rw [List.getElem?_eq_none (by rw [layF_length]; omega), List.getElem?_eq_none (by rw [← hl, layF_length]; omega)]
theorem cellFar {W : World} {g o b j : Nat} {v u : Value} (h : W.cell? ⟨b, j, none⟩ = some u) (hne : g ≠ b) : (W.setCell ⟨g, o, none⟩ v).cell? ⟨b, j, none⟩ = some u := by
  rw [World.cell?_setCell_far _ _ _ _ hne]; exact h

theorem refLayCNo (t p s u : Int) (w : World) (a : Option Addr) (len cap : Nat) (ws : List Nat) (num ok oa ob : Int) (hl : len ≤ cap ∧ cap ≤ maxLen) (h : ¬ (okW t p s len ∧ 0 ≤ u ∧ u < t)) :
    Calls Try.prog 30 #[.agg #[.int .i64 t, .int .i64 p, .int .i64 s], .slice a len cap, .int .i64 u, .int .i64 num, .agg #[.int .i64 ok, .int .i64 oa, .int .i64 ob]] w (OptPost 46 .u64 w none) := by
  have H := hid h
  have HL := hid hl
  clear h hl
  go_enter Try.func30, Try.ntmps30
  go_wp2_with fail
  refine (refLastNo t p s u _ a len cap ws HL.out H.out).mono ?_
  rintro e w1 ⟨rfl, hb1⟩
  have hC1 : Below (w.heap.size + 2) ((w.alloc (.cells #[.int .i64 t, .int .i64 p, .int .i64 s] 23)).alloc (.cells #[.int .i64 ok, .int .i64 oa, .int .i64 ob] 55)) w1 := hb1.mono (by simp)
  have z1 : w.heap.size < w1.heap.size := by have := hb1.size; simp at this; omega
  have z1' : w.heap.size + 1 < w1.heap.size := by have := hb1.size; simp at this; omega
  have hB1 : Below w.heap.size w w1 := bel
  have q0 : w1.cell? ⟨w.heap.size, 0, none⟩ = some (.int .i64 t) := (hC1.cell (p := ⟨w.heap.size, 0, none⟩) (by first | omega | (simp; done) | (simp; omega))).trans (cellOld (by simp) (cellNew rfl rfl))
  have q1 : w1.cell? ⟨w.heap.size, 1, none⟩ = some (.int .i64 p) := (hC1.cell (p := ⟨w.heap.size, 1, none⟩) (by first | omega | (simp; done) | (simp; omega))).trans (cellOld (by simp) (cellNew rfl rfl))
  have q2 : w1.cell? ⟨w.heap.size, 2, none⟩ = some (.int .i64 s) := (hC1.cell (p := ⟨w.heap.size, 2, none⟩) (by first | omega | (simp; done) | (simp; omega))).trans (cellOld (by simp) (cellNew rfl rfl))
  have q3 : w1.cell? ⟨w.heap.size + 1, 0, none⟩ = some (.int .i64 ok) := (hC1.cell (p := ⟨w.heap.size + 1, 0, none⟩) (by first | omega | (simp; done) | (simp; omega))).trans (cellNew (by simp) rfl)
  have q4 : w1.cell? ⟨w.heap.size + 1, 1, none⟩ = some (.int .i64 oa) := (hC1.cell (p := ⟨w.heap.size + 1, 1, none⟩) (by first | omega | (simp; done) | (simp; omega))).trans (cellNew (by simp) rfl)
  have q5 : w1.cell? ⟨w.heap.size + 1, 2, none⟩ = some (.int .i64 ob) := (hC1.cell (p := ⟨w.heap.size + 1, 2, none⟩) (by first | omega | (simp; done) | (simp; omega))).trans (cellNew (by simp) rfl)
  clear hb1 hC1
  go_wp2_with fail
  go_ret2
  exact .inr ⟨rfl, rfl, hB1⟩

set_option maxRecDepth 100000 in
theorem refLayCBad (t p s u : Int) (w : World) (a : Option Addr) (len cap : Nat) (ws : List Nat) (num ok oa ob : Int) (hs : Seen .u64 w a len cap ws) (ho : okW t p s len) (h0 : 0 ≤ u) (h1 : u < t) (h : layB t p u ws num ok oa ob = false) :
    Calls Try.prog 30 #[.agg #[.int .i64 t, .int .i64 p, .int .i64 s], .slice a len cap, .int .i64 u, .int .i64 num, .agg #[.int .i64 ok, .int .i64 oa, .int .i64 ob]] w (OptPost 46 .u64 w none) := by
  have HS := hid hs
  have HO := hid ho
  clear hs ho
  by_cases g1 : num ≤ (lastN t p u ws : Int)
  · clear h
    generalize hB : lastB t p u ws = bb
    generalize hN : lastN t p u ws = n at g1
    go_enter Try.func30, Try.ntmps30
    go_wp2_with fail
    refine (refLastYes t p s u _ a len cap ws (HS.out.below bel) HO.out h0 h1).mono ?_
    rw [hB, hN]
    rintro e w1 ⟨rfl, hb1⟩
    have hC1 : Below (w.heap.size + 2) ((w.alloc (.cells #[.int .i64 t, .int .i64 p, .int .i64 s] 23)).alloc (.cells #[.int .i64 ok, .int .i64 oa, .int .i64 ob] 55)) w1 := hb1.mono (by simp)
    have z1 : w.heap.size < w1.heap.size := by have := hb1.size; simp at this; omega
    have z1' : w.heap.size + 1 < w1.heap.size := by have := hb1.size; simp at this; omega
    have hB1 : Below w.heap.size w w1 := bel
    have q0 : w1.cell? ⟨w.heap.size, 0, none⟩ = some (.int .i64 t) := (hC1.cell (p := ⟨w.heap.size, 0, none⟩) (by first | omega | (simp; done) | (simp; omega))).trans (cellOld (by simp) (cellNew rfl rfl))
    have q1 : w1.cell? ⟨w.heap.size, 1, none⟩ = some (.int .i64 p) := (hC1.cell (p := ⟨w.heap.size, 1, none⟩) (by first | omega | (simp; done) | (simp; omega))).trans (cellOld (by simp) (cellNew rfl rfl))
    have q2 : w1.cell? ⟨w.heap.size, 2, none⟩ = some (.int .i64 s) := (hC1.cell (p := ⟨w.heap.size, 2, none⟩) (by first | omega | (simp; done) | (simp; omega))).trans (cellOld (by simp) (cellNew rfl rfl))
    have q3 : w1.cell? ⟨w.heap.size + 1, 0, none⟩ = some (.int .i64 ok) := (hC1.cell (p := ⟨w.heap.size + 1, 0, none⟩) (by first | omega | (simp; done) | (simp; omega))).trans (cellNew (by simp) rfl)
    have q4 : w1.cell? ⟨w.heap.size + 1, 1, none⟩ = some (.int .i64 oa) := (hC1.cell (p := ⟨w.heap.size + 1, 1, none⟩) (by first | omega | (simp; done) | (simp; omega))).trans (cellNew (by simp) rfl)
    have q5 : w1.cell? ⟨w.heap.size + 1, 2, none⟩ = some (.int .i64 ob) := (hC1.cell (p := ⟨w.heap.size + 1, 2, none⟩) (by first | omega | (simp; done) | (simp; omega))).trans (cellNew (by simp) rfl)
    clear hb1 hC1
    go_wp2_with fail
    go_ret2
    exact .inr ⟨rfl, rfl, hB1⟩
  by_cases g2 : 2147483647 < num
  · clear h
    have d1 : decide (num ≤ (lastN t p u ws : Int)) = false := by simp; omega
    generalize hB : lastB t p u ws = bb
    generalize hN : lastN t p u ws = n at g1 d1
    go_enter Try.func30, Try.ntmps30
    go_wp2_with fail
    refine (refLastYes t p s u _ a len cap ws (HS.out.below bel) HO.out h0 h1).mono ?_
    rw [hB, hN]
    rintro e w1 ⟨rfl, hb1⟩
    have hC1 : Below (w.heap.size + 2) ((w.alloc (.cells #[.int .i64 t, .int .i64 p, .int .i64 s] 23)).alloc (.cells #[.int .i64 ok, .int .i64 oa, .int .i64 ob] 55)) w1 := hb1.mono (by simp)
    have z1 : w.heap.size < w1.heap.size := by have := hb1.size; simp at this; omega
    have z1' : w.heap.size + 1 < w1.heap.size := by have := hb1.size; simp at this; omega
    have hB1 : Below w.heap.size w w1 := bel
    have q0 : w1.cell? ⟨w.heap.size, 0, none⟩ = some (.int .i64 t) := (hC1.cell (p := ⟨w.heap.size, 0, none⟩) (by first | omega | (simp; done) | (simp; omega))).trans (cellOld (by simp) (cellNew rfl rfl))
    have q1 : w1.cell? ⟨w.heap.size, 1, none⟩ = some (.int .i64 p) := (hC1.cell (p := ⟨w.heap.size, 1, none⟩) (by first | omega | (simp; done) | (simp; omega))).trans (cellOld (by simp) (cellNew rfl rfl))
    have q2 : w1.cell? ⟨w.heap.size, 2, none⟩ = some (.int .i64 s) := (hC1.cell (p := ⟨w.heap.size, 2, none⟩) (by first | omega | (simp; done) | (simp; omega))).trans (cellOld (by simp) (cellNew rfl rfl))
    have q3 : w1.cell? ⟨w.heap.size + 1, 0, none⟩ = some (.int .i64 ok) := (hC1.cell (p := ⟨w.heap.size + 1, 0, none⟩) (by first | omega | (simp; done) | (simp; omega))).trans (cellNew (by simp) rfl)
    have q4 : w1.cell? ⟨w.heap.size + 1, 1, none⟩ = some (.int .i64 oa) := (hC1.cell (p := ⟨w.heap.size + 1, 1, none⟩) (by first | omega | (simp; done) | (simp; omega))).trans (cellNew (by simp) rfl)
    have q5 : w1.cell? ⟨w.heap.size + 1, 2, none⟩ = some (.int .i64 ob) := (hC1.cell (p := ⟨w.heap.size + 1, 2, none⟩) (by first | omega | (simp; done) | (simp; omega))).trans (cellNew (by simp) rfl)
    clear hb1 hC1
    go_wp2_with fail
    go_ret2
    exact .inr ⟨rfl, rfl, hB1⟩
  · have hr : rightB ok oa ob = false := by
      cases hr : rightB ok oa ob
      · rfl
      · rw [layB, hr, decide_eq_true ⟨by omega, by omega⟩] at h
        cases h
    have RB := hid hr
    have d1 : decide (num ≤ (lastN t p u ws : Int)) = false := by simp; omega
    have d2 : decide (2147483647 < num) = false := by simp; omega
    clear h hr
    generalize hB : lastB t p u ws = bb
    generalize hN : lastN t p u ws = n at g1 d1
    go_enter Try.func30, Try.ntmps30
    go_wp2_with fail
    refine (refLastYes t p s u _ a len cap ws (HS.out.below bel) HO.out h0 h1).mono ?_
    rw [hB, hN]
    rintro e w1 ⟨rfl, hb1⟩
    have hC1 : Below (w.heap.size + 2) ((w.alloc (.cells #[.int .i64 t, .int .i64 p, .int .i64 s] 23)).alloc (.cells #[.int .i64 ok, .int .i64 oa, .int .i64 ob] 55)) w1 := hb1.mono (by simp)
    have z1 : w.heap.size < w1.heap.size := by have := hb1.size; simp at this; omega
    have z1' : w.heap.size + 1 < w1.heap.size := by have := hb1.size; simp at this; omega
    have hB1 : Below w.heap.size w w1 := bel
    have q0 : w1.cell? ⟨w.heap.size, 0, none⟩ = some (.int .i64 t) := (hC1.cell (p := ⟨w.heap.size, 0, none⟩) (by first | omega | (simp; done) | (simp; omega))).trans (cellOld (by simp) (cellNew rfl rfl))
    have q1 : w1.cell? ⟨w.heap.size, 1, none⟩ = some (.int .i64 p) := (hC1.cell (p := ⟨w.heap.size, 1, none⟩) (by first | omega | (simp; done) | (simp; omega))).trans (cellOld (by simp) (cellNew rfl rfl))
    have q2 : w1.cell? ⟨w.heap.size, 2, none⟩ = some (.int .i64 s) := (hC1.cell (p := ⟨w.heap.size, 2, none⟩) (by first | omega | (simp; done) | (simp; omega))).trans (cellOld (by simp) (cellNew rfl rfl))
    have q3 : w1.cell? ⟨w.heap.size + 1, 0, none⟩ = some (.int .i64 ok) := (hC1.cell (p := ⟨w.heap.size + 1, 0, none⟩) (by first | omega | (simp; done) | (simp; omega))).trans (cellNew (by simp) rfl)
    have q4 : w1.cell? ⟨w.heap.size + 1, 1, none⟩ = some (.int .i64 oa) := (hC1.cell (p := ⟨w.heap.size + 1, 1, none⟩) (by first | omega | (simp; done) | (simp; omega))).trans (cellNew (by simp) rfl)
    have q5 : w1.cell? ⟨w.heap.size + 1, 2, none⟩ = some (.int .i64 ob) := (hC1.cell (p := ⟨w.heap.size + 1, 2, none⟩) (by first | omega | (simp; done) | (simp; omega))).trans (cellNew (by simp) rfl)
    clear hb1 hC1
    go_wp2_with fail
    refine (refRight ok oa ob _).mono ?_
    rw [RB.out]
    rintro e w2 ⟨rfl, hb2⟩
    have hB2 : Below w.heap.size w w2 := hB1.trans (hb2.mono (by omega))
    have z2 : w.heap.size < w2.heap.size := by have := hb2.size; omega
    have z2' : w.heap.size + 1 < w2.heap.size := by have := hb2.size; omega
    have q0 := (hb2.cell (p := ⟨w.heap.size, 0, none⟩) z1).trans q0
    have q1 := (hb2.cell (p := ⟨w.heap.size, 1, none⟩) z1).trans q1
    have q2 := (hb2.cell (p := ⟨w.heap.size, 2, none⟩) z1).trans q2
    have q3 := (hb2.cell (p := ⟨w.heap.size + 1, 0, none⟩) z1').trans q3
    have q4 := (hb2.cell (p := ⟨w.heap.size + 1, 1, none⟩) z1').trans q4
    have q5 := (hb2.cell (p := ⟨w.heap.size + 1, 2, none⟩) z1').trans q5
    clear hb2 hB1
    go_wp2_with fail
    go_ret2
    exact .inr ⟨rfl, rfl, hB2⟩

set_option maxRecDepth 100000 in
set_option maxHeartbeats 6400000 in
theorem refLayCGood0 (t p s u : Int) (w : World) (a : Option Addr) (len cap : Nat) (ws : List Nat) (num ok oa ob : Int) (hs : Seen .u64 w a len cap ws) (ho : okW t p s len) (h0 : 0 ≤ u) (h1 : u < t) (k1 : -9223372036854775808 ≤ ok) (k2 : ok ≤ 9223372036854775807) (hr : rightB ok oa ob = true) (hn1 : (lastN t p u ws : Int) < num) (hn2 : num ≤ 2147483647) (hb : lastB t p u ws = 0) :
    Calls Try.prog 30 #[.agg #[.int .i64 t, .int .i64 p, .int .i64 s], .slice a len cap, .int .i64 u, .int .i64 num, .agg #[.int .i64 ok, .int .i64 oa, .int .i64 ob]] w (OptPost 46 .u64 w (layC t p u ws num ok oa ob)) := by
  obtain ⟨kk, hkk, _⟩ := wrapNat ok
  obtain ⟨aa, haa, _⟩ := wrapNat oa
  obtain ⟨bb, hbb, _⟩ := wrapNat ob
  obtain ⟨m, rfl⟩ : ∃ m : Nat, num = (m : Int) := ⟨num.toNat, by omega⟩
  obtain ⟨m1, m2, m3⟩ := mkI_bd ho h0 h1
  obtain ⟨ew, hb3, hb4⟩ := okW_words ho
  have CW := hid (show callW t p s u 1 = ((mkI t p u + 8 : Nat) : Int) by rw [callW, if_pos ⟨ho.1, ⟨h0, by omega⟩, by omega, by omega⟩]; omega)
  have LC0 : layC t p u ws (m : Int) ok oa ob = some (layW t p u ws (m : Int) ok oa ob) := by
    have hl : layB t p u ws (m : Int) ok oa ob = true := by rw [layB, hr, decide_eq_true ⟨hn1, hn2⟩]; rfl
    rw [layC, if_pos hl]
  have LW0 : layF ws (mkI t p u + 8) m kk aa bb 3 = layW t p u ws (m : Int) ok oa ob := by rw [layF_splice _ _ _ _ _ _ (by rw [hs.1]; omega), layW, hb, hkk, haa, hbb]; rfl
  obtain ⟨XS, hXS⟩ : ∃ XS, XS = layW t p u ws (m : Int) ok oa ob := ⟨_, rfl⟩
  rw [← hXS] at LC0 LW0
  have LC := hid LC0
  have LW := hid LW0
  have HS := hid hs
  have HO := hid ho
  have RB := hid hr
  have hlc := hs.2.1
  have hlm : cap ≤ maxLen := hs.2.2.1
  have LBB := hid hb
  have mc : mkI t p u + 8 + 4 ≤ len := by omega
  clear LC0 LW0 hXS hs ho hr ew m1 hb m2 m3
  have d1 : decide ((m : Int) ≤ (lastN t p u ws : Int)) = false := by simp; omega
  have d2 : decide (2147483647 < (m : Int)) = false := by simp; omega
  generalize hNN : lastN t p u ws = n at hn1 d1
  have LNN := hid hNN
  clear hNN
  generalize mkI t p u + 8 = c at *
  go_enter Try.func30, Try.ntmps30
  go_wp2_with fail
  refine (refLastYes t p s u _ a len cap ws (HS.out.below bel) HO.out h0 h1).mono ?_
  rw [LBB.out, LNN.out]
  rintro e w1 ⟨rfl, hb1⟩
  have hC1 : Below (w.heap.size + 2) ((w.alloc (.cells #[.int .i64 t, .int .i64 p, .int .i64 s] 23)).alloc (.cells #[.int .i64 ok, .int .i64 oa, .int .i64 ob] 55)) w1 := hb1.mono (by simp)
  have z1 : w.heap.size < w1.heap.size := by have := hb1.size; simp at this; omega
  have z1' : w.heap.size + 1 < w1.heap.size := by have := hb1.size; simp at this; omega
  have hB1 : Below w.heap.size w w1 := bel
  have q0 : w1.cell? ⟨w.heap.size, 0, none⟩ = some (.int .i64 t) := (hC1.cell (p := ⟨w.heap.size, 0, none⟩) (by first | omega | (simp; done) | (simp; omega))).trans (cellOld (by simp) (cellNew rfl rfl))
  have q1 : w1.cell? ⟨w.heap.size, 1, none⟩ = some (.int .i64 p) := (hC1.cell (p := ⟨w.heap.size, 1, none⟩) (by first | omega | (simp; done) | (simp; omega))).trans (cellOld (by simp) (cellNew rfl rfl))
  have q2 : w1.cell? ⟨w.heap.size, 2, none⟩ = some (.int .i64 s) := (hC1.cell (p := ⟨w.heap.size, 2, none⟩) (by first | omega | (simp; done) | (simp; omega))).trans (cellOld (by simp) (cellNew rfl rfl))
  have q3 : w1.cell? ⟨w.heap.size + 1, 0, none⟩ = some (.int .i64 ok) := (hC1.cell (p := ⟨w.heap.size + 1, 0, none⟩) (by first | omega | (simp; done) | (simp; omega))).trans (cellNew (by simp) rfl)
  have q4 : w1.cell? ⟨w.heap.size + 1, 1, none⟩ = some (.int .i64 oa) := (hC1.cell (p := ⟨w.heap.size + 1, 1, none⟩) (by first | omega | (simp; done) | (simp; omega))).trans (cellNew (by simp) rfl)
  have q5 : w1.cell? ⟨w.heap.size + 1, 2, none⟩ = some (.int .i64 ob) := (hC1.cell (p := ⟨w.heap.size + 1, 2, none⟩) (by first | omega | (simp; done) | (simp; omega))).trans (cellNew (by simp) rfl)
  clear hb1 hC1
  go_wp2_with fail
  refine (refRight ok oa ob _).mono ?_
  rw [RB.out]
  rintro e w2 ⟨rfl, hb2⟩
  have hB2 : Below w.heap.size w w2 := hB1.trans (hb2.mono (by omega))
  have z2 : w.heap.size < w2.heap.size := by have := hb2.size; omega
  have z2' : w.heap.size + 1 < w2.heap.size := by have := hb2.size; omega
  have q0 := (hb2.cell (p := ⟨w.heap.size, 0, none⟩) z1).trans q0
  have q1 := (hb2.cell (p := ⟨w.heap.size, 1, none⟩) z1).trans q1
  have q2 := (hb2.cell (p := ⟨w.heap.size, 2, none⟩) z1).trans q2
  have q3 := (hb2.cell (p := ⟨w.heap.size + 1, 0, none⟩) z1').trans q3
  have q4 := (hb2.cell (p := ⟨w.heap.size + 1, 1, none⟩) z1').trans q4
  have q5 := (hb2.cell (p := ⟨w.heap.size + 1, 2, none⟩) z1').trans q5
  clear hb2 hB1
  have hs2 := HS.out.below hB2
  go_wp2_with (at_builtin; refine wpAppend rfl (.tmp 43) (.tmp 44) 24 46 rfl .u64 (.int .u64 0) 8 Try.underlying24 infoU64 rfl _ w2.heap.size _ [] rfl (Own.built _ _ _ _ [] _ 0 (Nat.le_refl _) rfl (by decide) rfl) _ _ _ ws rfl (hs2.below ((Below.refl _ _).alloc (Nat.le_refl _) _)) (by simp [maxLen]; omega) (by simp; omega) (by simp) ?_; intro v' w3 hown3 hgrow3; have hb3' : Below w2.heap.size w2 w3 := ((Below.refl _ _).alloc (Nat.le_refl _) _).grown hgrow3 (by simp) (by intro k hk; cases hk; exact Nat.le_refl _); clear hgrow3; rw [List.nil_append] at hown3; obtain ⟨g3, cap3, hv3, hg3, hg3', _⟩ := hown3.form (by rw [HS.out.1]; omega); rw [HS.out.1] at hv3; subst hv3; have hB3 : Below w.heap.size w w3 := hB2.trans (hb3'.mono (by omega)); have z3 : w.heap.size < w3.heap.size := (by omega); have z3' : w.heap.size + 1 < w3.heap.size := (by omega); have q0 := (hb3'.cell (p := ⟨w.heap.size, 0, none⟩) z2).trans q0; have q1 := (hb3'.cell (p := ⟨w.heap.size, 1, none⟩) z2).trans q1; have q2 := (hb3'.cell (p := ⟨w.heap.size, 2, none⟩) z2).trans q2; have q3 := (hb3'.cell (p := ⟨w.heap.size + 1, 0, none⟩) z2').trans q3; have q4 := (hb3'.cell (p := ⟨w.heap.size + 1, 1, none⟩) z2').trans q4; have q5 := (hb3'.cell (p := ⟨w.heap.size + 1, 2, none⟩) z2').trans q5; clear hb3' hs2 hB2)
  refine (refCallW t p s u 1 _).mono ?_
  rw [CW.out]
  rintro e w4 ⟨rfl, hb4'⟩
  have z4 : w.heap.size < w4.heap.size := by have := hb4'.size; omega
  have z4' : w.heap.size + 1 < w4.heap.size := by have := hb4'.size; omega
  have hB4 : Below w.heap.size w w4 := hB3.trans (hb4'.mono (by omega))
  have zg4 : g3 < w4.heap.size := by have := hb4'.size; omega
  have hO4 := hown3.kept hb4' (Nat.le_refl _)
  have q0 := (hb4'.cell (p := ⟨w.heap.size, 0, none⟩) z3).trans q0
  have q1 := (hb4'.cell (p := ⟨w.heap.size, 1, none⟩) z3).trans q1
  have q2 := (hb4'.cell (p := ⟨w.heap.size, 2, none⟩) z3).trans q2
  have q3 := (hb4'.cell (p := ⟨w.heap.size + 1, 0, none⟩) z3').trans q3
  have q4 := (hb4'.cell (p := ⟨w.heap.size + 1, 1, none⟩) z3').trans q4
  have q5 := (hb4'.cell (p := ⟨w.heap.size + 1, 2, none⟩) z3').trans q5
  clear hb4' hown3 hB3
  go_wp2_with fail
  refine (refOpWords ok oa ob _ k1 k2).mono ?_
  rw [hkk, haa, hbb]
  rintro e w5 ⟨rfl, hb5⟩
  have hB5 : Below w.heap.size w w5 := hB4.trans (hb5.mono (by omega))
  have zg5 : g3 < w5.heap.size := by have := hb5.size; omega
  have hO5 := hO4.kept hb5 (Nat.le_refl _)
  clear hb5 hO4 hB4 q0 q1 q2 q3 q4 q5
  obtain ⟨gx, hgx⟩ : ∃ gx, gx = w5.heap.size := ⟨_, rfl⟩
  obtain ⟨w6, hw6⟩ : ∃ x : World, x = w5.alloc (.cells #[.int .u64 (kk : Int), .int .u64 (aa : Int), .int .u64 (bb : Int)] 103) := ⟨_, rfl⟩
  have x0 : w6.cell? ⟨gx, 0, none⟩ = some (.int .u64 (kk : Int)) := by rw [hw6, hgx]; exact cellNew rfl rfl
  have x1 : w6.cell? ⟨gx, 1, none⟩ = some (.int .u64 (aa : Int)) := by rw [hw6, hgx]; exact cellNew rfl rfl
  have x2 : w6.cell? ⟨gx, 2, none⟩ = some (.int .u64 (bb : Int)) := by rw [hw6, hgx]; exact cellNew rfl rfl
  have hB6 : Below w.heap.size w w6 := by rw [hw6]; exact hB5.alloc (by omega) _
  have hO6 := hO5.kept (B := w5.heap.size) (w' := w6) (by rw [hw6]; exact (Below.refl _ _).alloc (Nat.le_refl _) _) (Nat.le_refl _)
  have zg6 : g3 < w6.heap.size := by rw [hw6]; simp; omega
  have zx6 : gx < w6.heap.size := by rw [hw6, hgx]; simp
  have ng : g3 ≠ gx := by omega
  have WL := hid HS.out.1
  have hcy := hO6.cell WL.out c (by omega)
  have hfy := hO6.unfrozen WL.out c
  generalize ws[c]?.getD 0 = y2 at hcy
  have hO7 := hO6.stored WL.out c m
  have x0' := cellFar (o := c) (v := .int .u64 (m : Int)) x0 ng
  have x1' := cellFar (o := c) (v := .int .u64 (m : Int)) x1 ng
  have x2' := cellFar (o := c) (v := .int .u64 (m : Int)) x2 ng
  have hB7 := hB6.setCell (p := ⟨g3, c, none⟩) (by show w.heap.size ≤ g3; omega) (.int .u64 (m : Int))
  have zg7 : g3 < (w6.setCell ⟨g3, c, none⟩ (.int .u64 (m : Int))).heap.size := by simpa using zg6
  have zx7 : gx < (w6.setCell ⟨g3, c, none⟩ (.int .u64 (m : Int))).heap.size := by simpa using zx6
  have ic0 : (0 : Int) ≤ (c : Int) := by omega
  have ic1 : (c : Int) < (len : Int) := by omega
  go_upto_region 7 with (fail)
  rw [← hw6, ← hgx]
  clear hw6 hgx hO5 hB5
  go_wp2_with fail
  clear hcy hfy x0 x1 x2 hB6 hO6
  go_loopw [18] (fun i wr => ∃ k : Nat, k ≤ 3 ∧ i = .int .i64 k ∧ Own 46 .u64 wr w2.heap.size (.slice (some ⟨g3, 0, none⟩) len cap3) (layF ws c m kk aa bb k) ∧ wr.cell? ⟨gx, 0, none⟩ = some (.int .u64 (kk : Int)) ∧ wr.cell? ⟨gx, 1, none⟩ = some (.int .u64 (aa : Int)) ∧ wr.cell? ⟨gx, 2, none⟩ = some (.int .u64 (bb : Int)) ∧ Below w.heap.size w wr ∧ g3 < wr.heap.size ∧ gx < wr.heap.size) (fun i _ => 3 - (intOf i).toNat)
  case atStart => exact ⟨0, by omega, rfl, hO7, x0', x1', x2', hB7, zg7, zx7⟩
  case round =>
    clear hO7 x0' x1' x2' hB7 zg7 zx7
    obtain ⟨k, hk, rfl, hO, x0, x1, x2, hB, hgr, hxr⟩ := hrel
    have ll := hid ((layF_length ws c m kk aa bb k).trans HS.out.1)
    have hk3 : k = 0 ∨ k = 1 ∨ k = 2 ∨ k = 3 := by omega
    rcases hk3 with rfl | rfl | rfl | rfl
    · have i0 : (0 : Int) ≤ (c : Int) + 1 + 0 := by omega
      have i1 : (c : Int) + 1 + 0 < (len : Int) := by omega
      have wr1 : IntKind.i64.wrap ((c : Int) + 1) = (c : Int) + 1 := IntWalk.i64_in _ (by omega)
      have wr2 : IntKind.i64.wrap ((c : Int) + 1 + 0) = (c : Int) + 1 + 0 := IntWalk.i64_in _ (by omega)
      have tn : ((c : Int) + 1 + 0).toNat = c + 1 := by omega
      have hcy := hO.cell ll.out (c + 1) (by omega)
      have hfy := hO.unfrozen ll.out (c + 1)
      generalize (layF ws c m kk aa bb 0)[c + 1]?.getD 0 = y2 at hcy
      have hOB := hO.stored ll.out (c + 1) kk
      go_wp2_with fail
      go_roundw
      case rel => exact ⟨1, by omega, by go_num, hOB, cellFar x0 ng, cellFar x1 ng, cellFar x2 ng, hB.setCell (by show w.heap.size ≤ g3; omega) _, by simp; omega, by simp; omega⟩
      case measure => simp [intOf]
    · have i0 : (0 : Int) ≤ (c : Int) + 1 + 1 := by omega
      have i1 : (c : Int) + 1 + 1 < (len : Int) := by omega
      have wr1 : IntKind.i64.wrap ((c : Int) + 1) = (c : Int) + 1 := IntWalk.i64_in _ (by omega)
      have wr2 : IntKind.i64.wrap ((c : Int) + 1 + 1) = (c : Int) + 1 + 1 := IntWalk.i64_in _ (by omega)
      have tn : ((c : Int) + 1 + 1).toNat = c + 2 := by omega
      have hcy := hO.cell ll.out (c + 2) (by omega)
      have hfy := hO.unfrozen ll.out (c + 2)
      generalize (layF ws c m kk aa bb 1)[c + 2]?.getD 0 = y2 at hcy
      have hOB := hO.stored ll.out (c + 2) aa
      go_wp2_with fail
      go_roundw
      case rel => exact ⟨2, by omega, by go_num, hOB, cellFar x0 ng, cellFar x1 ng, cellFar x2 ng, hB.setCell (by show w.heap.size ≤ g3; omega) _, by simp; omega, by simp; omega⟩
      case measure => simp [intOf]
    · have i0 : (0 : Int) ≤ (c : Int) + 1 + 2 := by omega
      have i1 : (c : Int) + 1 + 2 < (len : Int) := by omega
      have wr1 : IntKind.i64.wrap ((c : Int) + 1) = (c : Int) + 1 := IntWalk.i64_in _ (by omega)
      have wr2 : IntKind.i64.wrap ((c : Int) + 1 + 2) = (c : Int) + 1 + 2 := IntWalk.i64_in _ (by omega)
      have tn : ((c : Int) + 1 + 2).toNat = c + 3 := by omega
      have hcy := hO.cell ll.out (c + 3) (by omega)
      have hfy := hO.unfrozen ll.out (c + 3)
      generalize (layF ws c m kk aa bb 2)[c + 3]?.getD 0 = y2 at hcy
      have hOB := hO.stored ll.out (c + 3) bb
      go_wp2_with fail
      go_roundw
      case rel => exact ⟨3, by omega, by go_num, hOB, cellFar x0 ng, cellFar x1 ng, cellFar x2 ng, hB.setCell (by show w.heap.size ≤ g3; omega) _, by simp; omega, by simp; omega⟩
      case measure => simp [intOf]
    · rw [LW.out] at hO
      clear x0 x1 x2
      go_wp2_with fail
      go_ret2
      exact .inl ⟨_, LC.out, _, _, _, rfl, hO.rebase (by omega), hB⟩

set_option maxRecDepth 100000 in
set_option maxHeartbeats 6400000 in
theorem refLayCGood1 (t p s u : Int) (w : World) (a : Option Addr) (len cap : Nat) (ws : List Nat) (num ok oa ob : Int) (hs : Seen .u64 w a len cap ws) (ho : okW t p s len) (h0 : 0 ≤ u) (h1 : u < t) (k1 : -9223372036854775808 ≤ ok) (k2 : ok ≤ 9223372036854775807) (hr : rightB ok oa ob = true) (hn1 : (lastN t p u ws : Int) < num) (hn2 : num ≤ 2147483647) (hb : lastB t p u ws = 1) :
    Calls Try.prog 30 #[.agg #[.int .i64 t, .int .i64 p, .int .i64 s], .slice a len cap, .int .i64 u, .int .i64 num, .agg #[.int .i64 ok, .int .i64 oa, .int .i64 ob]] w (OptPost 46 .u64 w (layC t p u ws num ok oa ob)) := by
  obtain ⟨kk, hkk, _⟩ := wrapNat ok
  obtain ⟨aa, haa, _⟩ := wrapNat oa
  obtain ⟨bb, hbb, _⟩ := wrapNat ob
  obtain ⟨m, rfl⟩ : ∃ m : Nat, num = (m : Int) := ⟨num.toNat, by omega⟩
  obtain ⟨m1, m2, m3⟩ := mkI_bd ho h0 h1
  obtain ⟨ew, hb3, hb4⟩ := okW_words ho
  have CW := hid (show callW t p s u 0 = ((mkI t p u : Nat) : Int) by rw [callW, if_pos ⟨ho.1, ⟨h0, by omega⟩, by omega, by omega⟩]; omega)
  have LC0 : layC t p u ws (m : Int) ok oa ob = some (layW t p u ws (m : Int) ok oa ob) := by
    have hl : layB t p u ws (m : Int) ok oa ob = true := by rw [layB, hr, decide_eq_true ⟨hn1, hn2⟩]; rfl
    rw [layC, if_pos hl]
  have LW0 : layF ws (mkI t p u) m kk aa bb 3 = layW t p u ws (m : Int) ok oa ob := by rw [layF_splice _ _ _ _ _ _ (by rw [hs.1]; omega), layW, hb, hkk, haa, hbb]; rfl
  obtain ⟨XS, hXS⟩ : ∃ XS, XS = layW t p u ws (m : Int) ok oa ob := ⟨_, rfl⟩
  rw [← hXS] at LC0 LW0
  have LC := hid LC0
  have LW := hid LW0
  have HS := hid hs
  have HO := hid ho
  have RB := hid hr
  have hlc := hs.2.1
  have hlm : cap ≤ maxLen := hs.2.2.1
  have LBB := hid hb
  have mc : mkI t p u + 4 ≤ len := by omega
  clear LC0 LW0 hXS hs ho hr ew m1 hb m2 m3
  have d1 : decide ((m : Int) ≤ (lastN t p u ws : Int)) = false := by simp; omega
  have d2 : decide (2147483647 < (m : Int)) = false := by simp; omega
  generalize hNN : lastN t p u ws = n at hn1 d1
  have LNN := hid hNN
  clear hNN
  generalize mkI t p u = c at *
  go_enter Try.func30, Try.ntmps30
  go_wp2_with fail
  refine (refLastYes t p s u _ a len cap ws (HS.out.below bel) HO.out h0 h1).mono ?_
  rw [LBB.out, LNN.out]
  rintro e w1 ⟨rfl, hb1⟩
  have hC1 : Below (w.heap.size + 2) ((w.alloc (.cells #[.int .i64 t, .int .i64 p, .int .i64 s] 23)).alloc (.cells #[.int .i64 ok, .int .i64 oa, .int .i64 ob] 55)) w1 := hb1.mono (by simp)
  have z1 : w.heap.size < w1.heap.size := by have := hb1.size; simp at this; omega
  have z1' : w.heap.size + 1 < w1.heap.size := by have := hb1.size; simp at this; omega
  have hB1 : Below w.heap.size w w1 := bel
  have q0 : w1.cell? ⟨w.heap.size, 0, none⟩ = some (.int .i64 t) := (hC1.cell (p := ⟨w.heap.size, 0, none⟩) (by first | omega | (simp; done) | (simp; omega))).trans (cellOld (by simp) (cellNew rfl rfl))
  have q1 : w1.cell? ⟨w.heap.size, 1, none⟩ = some (.int .i64 p) := (hC1.cell (p := ⟨w.heap.size, 1, none⟩) (by first | omega | (simp; done) | (simp; omega))).trans (cellOld (by simp) (cellNew rfl rfl))
  have q2 : w1.cell? ⟨w.heap.size, 2, none⟩ = some (.int .i64 s) := (hC1.cell (p := ⟨w.heap.size, 2, none⟩) (by first | omega | (simp; done) | (simp; omega))).trans (cellOld (by simp) (cellNew rfl rfl))
  have q3 : w1.cell? ⟨w.heap.size + 1, 0, none⟩ = some (.int .i64 ok) := (hC1.cell (p := ⟨w.heap.size + 1, 0, none⟩) (by first | omega | (simp; done) | (simp; omega))).trans (cellNew (by simp) rfl)
  have q4 : w1.cell? ⟨w.heap.size + 1, 1, none⟩ = some (.int .i64 oa) := (hC1.cell (p := ⟨w.heap.size + 1, 1, none⟩) (by first | omega | (simp; done) | (simp; omega))).trans (cellNew (by simp) rfl)
  have q5 : w1.cell? ⟨w.heap.size + 1, 2, none⟩ = some (.int .i64 ob) := (hC1.cell (p := ⟨w.heap.size + 1, 2, none⟩) (by first | omega | (simp; done) | (simp; omega))).trans (cellNew (by simp) rfl)
  clear hb1 hC1
  go_wp2_with fail
  refine (refRight ok oa ob _).mono ?_
  rw [RB.out]
  rintro e w2 ⟨rfl, hb2⟩
  have hB2 : Below w.heap.size w w2 := hB1.trans (hb2.mono (by omega))
  have z2 : w.heap.size < w2.heap.size := by have := hb2.size; omega
  have z2' : w.heap.size + 1 < w2.heap.size := by have := hb2.size; omega
  have q0 := (hb2.cell (p := ⟨w.heap.size, 0, none⟩) z1).trans q0
  have q1 := (hb2.cell (p := ⟨w.heap.size, 1, none⟩) z1).trans q1
  have q2 := (hb2.cell (p := ⟨w.heap.size, 2, none⟩) z1).trans q2
  have q3 := (hb2.cell (p := ⟨w.heap.size + 1, 0, none⟩) z1').trans q3
  have q4 := (hb2.cell (p := ⟨w.heap.size + 1, 1, none⟩) z1').trans q4
  have q5 := (hb2.cell (p := ⟨w.heap.size + 1, 2, none⟩) z1').trans q5
  clear hb2 hB1
  have hs2 := HS.out.below hB2
  go_wp2_with (at_builtin; refine wpAppend rfl (.tmp 43) (.tmp 44) 24 46 rfl .u64 (.int .u64 0) 8 Try.underlying24 infoU64 rfl _ w2.heap.size _ [] rfl (Own.built _ _ _ _ [] _ 0 (Nat.le_refl _) rfl (by decide) rfl) _ _ _ ws rfl (hs2.below ((Below.refl _ _).alloc (Nat.le_refl _) _)) (by simp [maxLen]; omega) (by simp; omega) (by simp) ?_; intro v' w3 hown3 hgrow3; have hb3' : Below w2.heap.size w2 w3 := ((Below.refl _ _).alloc (Nat.le_refl _) _).grown hgrow3 (by simp) (by intro k hk; cases hk; exact Nat.le_refl _); clear hgrow3; rw [List.nil_append] at hown3; obtain ⟨g3, cap3, hv3, hg3, hg3', _⟩ := hown3.form (by rw [HS.out.1]; omega); rw [HS.out.1] at hv3; subst hv3; have hB3 : Below w.heap.size w w3 := hB2.trans (hb3'.mono (by omega)); have z3 : w.heap.size < w3.heap.size := (by omega); have z3' : w.heap.size + 1 < w3.heap.size := (by omega); have q0 := (hb3'.cell (p := ⟨w.heap.size, 0, none⟩) z2).trans q0; have q1 := (hb3'.cell (p := ⟨w.heap.size, 1, none⟩) z2).trans q1; have q2 := (hb3'.cell (p := ⟨w.heap.size, 2, none⟩) z2).trans q2; have q3 := (hb3'.cell (p := ⟨w.heap.size + 1, 0, none⟩) z2').trans q3; have q4 := (hb3'.cell (p := ⟨w.heap.size + 1, 1, none⟩) z2').trans q4; have q5 := (hb3'.cell (p := ⟨w.heap.size + 1, 2, none⟩) z2').trans q5; clear hb3' hs2 hB2)
  refine (refCallW t p s u 0 _).mono ?_
  rw [CW.out]
  rintro e w4 ⟨rfl, hb4'⟩
  have z4 : w.heap.size < w4.heap.size := by have := hb4'.size; omega
  have z4' : w.heap.size + 1 < w4.heap.size := by have := hb4'.size; omega
  have hB4 : Below w.heap.size w w4 := hB3.trans (hb4'.mono (by omega))
  have zg4 : g3 < w4.heap.size := by have := hb4'.size; omega
  have hO4 := hown3.kept hb4' (Nat.le_refl _)
  have q0 := (hb4'.cell (p := ⟨w.heap.size, 0, none⟩) z3).trans q0
  have q1 := (hb4'.cell (p := ⟨w.heap.size, 1, none⟩) z3).trans q1
  have q2 := (hb4'.cell (p := ⟨w.heap.size, 2, none⟩) z3).trans q2
  have q3 := (hb4'.cell (p := ⟨w.heap.size + 1, 0, none⟩) z3').trans q3
  have q4 := (hb4'.cell (p := ⟨w.heap.size + 1, 1, none⟩) z3').trans q4
  have q5 := (hb4'.cell (p := ⟨w.heap.size + 1, 2, none⟩) z3').trans q5
  clear hb4' hown3 hB3
  go_wp2_with fail
  refine (refOpWords ok oa ob _ k1 k2).mono ?_
  rw [hkk, haa, hbb]
  rintro e w5 ⟨rfl, hb5⟩
  have hB5 : Below w.heap.size w w5 := hB4.trans (hb5.mono (by omega))
  have zg5 : g3 < w5.heap.size := by have := hb5.size; omega
  have hO5 := hO4.kept hb5 (Nat.le_refl _)
  clear hb5 hO4 hB4 q0 q1 q2 q3 q4 q5
  obtain ⟨gx, hgx⟩ : ∃ gx, gx = w5.heap.size := ⟨_, rfl⟩
  obtain ⟨w6, hw6⟩ : ∃ x : World, x = w5.alloc (.cells #[.int .u64 (kk : Int), .int .u64 (aa : Int), .int .u64 (bb : Int)] 103) := ⟨_, rfl⟩
  have x0 : w6.cell? ⟨gx, 0, none⟩ = some (.int .u64 (kk : Int)) := by rw [hw6, hgx]; exact cellNew rfl rfl
  have x1 : w6.cell? ⟨gx, 1, none⟩ = some (.int .u64 (aa : Int)) := by rw [hw6, hgx]; exact cellNew rfl rfl
  have x2 : w6.cell? ⟨gx, 2, none⟩ = some (.int .u64 (bb : Int)) := by rw [hw6, hgx]; exact cellNew rfl rfl
  have hB6 : Below w.heap.size w w6 := by rw [hw6]; exact hB5.alloc (by omega) _
  have hO6 := hO5.kept (B := w5.heap.size) (w' := w6) (by rw [hw6]; exact (Below.refl _ _).alloc (Nat.le_refl _) _) (Nat.le_refl _)
  have zg6 : g3 < w6.heap.size := by rw [hw6]; simp; omega
  have zx6 : gx < w6.heap.size := by rw [hw6, hgx]; simp
  have ng : g3 ≠ gx := by omega
  have WL := hid HS.out.1
  have hcy := hO6.cell WL.out c (by omega)
  have hfy := hO6.unfrozen WL.out c
  generalize ws[c]?.getD 0 = y2 at hcy
  have hO7 := hO6.stored WL.out c m
  have x0' := cellFar (o := c) (v := .int .u64 (m : Int)) x0 ng
  have x1' := cellFar (o := c) (v := .int .u64 (m : Int)) x1 ng
  have x2' := cellFar (o := c) (v := .int .u64 (m : Int)) x2 ng
  have hB7 := hB6.setCell (p := ⟨g3, c, none⟩) (by show w.heap.size ≤ g3; omega) (.int .u64 (m : Int))
  have zg7 : g3 < (w6.setCell ⟨g3, c, none⟩ (.int .u64 (m : Int))).heap.size := by simpa using zg6
  have zx7 : gx < (w6.setCell ⟨g3, c, none⟩ (.int .u64 (m : Int))).heap.size := by simpa using zx6
  have ic0 : (0 : Int) ≤ (c : Int) := by omega
  have ic1 : (c : Int) < (len : Int) := by omega
  go_upto_region 7 with (fail)
  rw [← hw6, ← hgx]
  clear hw6 hgx hO5 hB5
  go_wp2_with fail
  clear hcy hfy x0 x1 x2 hB6 hO6
  go_loopw [18] (fun i wr => ∃ k : Nat, k ≤ 3 ∧ i = .int .i64 k ∧ Own 46 .u64 wr w2.heap.size (.slice (some ⟨g3, 0, none⟩) len cap3) (layF ws c m kk aa bb k) ∧ wr.cell? ⟨gx, 0, none⟩ = some (.int .u64 (kk : Int)) ∧ wr.cell? ⟨gx, 1, none⟩ = some (.int .u64 (aa : Int)) ∧ wr.cell? ⟨gx, 2, none⟩ = some (.int .u64 (bb : Int)) ∧ Below w.heap.size w wr ∧ g3 < wr.heap.size ∧ gx < wr.heap.size) (fun i _ => 3 - (intOf i).toNat)
  case atStart => exact ⟨0, by omega, rfl, hO7, x0', x1', x2', hB7, zg7, zx7⟩
  case round =>
    clear hO7 x0' x1' x2' hB7 zg7 zx7
    obtain ⟨k, hk, rfl, hO, x0, x1, x2, hB, hgr, hxr⟩ := hrel
    have ll := hid ((layF_length ws c m kk aa bb k).trans HS.out.1)
    have hk3 : k = 0 ∨ k = 1 ∨ k = 2 ∨ k = 3 := by omega
    rcases hk3 with rfl | rfl | rfl | rfl
    · have i0 : (0 : Int) ≤ (c : Int) + 1 + 0 := by omega
      have i1 : (c : Int) + 1 + 0 < (len : Int) := by omega
      have wr1 : IntKind.i64.wrap ((c : Int) + 1) = (c : Int) + 1 := IntWalk.i64_in _ (by omega)
      have wr2 : IntKind.i64.wrap ((c : Int) + 1 + 0) = (c : Int) + 1 + 0 := IntWalk.i64_in _ (by omega)
      have tn : ((c : Int) + 1 + 0).toNat = c + 1 := by omega
      have hcy := hO.cell ll.out (c + 1) (by omega)
      have hfy := hO.unfrozen ll.out (c + 1)
      generalize (layF ws c m kk aa bb 0)[c + 1]?.getD 0 = y2 at hcy
      have hOB := hO.stored ll.out (c + 1) kk
      go_wp2_with fail
      go_roundw
      case rel => exact ⟨1, by omega, by go_num, hOB, cellFar x0 ng, cellFar x1 ng, cellFar x2 ng, hB.setCell (by show w.heap.size ≤ g3; omega) _, by simp; omega, by simp; omega⟩
      case measure => simp [intOf]
    · have i0 : (0 : Int) ≤ (c : Int) + 1 + 1 := by omega
      have i1 : (c : Int) + 1 + 1 < (len : Int) := by omega
      have wr1 : IntKind.i64.wrap ((c : Int) + 1) = (c : Int) + 1 := IntWalk.i64_in _ (by omega)
      have wr2 : IntKind.i64.wrap ((c : Int) + 1 + 1) = (c : Int) + 1 + 1 := IntWalk.i64_in _ (by omega)
      have tn : ((c : Int) + 1 + 1).toNat = c + 2 := by omega
      have hcy := hO.cell ll.out (c + 2) (by omega)
      have hfy := hO.unfrozen ll.out (c + 2)
      generalize (layF ws c m kk aa bb 1)[c + 2]?.getD 0 = y2 at hcy
      have hOB := hO.stored ll.out (c + 2) aa
      go_wp2_with fail
      go_roundw
      case rel => exact ⟨2, by omega, by go_num, hOB, cellFar x0 ng, cellFar x1 ng, cellFar x2 ng, hB.setCell (by show w.heap.size ≤ g3; omega) _, by simp; omega, by simp; omega⟩
      case measure => simp [intOf]
    · have i0 : (0 : Int) ≤ (c : Int) + 1 + 2 := by omega
      have i1 : (c : Int) + 1 + 2 < (len : Int) := by omega
      have wr1 : IntKind.i64.wrap ((c : Int) + 1) = (c : Int) + 1 := IntWalk.i64_in _ (by omega)
      have wr2 : IntKind.i64.wrap ((c : Int) + 1 + 2) = (c : Int) + 1 + 2 := IntWalk.i64_in _ (by omega)
      have tn : ((c : Int) + 1 + 2).toNat = c + 3 := by omega
      have hcy := hO.cell ll.out (c + 3) (by omega)
      have hfy := hO.unfrozen ll.out (c + 3)
      generalize (layF ws c m kk aa bb 2)[c + 3]?.getD 0 = y2 at hcy
      have hOB := hO.stored ll.out (c + 3) bb
      go_wp2_with fail
      go_roundw
      case rel => exact ⟨3, by omega, by go_num, hOB, cellFar x0 ng, cellFar x1 ng, cellFar x2 ng, hB.setCell (by show w.heap.size ≤ g3; omega) _, by simp; omega, by simp; omega⟩
      case measure => simp [intOf]
    · rw [LW.out] at hO
      clear x0 x1 x2
      go_wp2_with fail
      go_ret2
      exact .inl ⟨_, LC.out, _, _, _, rfl, hO.rebase (by omega), hB⟩

theorem refLayCYes (t p s u : Int) (w : World) (a : Option Addr) (len cap : Nat) (ws : List Nat) (num ok oa ob : Int) (hs : Seen .u64 w a len cap ws) (ho : okW t p s len) (h0 : 0 ≤ u) (h1 : u < t) (k1 : -9223372036854775808 ≤ ok) (k2 : ok ≤ 9223372036854775807) :
    Calls Try.prog 30 #[.agg #[.int .i64 t, .int .i64 p, .int .i64 s], .slice a len cap, .int .i64 u, .int .i64 num, .agg #[.int .i64 ok, .int .i64 oa, .int .i64 ob]] w (OptPost 46 .u64 w (layC t p u ws num ok oa ob)) := by
  cases hl : layB t p u ws num ok oa ob
  · have h := refLayCBad t p s u w a len cap ws num ok oa ob hs ho h0 h1 hl
    rw [layC, hl]
    exact h
  · have hl' := hl
    rw [layB, Bool.and_eq_true] at hl'
    obtain ⟨g1, g2⟩ := hl'
    obtain ⟨g3, g4⟩ := of_decide_eq_true g1
    have hb : lastB t p u ws = 0 ∨ lastB t p u ws = 1 := by unfold lastB; split <;> simp
    rcases hb with hb | hb
    · exact refLayCGood0 t p s u w a len cap ws num ok oa ob hs ho h0 h1 k1 k2 g2 g3 g4 hb
    · exact refLayCGood1 t p s u w a len cap ws num ok oa ob hs ho h0 h1 k1 k2 g2 g3 g4 hb
end Go.Proofs.Ytkkhoiahjmfibaa
