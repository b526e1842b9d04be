/- The walk of package redo's settled, of words that are right, whose tip is right. -/
import Derived.Test.YtkkhoiahjmfibaaSettled2
import Derived.Test.YtkkhoiahjmfibaaMarkSmall
namespace Go.Proofs.Ytkkhoiahjmfibaa
open Go.RowKit
set_option linter.unusedVariables false
set_option linter.unusedSimpArgs false

theorem redoLogBad1 (t p s u : Int) (w : World) (a : Option Addr) (len cap : Nat) (ws : List Nat) (hs : Seen .u64 w a len cap ws) (hf : Fit 18446744073709551616 ws) (ho : okW t p s len) (h0 : 0 ≤ u) (h1 : u ≤ t) (hn : cntX (noteX t p u ws) ≤ 96) (hE : entsB t p (logXs t p u ws) = false) :
    Calls Try.prog 12 #[.agg #[.int .i64 t, .int .i64 p, .int .i64 s], .slice a len cap, .int .i64 u] w fun e w' => e = .returned (.tuple #[.agg #[.int .u32 0, .bool false, .int .i64 0], .slice none 0 0, .bool false]) ∧ Below w.heap.size w w' :=
  (redoLogBad t p s u w a len cap ws hs hf ho h0 h1 hn hE).mono fun e w' h => by
    rcases h with ⟨h, _⟩ | ⟨_, he, hb⟩
    · rw [logB, hE] at h; simp at h
    · exact ⟨he, hb⟩
theorem redoLogGood1 (t p s u : Int) (w : World) (a : Option Addr) (len cap : Nat) (ws : List Nat) (hs : Seen .u64 w a len cap ws) (hf : Fit 18446744073709551616 ws) (ho : okW t p s len) (h0 : 0 ≤ u) (h1 : u ≤ t) (hn : cntX (noteX t p u ws) ≤ 96) (hE : entsB t p (logXs t p u ws) = true) :
    Calls Try.prog 12 #[.agg #[.int .i64 t, .int .i64 p, .int .i64 s], .slice a len cap, .int .i64 u] w fun e w' => (∃ st ob c v, e = .returned (.tuple #[.agg #[.int .u32 st, .bool ob, .int .i64 c], v, .bool true]) ∧ OwnP w' w.heap.size v (logXs t p u ws)) ∧ Below w.heap.size w w' :=
  (redoLogGood t p s u w a len cap ws hs hf ho h0 h1 hn hE).mono fun e w' h => by
    rcases h with ⟨_, v, he, ho, hb⟩ | ⟨h, _⟩
    · exact ⟨⟨_, _, _, v, he, ho⟩, hb⟩
    · rw [logB, hE] at h; simp [hn] at h
theorem OwnP.setNe {w : World} {base g n cap b : Nat} {es : List Nat} (h : OwnP w base (.slice (some ⟨g, 0, none⟩) n cap) es) (hb : b ≠ g) (o : Nat) (v : Value) : OwnP (w.setCell ⟨b, o, none⟩ v) base (.slice (some ⟨g, 0, none⟩) n cap) es := by
  refine ⟨h.1, ?_⟩
  rcases h.2 with hn | ⟨g', cap', cur, hv, hbs, hgg, rest⟩
  · exact .inl hn
  · cases hv
    refine .inr ⟨g, cap, cur, rfl, hbs, ?_, rest⟩
    rw [← hgg]
    exact Below.heap_setCell w ⟨b, o, none⟩ v g (by show g ≠ b; omega)
theorem OwnP.lt {w : World} {base n cap g : Nat} {es : List Nat} (h : OwnP w base (.slice (some ⟨g, 0, none⟩) n cap) es) : g < w.heap.size := by
  rcases h.2 with ⟨hv, hn⟩ | ⟨g', cap', cur, hv, hbs, hgg, rest⟩
  · cases hv
  · cases hv
    exact (Array.getElem?_eq_some_iff.1 hgg).1
theorem entsB_at {t p : Int} {xs : List Nat} (h : entsB t p xs = true) {i : Nat} (hi : i < xs.length) : ((xs[i]?.getD 0 : Nat) : Int) / 4294967296 < cellsN t p := by
  rw [List.getElem?_eq_getElem hi]
  have := List.all_eq_true.1 h _ (List.getElem_mem hi)
  simpa using this
theorem openX_cnt {x S : Nat} (h : openX x S = true) : cntX x ≤ 96 := by
  unfold openX at h
  unfold cntX
  simp at h
  exact h.1.1
theorem openX_V {x S : Nat} : openV x S = if openX x S = true then .tuple #[.int .i64 ((x : Int) % 2147483648), .bool true] else .tuple #[.int .i64 0, .bool false] := by
  unfold openV openX
  by_cases h : (x : Int) % 2147483648 ≤ 96 ∧ (x : Int) / 2147483648 % 2 = 1 ∧ (x : Int) / 4294967296 = S
  · rw [if_pos h, if_pos]
    simp
    omega
  · rw [if_neg h, if_neg]
    simp
    omega


set_option maxRecDepth 100000 in
set_option maxHeartbeats 3200000 in
theorem redoSettledShut (t p s : Int) (w : World) (a : Option Addr) (len cap : Nat) (ws : List Nat) (hs : Seen .u64 w a len cap ws) (hf : Fit 18446744073709551616 ws) (ho : okW t p s len) (hn : (tipU ws : Int) ≤ t) (hop : openX (noteX t p (tipU ws) ws) (tipS ws) = false) : Calls Try.prog 54 #[.agg #[.int .i64 t, .int .i64 p, .int .i64 s], .slice a len cap] w (SettledPost w t p ws true) := by
  have hlen := hs.1
  have hlc := hs.2.1
  have hlm := hs.2.2.1
  have hbd := (okW_words ho).2
  have HO := hid ho
  have HS := hid hs
  have HF := hid hf
  obtain ⟨⟨h1, h2⟩, ⟨h3, h4'⟩, h5, h6⟩ := rightC_of ho.1
  have cb : 58 ≤ cellsN t p ∧ cellsN t p ≤ 6238 := by unfold cellsN; omega
  have mb := makers_bd ⟨⟨h1, h2⟩, h3, h4'⟩
  obtain ⟨i1, i2, i3, i4⟩ := noteI_bd (u := (tipU ws : Int)) ho (by omega) hn
  have hwl := ho.2
  obtain ⟨N, hN⟩ := Int.eq_ofNat_of_zero_le (show 0 ≤ cellsN t p by omega)
  have hN16 : 16 + N ≤ len := by omega
  have M := hid (makerYes (u := (tipU ws : Int)) ho.1 (by omega) hn)
  have NW := hid (show noteW t p s (tipU ws) = ((noteI t p (tipU ws) : Nat) : Int) by rw [noteW, if_pos ⟨ho.1, by omega, hn⟩, i1])
  have PC := hidAll fun w => by have h := placeCells t p s w; rw [show cellsC t p s = (N : Int) by rw [cellsC, ho.1, ← hN]; rfl] at h; exact h
  have CW := hidAll fun (k : Nat) (hk : k < N) => (show cellW t p s k = ((16 + k : Nat) : Int) by rw [cellW, if_pos ⟨ho.1, by omega, by omega⟩]; omega)
  have NN := hid (show (cellsN t p).toNat = N by omega)
  have LX := hid trivial
  have SO := hid (show stampsB N ws = true → settledO t p ws = some (ws, -1) by intro h; rw [settledO, if_pos ⟨hn, by rw [NN.out]; exact h⟩, if_neg (by rw [hop]; simp)])
  have SN := hid (show stampsB N ws = false → settledO t p ws = none by intro h; rw [settledO, if_neg (by rw [NN.out, h]; simp)])
  have ON := hid hN
  obtain ⟨_, _, _, h4⟩ := id hs
  rcases h4 with ⟨h4, _⟩ | ⟨b0, off, rfl, hc⟩
  · omega
  have HC := hidAll hc
  have c8 : w.cell? ⟨b0, off + 8, none⟩ = some (.int .u64 ((ws[8]?.getD 0 : Nat) : Int)) := hc 8 (by omega)
  have hx8 : ws[8]?.getD 0 < 18446744073709551616 := hf.getD (by omega) 8
  have hb0 := World.block_lt_of_cell? w _ c8
  have hS : tipS ws < 4294967296 := by unfold tipS; omega
  have O := hid (show ofTipV ((ws[8]?.getD 0 : Nat) : Int) = .tuple #[.int .u32 (tipS ws : Int), .int .i64 (tipU ws : Int), .bool true] by
    have e : ((ws[8]?.getD 0 : Nat) : Int) % 4294967296 = (tipU ws : Int) := by unfold tipU; omega
    have e' : ((ws[8]?.getD 0 : Nat) : Int) / 4294967296 = (tipS ws : Int) := by unfold tipS; omega
    rw [ofTipV, e, e', if_pos (by omega)])
  have OV := hid (show openV (noteX t p (tipU ws) ws) (tipS ws) = .tuple #[.int .i64 0, .bool false] by rw [openX_V, hop]; rfl)
  have hxn : noteX t p (tipU ws) ws < 18446744073709551616 := hf.getD (by omega) _
  have cn := hc _ i3
  change w.cell? ⟨b0, off + noteI t p (tipU ws), none⟩ = some (.int .u64 ((noteX t p (tipU ws) ws : Nat) : Int)) at cn
  have hno : RowKit.Hid (openX (noteX t p (tipU ws) ws) (tipS ws) = false) := hid hop
  clear hop hc hlen hN mb i1 i2 cb hwl hs hf
  generalize hu : tipU ws = u at *
  generalize hSS : tipS ws = S at *
  have HU := hid hu; have HSS := hid hSS
  clear hu hSS
  generalize noteI t p u = ni at NW i3 cn SO
  generalize ws[8]?.getD 0 = x8 at c8 hx8 O
  go_enter Try.func54, Try.ntmps54
  go_wp2_with fail
  refine (redoRightYes t p s _ _ len cap HO.out).mono ?_
  rintro e w1 ⟨rfl, hb1⟩
  have hz1 := hb1.size
  simp at hz1
  have z1 : w.heap.size < w1.heap.size := by omega
  have hB1 : Below w.heap.size w w1 := bel
  have hC1 : Below (w.heap.size + 1) (w.alloc (.cells #[.int .i64 t, .int .i64 p, .int .i64 s] 23)) w1 := by have h := hb1; rw [show (w.alloc (.cells #[.int .i64 t, .int .i64 p, .int .i64 s] 23)).heap.size = w.heap.size + 1 by simp] at h; exact h
  have c8 : w1.cell? ⟨b0, off + 8, none⟩ = some (.int .u64 (x8 : Int)) := (hB1.cell (p := ⟨b0, off + 8, none⟩) hb0).trans c8
  have q0 : w1.cell? ⟨w.heap.size, 0, none⟩ = some (.int .i64 t) := (hC1.cell (p := ⟨w.heap.size, 0, none⟩) (Nat.lt_succ_self _)).trans (cellNew rfl rfl)
  have q1 : w1.cell? ⟨w.heap.size, 1, none⟩ = some (.int .i64 p) := (hC1.cell (p := ⟨w.heap.size, 1, none⟩) (Nat.lt_succ_self _)).trans (cellNew rfl rfl)
  have q2 : w1.cell? ⟨w.heap.size, 2, none⟩ = some (.int .i64 s) := (hC1.cell (p := ⟨w.heap.size, 2, none⟩) (Nat.lt_succ_self _)).trans (cellNew rfl rfl)
  go_wp2_with fail
  refine (markOfTip x8 _ (by omega) (by omega)).mono ?_
  rw [O.out]
  rintro e w2 ⟨rfl, rfl⟩
  go_wp2_with fail
  refine (redoMaker t p s u _ true M).mono ?_
  rintro e w3 ⟨rfl, hb3⟩
  have z3 : w.heap.size < w3.heap.size := by have := hb3.size; omega
  have hC3 : Below (w.heap.size + 1) (w.alloc (.cells #[.int .i64 t, .int .i64 p, .int .i64 s] 23)) w3 := hC1.trans (hb3.mono (by omega))
  have q0 := (hb3.cell (p := ⟨w.heap.size, 0, none⟩) z1).trans q0
  have q1 := (hb3.cell (p := ⟨w.heap.size, 1, none⟩) z1).trans q1
  have q2 := (hb3.cell (p := ⟨w.heap.size, 2, none⟩) z1).trans q2
  go_wp2_with fail
  refine (PC.out _).mono ?_
  rintro e w4 ⟨rfl, hb4⟩
  have hC4 : Below (w.heap.size + 1) (w.alloc (.cells #[.int .i64 t, .int .i64 p, .int .i64 s] 23)) w4 := hC3.trans (hb4.mono (by omega))
  clear q0 q1 q2 hb1 hb3 hb4 hC1 hC3 hB1 c8
  go_wp2_with fail
  go_loopw [41] (fun i wr => ∃ k : Nat, k ≤ N ∧ i = .int .i64 k ∧ RowKit.Hid (∀ j, j < k → stampAt ws j ≤ S) ∧ Below (w.heap.size + 1) (w.alloc (.cells #[.int .i64 t, .int .i64 p, .int .i64 s] 23)) wr) (fun i _ => N - (intOf i).toNat)
  case atStart => exact ⟨0, by omega, rfl, hid (fun j hj => by omega), hC4⟩
  case round =>
    clear hC4
    obtain ⟨k, hk, rfl, hst, hC⟩ := hrel
    have zr : w.heap.size < wr.heap.size := by have := hC.size; simp at this; omega
    have hB : Below w.heap.size w wr := ((Below.refl _ _).alloc (Nat.le_refl _) _).trans (hC.mono (by omega))
    have q0 : wr.cell? ⟨w.heap.size, 0, none⟩ = some (.int .i64 t) := (hC.cell (p := ⟨w.heap.size, 0, none⟩) (Nat.lt_succ_self _)).trans (cellNew rfl rfl)
    have q1 : wr.cell? ⟨w.heap.size, 1, none⟩ = some (.int .i64 p) := (hC.cell (p := ⟨w.heap.size, 1, none⟩) (Nat.lt_succ_self _)).trans (cellNew rfl rfl)
    have q2 : wr.cell? ⟨w.heap.size, 2, none⟩ = some (.int .i64 s) := (hC.cell (p := ⟨w.heap.size, 2, none⟩) (Nat.lt_succ_self _)).trans (cellNew rfl rfl)
    by_cases hlt : k < N
    · have hck := HC.out (16 + k) (by omega)
      have hx : ws[16 + k]?.getD 0 < 18446744073709551616 := HF.out.getD (by omega) _
      have hSt := hid (show stampAt ws k = ws[16 + k]?.getD 0 / 4294967296 from rfl)
      have cw := hid (CW.out k hlt)
      generalize ws[16 + k]?.getD 0 = x at hck hx hSt
      go_wp2_with fail
      refine (placeWord t p s k _).mono ?_
      rw [cw.out]
      rintro e w5 ⟨rfl, hb5⟩
      have hB5 : Below w.heap.size w w5 := hB.trans (hb5.mono (by omega))
      have hC5 : Below (w.heap.size + 1) (w.alloc (.cells #[.int .i64 t, .int .i64 p, .int .i64 s] 23)) w5 := hC.trans (hb5.mono (by omega))
      have hck5 : w5.cell? ⟨b0, off + (16 + k), none⟩ = some (.int .u64 (x : Int)) := (hB5.cell (p := ⟨b0, off + (16 + k), none⟩) hb0).trans hck
      clear hb5 hck
      by_cases hgt : S < x / 4294967296
      · have hno2 := hid (SN.out (stampsB_no hlt (by rw [HSS.out, hSt.out]; exact hgt)))
        have d : decide ((S : Int) < (x : Int) / 4294967296) = true := by simp; omega
        go_wp2_with fail
        refine (markStamp x _ (by omega) (by omega)).mono ?_
        rintro e w6 ⟨rfl, rfl⟩
        go_wp2_with fail
        go_ret3
        exact .inr ⟨.inr hno2.out, rfl, hB5⟩
      · have d : decide ((S : Int) < (x : Int) / 4294967296) = false := by simp; omega
        have hst2 := hid (show ∀ j, j < k + 1 → stampAt ws j ≤ S by
          intro j hj
          by_cases hjk : j = k
          · rw [hjk, hSt.out]; omega
          · exact hst.out j (by omega))
        clear hgt
        go_wp2_with fail
        refine (markStamp x _ (by omega) (by omega)).mono ?_
        rintro e w6 ⟨rfl, rfl⟩
        go_wp2_with fail
        go_roundw
        case rel => exact ⟨k + 1, by omega, by go_num, hst2, hC5⟩
        case measure => simp [intOf]; omega
    · obtain rfl : k = N := by omega
      have SO2 := hid (SO.out (stampsB_yes (fun j hj => by rw [HSS.out]; exact hst.out j hj)))
      clear hlt hst
      have cn2 : wr.cell? ⟨b0, off + ni, none⟩ = some (.int .u64 ((noteX t p u ws : Nat) : Int)) := (hB.cell (p := ⟨b0, off + ni, none⟩) hb0).trans cn
      generalize hX : noteX t p u ws = xn at cn2 hxn OV
      have HX := hid hX; clear hX
      go_wp2_with fail
      refine (placeNote t p s u _).mono ?_
      rw [NW.out]
      rintro e w5 ⟨rfl, hb5⟩
      have z5 : w.heap.size < w5.heap.size := by have := hb5.size; omega
      have hB5 : Below w.heap.size w w5 := hB.trans (hb5.mono (by omega))
      have hC5 : Below (w.heap.size + 1) (w.alloc (.cells #[.int .i64 t, .int .i64 p, .int .i64 s] 23)) w5 := hC.trans (hb5.mono (by omega))
      have cn5 : w5.cell? ⟨b0, off + ni, none⟩ = some (.int .u64 (xn : Int)) := (hb5.cell (p := ⟨b0, off + ni, none⟩) (Nat.lt_trans hb0 zr)).trans cn2
      have q0 := (hb5.cell (p := ⟨w.heap.size, 0, none⟩) zr).trans q0
      have q1 := (hb5.cell (p := ⟨w.heap.size, 1, none⟩) zr).trans q1
      have q2 := (hb5.cell (p := ⟨w.heap.size, 2, none⟩) zr).trans q2
      clear hb5 cn2
      go_wp2_with fail
      refine (markOpen xn S _ hxn).mono ?_
      rw [OV.out]
      rintro e w6 ⟨rfl, hb6⟩
      have z6 : w.heap.size < w6.heap.size := by have := hb6.size; omega
      have hB6 : Below w.heap.size w w6 := hB5.trans (hb6.mono (by omega))
      have hC6 : Below (w.heap.size + 1) (w.alloc (.cells #[.int .i64 t, .int .i64 p, .int .i64 s] 23)) w6 := hC5.trans (hb6.mono (by omega))
      have q0 := (hb6.cell (p := ⟨w.heap.size, 0, none⟩) z5).trans q0
      have q1 := (hb6.cell (p := ⟨w.heap.size, 1, none⟩) z5).trans q1
      have q2 := (hb6.cell (p := ⟨w.heap.size, 2, none⟩) z5).trans q2
      clear hb6
      have hs6 := HS.out.below hB6
      go_wp2_with fail
      refine (cloneWords _ _ len cap ws hs6 (by omega)).mono ?_
      rintro e w7 ⟨a7, m7, cap7, rfl, ho7, hb7⟩
      go_wp2_with fail
      go_ret3
      exact .inl ⟨ws, -1, rfl, SO2.out, a7, m7, cap7, rfl, ho7.rebase (by omega), hB6.trans (hb7.mono (by omega))⟩

set_option maxRecDepth 100000 in
set_option maxHeartbeats 3200000 in
theorem redoSettledBad (t p s : Int) (w : World) (a : Option Addr) (len cap : Nat) (ws : List Nat) (hs : Seen .u64 w a len cap ws) (hf : Fit 18446744073709551616 ws) (ho : okW t p s len) (hn : (tipU ws : Int) ≤ t) (hop : openX (noteX t p (tipU ws) ws) (tipS ws) = true) (hE : entsB t p (logXs t p (tipU ws) ws) = false) : Calls Try.prog 54 #[.agg #[.int .i64 t, .int .i64 p, .int .i64 s], .slice a len cap] w (SettledPost w t p ws true) := by
  have hlen := hs.1
  have hlc := hs.2.1
  have hlm := hs.2.2.1
  have hbd := (okW_words ho).2
  have HO := hid ho
  have HS := hid hs
  have HF := hid hf
  obtain ⟨⟨h1, h2⟩, ⟨h3, h4'⟩, h5, h6⟩ := rightC_of ho.1
  have cb : 58 ≤ cellsN t p ∧ cellsN t p ≤ 6238 := by unfold cellsN; omega
  have mb := makers_bd ⟨⟨h1, h2⟩, h3, h4'⟩
  obtain ⟨i1, i2, i3, i4⟩ := noteI_bd (u := (tipU ws : Int)) ho (by omega) hn
  have hwl := ho.2
  obtain ⟨N, hN⟩ := Int.eq_ofNat_of_zero_le (show 0 ≤ cellsN t p by omega)
  have hN16 : 16 + N ≤ len := by omega
  have M := hid (makerYes (u := (tipU ws : Int)) ho.1 (by omega) hn)
  have NW := hid (show noteW t p s (tipU ws) = ((noteI t p (tipU ws) : Nat) : Int) by rw [noteW, if_pos ⟨ho.1, by omega, hn⟩, i1])
  have PC := hidAll fun w => by have h := placeCells t p s w; rw [show cellsC t p s = (N : Int) by rw [cellsC, ho.1, ← hN]; rfl] at h; exact h
  have CW := hidAll fun (k : Nat) (hk : k < N) => (show cellW t p s k = ((16 + k : Nat) : Int) by rw [cellW, if_pos ⟨ho.1, by omega, by omega⟩]; omega)
  have NN := hid (show (cellsN t p).toNat = N by omega)
  have LX := hid (openX_cnt hop)
  have SO := hid (show stampsB N ws = true → settledO t p ws = none by intro h; rw [settledO, if_pos ⟨hn, by rw [NN.out]; exact h⟩, if_pos hop, if_neg (by rw [hE]; simp)])
  have SN := hid (show stampsB N ws = false → settledO t p ws = none by intro h; rw [settledO, if_neg (by rw [NN.out, h]; simp)])
  have ON := hid hN
  obtain ⟨_, _, _, h4⟩ := id hs
  rcases h4 with ⟨h4, _⟩ | ⟨b0, off, rfl, hc⟩
  · omega
  have HC := hidAll hc
  have c8 : w.cell? ⟨b0, off + 8, none⟩ = some (.int .u64 ((ws[8]?.getD 0 : Nat) : Int)) := hc 8 (by omega)
  have hx8 : ws[8]?.getD 0 < 18446744073709551616 := hf.getD (by omega) 8
  have hb0 := World.block_lt_of_cell? w _ c8
  have hS : tipS ws < 4294967296 := by unfold tipS; omega
  have O := hid (show ofTipV ((ws[8]?.getD 0 : Nat) : Int) = .tuple #[.int .u32 (tipS ws : Int), .int .i64 (tipU ws : Int), .bool true] by
    have e : ((ws[8]?.getD 0 : Nat) : Int) % 4294967296 = (tipU ws : Int) := by unfold tipU; omega
    have e' : ((ws[8]?.getD 0 : Nat) : Int) / 4294967296 = (tipS ws : Int) := by unfold tipS; omega
    rw [ofTipV, e, e', if_pos (by omega)])
  have OV := hid (show openV (noteX t p (tipU ws) ws) (tipS ws) = .tuple #[.int .i64 ((noteX t p (tipU ws) ws : Int) % 2147483648), .bool true] by rw [openX_V, hop]; rfl)
  have hxn : noteX t p (tipU ws) ws < 18446744073709551616 := hf.getD (by omega) _
  have cn := hc _ i3
  change w.cell? ⟨b0, off + noteI t p (tipU ws), none⟩ = some (.int .u64 ((noteX t p (tipU ws) ws : Nat) : Int)) at cn
  have hno : RowKit.Hid (openX (noteX t p (tipU ws) ws) (tipS ws) = true) := hid hop
  have HE := hid hE
  clear hE hop hc hlen hN mb i1 i2 cb hwl hs hf
  generalize hu : tipU ws = u at *
  generalize hSS : tipS ws = S at *
  have HU := hid hu; have HSS := hid hSS
  clear hu hSS
  generalize noteI t p u = ni at NW i3 cn SO
  generalize ws[8]?.getD 0 = x8 at c8 hx8 O
  go_enter Try.func54, Try.ntmps54
  go_wp2_with fail
  refine (redoRightYes t p s _ _ len cap HO.out).mono ?_
  rintro e w1 ⟨rfl, hb1⟩
  have hz1 := hb1.size
  simp at hz1
  have z1 : w.heap.size < w1.heap.size := by omega
  have hB1 : Below w.heap.size w w1 := bel
  have hC1 : Below (w.heap.size + 1) (w.alloc (.cells #[.int .i64 t, .int .i64 p, .int .i64 s] 23)) w1 := by have h := hb1; rw [show (w.alloc (.cells #[.int .i64 t, .int .i64 p, .int .i64 s] 23)).heap.size = w.heap.size + 1 by simp] at h; exact h
  have c8 : w1.cell? ⟨b0, off + 8, none⟩ = some (.int .u64 (x8 : Int)) := (hB1.cell (p := ⟨b0, off + 8, none⟩) hb0).trans c8
  have q0 : w1.cell? ⟨w.heap.size, 0, none⟩ = some (.int .i64 t) := (hC1.cell (p := ⟨w.heap.size, 0, none⟩) (Nat.lt_succ_self _)).trans (cellNew rfl rfl)
  have q1 : w1.cell? ⟨w.heap.size, 1, none⟩ = some (.int .i64 p) := (hC1.cell (p := ⟨w.heap.size, 1, none⟩) (Nat.lt_succ_self _)).trans (cellNew rfl rfl)
  have q2 : w1.cell? ⟨w.heap.size, 2, none⟩ = some (.int .i64 s) := (hC1.cell (p := ⟨w.heap.size, 2, none⟩) (Nat.lt_succ_self _)).trans (cellNew rfl rfl)
  go_wp2_with fail
  refine (markOfTip x8 _ (by omega) (by omega)).mono ?_
  rw [O.out]
  rintro e w2 ⟨rfl, rfl⟩
  go_wp2_with fail
  refine (redoMaker t p s u _ true M).mono ?_
  rintro e w3 ⟨rfl, hb3⟩
  have z3 : w.heap.size < w3.heap.size := by have := hb3.size; omega
  have hC3 : Below (w.heap.size + 1) (w.alloc (.cells #[.int .i64 t, .int .i64 p, .int .i64 s] 23)) w3 := hC1.trans (hb3.mono (by omega))
  have q0 := (hb3.cell (p := ⟨w.heap.size, 0, none⟩) z1).trans q0
  have q1 := (hb3.cell (p := ⟨w.heap.size, 1, none⟩) z1).trans q1
  have q2 := (hb3.cell (p := ⟨w.heap.size, 2, none⟩) z1).trans q2
  go_wp2_with fail
  refine (PC.out _).mono ?_
  rintro e w4 ⟨rfl, hb4⟩
  have hC4 : Below (w.heap.size + 1) (w.alloc (.cells #[.int .i64 t, .int .i64 p, .int .i64 s] 23)) w4 := hC3.trans (hb4.mono (by omega))
  clear q0 q1 q2 hb1 hb3 hb4 hC1 hC3 hB1 c8
  go_wp2_with fail
  go_loopw [41] (fun i wr => ∃ k : Nat, k ≤ N ∧ i = .int .i64 k ∧ RowKit.Hid (∀ j, j < k → stampAt ws j ≤ S) ∧ Below (w.heap.size + 1) (w.alloc (.cells #[.int .i64 t, .int .i64 p, .int .i64 s] 23)) wr) (fun i _ => N - (intOf i).toNat)
  case atStart => exact ⟨0, by omega, rfl, hid (fun j hj => by omega), hC4⟩
  case round =>
    clear hC4
    obtain ⟨k, hk, rfl, hst, hC⟩ := hrel
    have zr : w.heap.size < wr.heap.size := by have := hC.size; simp at this; omega
    have hB : Below w.heap.size w wr := ((Below.refl _ _).alloc (Nat.le_refl _) _).trans (hC.mono (by omega))
    have q0 : wr.cell? ⟨w.heap.size, 0, none⟩ = some (.int .i64 t) := (hC.cell (p := ⟨w.heap.size, 0, none⟩) (Nat.lt_succ_self _)).trans (cellNew rfl rfl)
    have q1 : wr.cell? ⟨w.heap.size, 1, none⟩ = some (.int .i64 p) := (hC.cell (p := ⟨w.heap.size, 1, none⟩) (Nat.lt_succ_self _)).trans (cellNew rfl rfl)
    have q2 : wr.cell? ⟨w.heap.size, 2, none⟩ = some (.int .i64 s) := (hC.cell (p := ⟨w.heap.size, 2, none⟩) (Nat.lt_succ_self _)).trans (cellNew rfl rfl)
    by_cases hlt : k < N
    · have hck := HC.out (16 + k) (by omega)
      have hx : ws[16 + k]?.getD 0 < 18446744073709551616 := HF.out.getD (by omega) _
      have hSt := hid (show stampAt ws k = ws[16 + k]?.getD 0 / 4294967296 from rfl)
      have cw := hid (CW.out k hlt)
      generalize ws[16 + k]?.getD 0 = x at hck hx hSt
      go_wp2_with fail
      refine (placeWord t p s k _).mono ?_
      rw [cw.out]
      rintro e w5 ⟨rfl, hb5⟩
      have hB5 : Below w.heap.size w w5 := hB.trans (hb5.mono (by omega))
      have hC5 : Below (w.heap.size + 1) (w.alloc (.cells #[.int .i64 t, .int .i64 p, .int .i64 s] 23)) w5 := hC.trans (hb5.mono (by omega))
      have hck5 : w5.cell? ⟨b0, off + (16 + k), none⟩ = some (.int .u64 (x : Int)) := (hB5.cell (p := ⟨b0, off + (16 + k), none⟩) hb0).trans hck
      clear hb5 hck
      by_cases hgt : S < x / 4294967296
      · have hno2 := hid (SN.out (stampsB_no hlt (by rw [HSS.out, hSt.out]; exact hgt)))
        have d : decide ((S : Int) < (x : Int) / 4294967296) = true := by simp; omega
        go_wp2_with fail
        refine (markStamp x _ (by omega) (by omega)).mono ?_
        rintro e w6 ⟨rfl, rfl⟩
        go_wp2_with fail
        go_ret3
        exact .inr ⟨.inr hno2.out, rfl, hB5⟩
      · have d : decide ((S : Int) < (x : Int) / 4294967296) = false := by simp; omega
        have hst2 := hid (show ∀ j, j < k + 1 → stampAt ws j ≤ S by
          intro j hj
          by_cases hjk : j = k
          · rw [hjk, hSt.out]; omega
          · exact hst.out j (by omega))
        clear hgt
        go_wp2_with fail
        refine (markStamp x _ (by omega) (by omega)).mono ?_
        rintro e w6 ⟨rfl, rfl⟩
        go_wp2_with fail
        go_roundw
        case rel => exact ⟨k + 1, by omega, by go_num, hst2, hC5⟩
        case measure => simp [intOf]; omega
    · obtain rfl : k = N := by omega
      have SO2 := hid (SO.out (stampsB_yes (fun j hj => by rw [HSS.out]; exact hst.out j hj)))
      clear hlt hst
      have cn2 : wr.cell? ⟨b0, off + ni, none⟩ = some (.int .u64 ((noteX t p u ws : Nat) : Int)) := (hB.cell (p := ⟨b0, off + ni, none⟩) hb0).trans cn
      generalize hX : noteX t p u ws = xn at cn2 hxn OV
      have HX := hid hX; clear hX
      go_wp2_with fail
      refine (placeNote t p s u _).mono ?_
      rw [NW.out]
      rintro e w5 ⟨rfl, hb5⟩
      have z5 : w.heap.size < w5.heap.size := by have := hb5.size; omega
      have hB5 : Below w.heap.size w w5 := hB.trans (hb5.mono (by omega))
      have hC5 : Below (w.heap.size + 1) (w.alloc (.cells #[.int .i64 t, .int .i64 p, .int .i64 s] 23)) w5 := hC.trans (hb5.mono (by omega))
      have cn5 : w5.cell? ⟨b0, off + ni, none⟩ = some (.int .u64 (xn : Int)) := (hb5.cell (p := ⟨b0, off + ni, none⟩) (Nat.lt_trans hb0 zr)).trans cn2
      have q0 := (hb5.cell (p := ⟨w.heap.size, 0, none⟩) zr).trans q0
      have q1 := (hb5.cell (p := ⟨w.heap.size, 1, none⟩) zr).trans q1
      have q2 := (hb5.cell (p := ⟨w.heap.size, 2, none⟩) zr).trans q2
      clear hb5 cn2
      go_wp2_with fail
      refine (markOpen xn S _ hxn).mono ?_
      rw [OV.out]
      rintro e w6 ⟨rfl, hb6⟩
      have z6 : w.heap.size < w6.heap.size := by have := hb6.size; omega
      have hB6 : Below w.heap.size w w6 := hB5.trans (hb6.mono (by omega))
      have hC6 : Below (w.heap.size + 1) (w.alloc (.cells #[.int .i64 t, .int .i64 p, .int .i64 s] 23)) w6 := hC5.trans (hb6.mono (by omega))
      have q0 := (hb6.cell (p := ⟨w.heap.size, 0, none⟩) z5).trans q0
      have q1 := (hb6.cell (p := ⟨w.heap.size, 1, none⟩) z5).trans q1
      have q2 := (hb6.cell (p := ⟨w.heap.size, 2, none⟩) z5).trans q2
      clear hb6
      have hs6 := HS.out.below hB6
      go_wp2_with fail
      refine (redoLogBad1 t p s u _ _ len cap ws hs6 HF.out HO.out (by omega) hn LX.out HE.out).mono ?_
      rintro e w7 ⟨rfl, hb7⟩
      have z7 : w.heap.size < w7.heap.size := by have := hb7.size; omega
      have hB7 : Below w.heap.size w w7 := hB6.trans (hb7.mono (by omega))
      clear hb7
      go_wp2_with fail
      go_ret3
      exact .inr ⟨.inr SO2.out, rfl, bel⟩

set_option maxRecDepth 100000 in
set_option maxHeartbeats 3200000 in
theorem redoSettledGood (t p s : Int) (w : World) (a : Option Addr) (len cap : Nat) (ws : List Nat) (hs : Seen .u64 w a len cap ws) (hf : Fit 18446744073709551616 ws) (ho : okW t p s len) (hn : (tipU ws : Int) ≤ t) (hop : openX (noteX t p (tipU ws) ws) (tipS ws) = true) (hE : entsB t p (logXs t p (tipU ws) ws) = true) : Calls Try.prog 54 #[.agg #[.int .i64 t, .int .i64 p, .int .i64 s], .slice a len cap] w (SettledPost w t p ws true) := by
  have hlen := hs.1
  have hlc := hs.2.1
  have hlm := hs.2.2.1
  have hbd := (okW_words ho).2
  have HO := hid ho
  have HS := hid hs
  have HF := hid hf
  obtain ⟨⟨h1, h2⟩, ⟨h3, h4'⟩, h5, h6⟩ := rightC_of ho.1
  have cb : 58 ≤ cellsN t p ∧ cellsN t p ≤ 6238 := by unfold cellsN; omega
  have mb := makers_bd ⟨⟨h1, h2⟩, h3, h4'⟩
  obtain ⟨i1, i2, i3, i4⟩ := noteI_bd (u := (tipU ws : Int)) ho (by omega) hn
  have hwl := ho.2
  obtain ⟨N, hN⟩ := Int.eq_ofNat_of_zero_le (show 0 ≤ cellsN t p by omega)
  have hN16 : 16 + N ≤ len := by omega
  have M := hid (makerYes (u := (tipU ws : Int)) ho.1 (by omega) hn)
  have NW := hid (show noteW t p s (tipU ws) = ((noteI t p (tipU ws) : Nat) : Int) by rw [noteW, if_pos ⟨ho.1, by omega, hn⟩, i1])
  have PC := hidAll fun w => by have h := placeCells t p s w; rw [show cellsC t p s = (N : Int) by rw [cellsC, ho.1, ← hN]; rfl] at h; exact h
  have CW := hidAll fun (k : Nat) (hk : k < N) => (show cellW t p s k = ((16 + k : Nat) : Int) by rw [cellW, if_pos ⟨ho.1, by omega, by omega⟩]; omega)
  have NN := hid (show (cellsN t p).toNat = N by omega)
  have LX := hid (openX_cnt hop)
  have SO := hid (show stampsB N ws = true → settledO t p ws = some (applyX (tipS ws) (logXs t p (tipU ws) ws) ws, ((noteI t p (tipU ws) : Nat) : Int)) by intro h; rw [settledO, if_pos ⟨hn, by rw [NN.out]; exact h⟩, if_pos hop, if_pos hE])
  have SN := hid (show stampsB N ws = false → settledO t p ws = none by intro h; rw [settledO, if_neg (by rw [NN.out, h]; simp)])
  have ON := hid hN
  obtain ⟨_, _, _, h4⟩ := id hs
  rcases h4 with ⟨h4, _⟩ | ⟨b0, off, rfl, hc⟩
  · omega
  have HC := hidAll hc
  have c8 : w.cell? ⟨b0, off + 8, none⟩ = some (.int .u64 ((ws[8]?.getD 0 : Nat) : Int)) := hc 8 (by omega)
  have hx8 : ws[8]?.getD 0 < 18446744073709551616 := hf.getD (by omega) 8
  have hb0 := World.block_lt_of_cell? w _ c8
  have hS : tipS ws < 4294967296 := by unfold tipS; omega
  have O := hid (show ofTipV ((ws[8]?.getD 0 : Nat) : Int) = .tuple #[.int .u32 (tipS ws : Int), .int .i64 (tipU ws : Int), .bool true] by
    have e : ((ws[8]?.getD 0 : Nat) : Int) % 4294967296 = (tipU ws : Int) := by unfold tipU; omega
    have e' : ((ws[8]?.getD 0 : Nat) : Int) / 4294967296 = (tipS ws : Int) := by unfold tipS; omega
    rw [ofTipV, e, e', if_pos (by omega)])
  have OV := hid (show openV (noteX t p (tipU ws) ws) (tipS ws) = .tuple #[.int .i64 ((noteX t p (tipU ws) ws : Int) % 2147483648), .bool true] by rw [openX_V, hop]; rfl)
  have hxn : noteX t p (tipU ws) ws < 18446744073709551616 := hf.getD (by omega) _
  have cn := hc _ i3
  change w.cell? ⟨b0, off + noteI t p (tipU ws), none⟩ = some (.int .u64 ((noteX t p (tipU ws) ws : Nat) : Int)) at cn
  have hno : RowKit.Hid (openX (noteX t p (tipU ws) ws) (tipS ws) = true) := hid hop
  have HE := hid hE
  clear hE hop hc hlen hN mb i1 i2 cb hwl hs hf
  generalize hu : tipU ws = u at *
  generalize hSS : tipS ws = S at *
  have HU := hid hu; have HSS := hid hSS
  clear hu hSS
  generalize noteI t p u = ni at NW i3 cn SO
  generalize ws[8]?.getD 0 = x8 at c8 hx8 O
  go_enter Try.func54, Try.ntmps54
  go_wp2_with fail
  refine (redoRightYes t p s _ _ len cap HO.out).mono ?_
  rintro e w1 ⟨rfl, hb1⟩
  have hz1 := hb1.size
  simp at hz1
  have z1 : w.heap.size < w1.heap.size := by omega
  have hB1 : Below w.heap.size w w1 := bel
  have hC1 : Below (w.heap.size + 1) (w.alloc (.cells #[.int .i64 t, .int .i64 p, .int .i64 s] 23)) w1 := by have h := hb1; rw [show (w.alloc (.cells #[.int .i64 t, .int .i64 p, .int .i64 s] 23)).heap.size = w.heap.size + 1 by simp] at h; exact h
  have c8 : w1.cell? ⟨b0, off + 8, none⟩ = some (.int .u64 (x8 : Int)) := (hB1.cell (p := ⟨b0, off + 8, none⟩) hb0).trans c8
  have q0 : w1.cell? ⟨w.heap.size, 0, none⟩ = some (.int .i64 t) := (hC1.cell (p := ⟨w.heap.size, 0, none⟩) (Nat.lt_succ_self _)).trans (cellNew rfl rfl)
  have q1 : w1.cell? ⟨w.heap.size, 1, none⟩ = some (.int .i64 p) := (hC1.cell (p := ⟨w.heap.size, 1, none⟩) (Nat.lt_succ_self _)).trans (cellNew rfl rfl)
  have q2 : w1.cell? ⟨w.heap.size, 2, none⟩ = some (.int .i64 s) := (hC1.cell (p := ⟨w.heap.size, 2, none⟩) (Nat.lt_succ_self _)).trans (cellNew rfl rfl)
  go_wp2_with fail
  refine (markOfTip x8 _ (by omega) (by omega)).mono ?_
  rw [O.out]
  rintro e w2 ⟨rfl, rfl⟩
  go_wp2_with fail
  refine (redoMaker t p s u _ true M).mono ?_
  rintro e w3 ⟨rfl, hb3⟩
  have z3 : w.heap.size < w3.heap.size := by have := hb3.size; omega
  have hC3 : Below (w.heap.size + 1) (w.alloc (.cells #[.int .i64 t, .int .i64 p, .int .i64 s] 23)) w3 := hC1.trans (hb3.mono (by omega))
  have q0 := (hb3.cell (p := ⟨w.heap.size, 0, none⟩) z1).trans q0
  have q1 := (hb3.cell (p := ⟨w.heap.size, 1, none⟩) z1).trans q1
  have q2 := (hb3.cell (p := ⟨w.heap.size, 2, none⟩) z1).trans q2
  go_wp2_with fail
  refine (PC.out _).mono ?_
  rintro e w4 ⟨rfl, hb4⟩
  have hC4 : Below (w.heap.size + 1) (w.alloc (.cells #[.int .i64 t, .int .i64 p, .int .i64 s] 23)) w4 := hC3.trans (hb4.mono (by omega))
  clear q0 q1 q2 hb1 hb3 hb4 hC1 hC3 hB1 c8
  go_wp2_with fail
  go_loopw [41] (fun i wr => ∃ k : Nat, k ≤ N ∧ i = .int .i64 k ∧ RowKit.Hid (∀ j, j < k → stampAt ws j ≤ S) ∧ Below (w.heap.size + 1) (w.alloc (.cells #[.int .i64 t, .int .i64 p, .int .i64 s] 23)) wr) (fun i _ => N - (intOf i).toNat)
  case atStart => exact ⟨0, by omega, rfl, hid (fun j hj => by omega), hC4⟩
  case round =>
    clear hC4
    obtain ⟨k, hk, rfl, hst, hC⟩ := hrel
    have zr : w.heap.size < wr.heap.size := by have := hC.size; simp at this; omega
    have hB : Below w.heap.size w wr := ((Below.refl _ _).alloc (Nat.le_refl _) _).trans (hC.mono (by omega))
    have q0 : wr.cell? ⟨w.heap.size, 0, none⟩ = some (.int .i64 t) := (hC.cell (p := ⟨w.heap.size, 0, none⟩) (Nat.lt_succ_self _)).trans (cellNew rfl rfl)
    have q1 : wr.cell? ⟨w.heap.size, 1, none⟩ = some (.int .i64 p) := (hC.cell (p := ⟨w.heap.size, 1, none⟩) (Nat.lt_succ_self _)).trans (cellNew rfl rfl)
    have q2 : wr.cell? ⟨w.heap.size, 2, none⟩ = some (.int .i64 s) := (hC.cell (p := ⟨w.heap.size, 2, none⟩) (Nat.lt_succ_self _)).trans (cellNew rfl rfl)
    by_cases hlt : k < N
    · have hck := HC.out (16 + k) (by omega)
      have hx : ws[16 + k]?.getD 0 < 18446744073709551616 := HF.out.getD (by omega) _
      have hSt := hid (show stampAt ws k = ws[16 + k]?.getD 0 / 4294967296 from rfl)
      have cw := hid (CW.out k hlt)
      generalize ws[16 + k]?.getD 0 = x at hck hx hSt
      go_wp2_with fail
      refine (placeWord t p s k _).mono ?_
      rw [cw.out]
      rintro e w5 ⟨rfl, hb5⟩
      have hB5 : Below w.heap.size w w5 := hB.trans (hb5.mono (by omega))
      have hC5 : Below (w.heap.size + 1) (w.alloc (.cells #[.int .i64 t, .int .i64 p, .int .i64 s] 23)) w5 := hC.trans (hb5.mono (by omega))
      have hck5 : w5.cell? ⟨b0, off + (16 + k), none⟩ = some (.int .u64 (x : Int)) := (hB5.cell (p := ⟨b0, off + (16 + k), none⟩) hb0).trans hck
      clear hb5 hck
      by_cases hgt : S < x / 4294967296
      · have hno2 := hid (SN.out (stampsB_no hlt (by rw [HSS.out, hSt.out]; exact hgt)))
        have d : decide ((S : Int) < (x : Int) / 4294967296) = true := by simp; omega
        go_wp2_with fail
        refine (markStamp x _ (by omega) (by omega)).mono ?_
        rintro e w6 ⟨rfl, rfl⟩
        go_wp2_with fail
        go_ret3
        exact .inr ⟨.inr hno2.out, rfl, hB5⟩
      · have d : decide ((S : Int) < (x : Int) / 4294967296) = false := by simp; omega
        have hst2 := hid (show ∀ j, j < k + 1 → stampAt ws j ≤ S by
          intro j hj
          by_cases hjk : j = k
          · rw [hjk, hSt.out]; omega
          · exact hst.out j (by omega))
        clear hgt
        go_wp2_with fail
        refine (markStamp x _ (by omega) (by omega)).mono ?_
        rintro e w6 ⟨rfl, rfl⟩
        go_wp2_with fail
        go_roundw
        case rel => exact ⟨k + 1, by omega, by go_num, hst2, hC5⟩
        case measure => simp [intOf]; omega
    · obtain rfl : k = N := by omega
      have SO2 := hid (SO.out (stampsB_yes (fun j hj => by rw [HSS.out]; exact hst.out j hj)))
      clear hlt hst
      have cn2 : wr.cell? ⟨b0, off + ni, none⟩ = some (.int .u64 ((noteX t p u ws : Nat) : Int)) := (hB.cell (p := ⟨b0, off + ni, none⟩) hb0).trans cn
      generalize hX : noteX t p u ws = xn at cn2 hxn OV
      have HX := hid hX; clear hX
      go_wp2_with fail
      refine (placeNote t p s u _).mono ?_
      rw [NW.out]
      rintro e w5 ⟨rfl, hb5⟩
      have z5 : w.heap.size < w5.heap.size := by have := hb5.size; omega
      have hB5 : Below w.heap.size w w5 := hB.trans (hb5.mono (by omega))
      have hC5 : Below (w.heap.size + 1) (w.alloc (.cells #[.int .i64 t, .int .i64 p, .int .i64 s] 23)) w5 := hC.trans (hb5.mono (by omega))
      have cn5 : w5.cell? ⟨b0, off + ni, none⟩ = some (.int .u64 (xn : Int)) := (hb5.cell (p := ⟨b0, off + ni, none⟩) (Nat.lt_trans hb0 zr)).trans cn2
      have q0 := (hb5.cell (p := ⟨w.heap.size, 0, none⟩) zr).trans q0
      have q1 := (hb5.cell (p := ⟨w.heap.size, 1, none⟩) zr).trans q1
      have q2 := (hb5.cell (p := ⟨w.heap.size, 2, none⟩) zr).trans q2
      clear hb5 cn2
      go_wp2_with fail
      refine (markOpen xn S _ hxn).mono ?_
      rw [OV.out]
      rintro e w6 ⟨rfl, hb6⟩
      have z6 : w.heap.size < w6.heap.size := by have := hb6.size; omega
      have hB6 : Below w.heap.size w w6 := hB5.trans (hb6.mono (by omega))
      have hC6 : Below (w.heap.size + 1) (w.alloc (.cells #[.int .i64 t, .int .i64 p, .int .i64 s] 23)) w6 := hC5.trans (hb6.mono (by omega))
      have q0 := (hb6.cell (p := ⟨w.heap.size, 0, none⟩) z5).trans q0
      have q1 := (hb6.cell (p := ⟨w.heap.size, 1, none⟩) z5).trans q1
      have q2 := (hb6.cell (p := ⟨w.heap.size, 2, none⟩) z5).trans q2
      clear hb6
      have hs6 := HS.out.below hB6
      go_wp2_with fail
      refine (redoLogGood1 t p s u _ _ len cap ws hs6 HF.out HO.out (by omega) hn LX.out HE.out).mono ?_
      rintro e w7 ⟨⟨st, ob, cc, v, rfl, ho7⟩, hb7⟩
      have z7 : w.heap.size < w7.heap.size := by have := hb7.size; omega
      have hB7 : Below w.heap.size w w7 := hB6.trans (hb7.mono (by omega))
      have hC7 : Below (w.heap.size + 1) (w.alloc (.cells #[.int .i64 t, .int .i64 p, .int .i64 s] 23)) w7 := hC6.trans (hb7.mono (by omega))
      have hs7 := HS.out.below (hB7.alloc (by omega) (.cells #[.int .u32 st, .bool ob, .int .i64 cc] 32))
      clear q0 q1 q2
      obtain ⟨obw, rfl⟩ : ∃ obw : World, obw = wr := ⟨_, rfl⟩
      go_wp2_with fail
      refine (cloneWords _ _ len cap ws hs7 (by omega)).mono ?_
      rintro e w8 ⟨a8, m8, cap8, rfl, ho8, hb8⟩
      obtain ⟨g8, hca⟩ : ∃ g8, .slice a8 m8 cap8 = Value.slice (some ⟨g8, 0, none⟩) len cap8 ∧ w7.heap.size < g8 ∧ g8 < w8.heap.size := by
        obtain ⟨g, c', h1, h2, h3, _⟩ := ho8.form (by rw [HS.out.1]; omega)
        rw [HS.out.1] at h1
        cases h1
        have h4 : w7.heap.size + 1 ≤ g := by simpa using h2
        exact ⟨g, rfl, by omega, h3⟩
      obtain ⟨hv8, hg8, hg8'⟩ := hca
      rw [hv8] at ho8 ⊢
      clear hv8
      have hC8 : Below (w.heap.size + 1) (w.alloc (.cells #[.int .i64 t, .int .i64 p, .int .i64 s] 23)) w8 := (hC7.alloc (by omega) _).trans (hb8.mono (by simp; omega))
      have ho8' : OwnP w8 (w.heap.size + 1) v (logXs t p u ws) := ((ho7.kept ((Below.refl _ _).alloc (Nat.le_refl _) _) (Nat.le_refl _)).kept hb8 (Nat.le_refl _)).rebase (by omega)
      have hnl : (logXs t p u ws).length ≤ 96 := by have h := LX.out; unfold logXs; rw [List.length_take]; omega
      have HX2 := hid (show ∀ i, i < (logXs t p u ws).length → (logXs t p u ws)[i]?.getD 0 / 4294967296 < k from fun i hi => by have h := entsB_at HE.out hi; rw [ON.out] at h; omega)
      have HT := hidAll fun j (hj : j < (logXs t p u ws).length) => applyX_take S (logXs t p u ws) ws j hj
      have HFit := hidAll fun j => applyX_fit (S := S) hS ((logXs t p u ws).take j) HF.out
      have HLen := hidAll fun j => (applyX_length S ((logXs t p u ws).take j) ws).trans HS.out.1
      have hfull := hid (show applyX S ((logXs t p u ws).take (logXs t p u ws).length) ws = applyX S (logXs t p u ws) ws by rw [List.take_length])
      have hzero := hid (show applyX S ((logXs t p u ws).take 0) ws = ws from rfl)
      generalize logXs t p u ws = es at ho7 ho8' hnl HX2 HT HFit HLen hfull SO2 hzero
      obtain ⟨a9, cap9, hv9⟩ := ho8'.form
      subst hv9
      have HG := hid (show ∀ g, a9 = some ⟨g, 0, none⟩ → g < w7.heap.size from fun g hg => by subst hg; exact ho7.lt)
      obtain ⟨n, hn9⟩ : ∃ n, es.length = n := ⟨_, rfl⟩
      rw [hn9] at ho8' hnl HX2 HT hfull ⊢
      have HN := hid hn9
      clear hn9 ho7 hb7 hb8 hC7 hB7 hs7
      rw [← hzero.out] at ho8
      go_wp2_with fail
      go_loopw [83] (fun i wr => ∃ j : Nat, j ≤ n ∧ i = .int .i64 j ∧ Own 46 .u64 wr (w7.heap.size + 1) (.slice (some ⟨g8, 0, none⟩) len cap8) (applyX S (es.take j) ws) ∧ OwnP wr (w.heap.size + 1) (.slice a9 n cap9) es ∧ Below (w.heap.size + 1) (w.alloc (.cells #[.int .i64 t, .int .i64 p, .int .i64 s] 23)) wr) (fun i _ => n - (intOf i).toNat)
      case atStart => exact ⟨0, by omega, rfl, by simpa using ho8, ho8', hC8⟩
      case round =>
        clear ho8 ho8' hC8 hzero
        obtain ⟨j, hj, rfl, hO, hP, hC⟩ := hrel
        have zr : w.heap.size < wr.heap.size := by have := hC.size; simp at this; omega
        have hB : Below w.heap.size w wr := ((Below.refl _ _).alloc (Nat.le_refl _) _).trans (hC.mono (by omega))
        have q0 : wr.cell? ⟨w.heap.size, 0, none⟩ = some (.int .i64 t) := (hC.cell (p := ⟨w.heap.size, 0, none⟩) (Nat.lt_succ_self _)).trans (cellNew rfl rfl)
        have q1 : wr.cell? ⟨w.heap.size, 1, none⟩ = some (.int .i64 p) := (hC.cell (p := ⟨w.heap.size, 1, none⟩) (Nat.lt_succ_self _)).trans (cellNew rfl rfl)
        have q2 : wr.cell? ⟨w.heap.size, 2, none⟩ = some (.int .i64 s) := (hC.cell (p := ⟨w.heap.size, 2, none⟩) (Nat.lt_succ_self _)).trans (cellNew rfl rfl)
        by_cases hlt : j < n
        · obtain ⟨g, hga, hgb, hgl, hcs⟩ := hP.cells HN.out (by omega)
          subst hga
          obtain ⟨ce0, ce1⟩ := hcs j hlt
          rw [Nat.mul_comm 2 j] at ce0 ce1
          clear hcs
          have hgg := HG.out g rfl
          have hce := HX2.out j hlt
          have ht := hid (HT.out j hlt)
          have hfj := HFit.out j
          have hlj := hid (HLen.out j)
          have hput := hid (show putX S (applyX S (es.take j) ws) (es[j]?.getD 0) = if stampAt (applyX S (es.take j) ws) ((es[j]?.getD 0) / 4294967296) < S then (applyX S (es.take j) ws).set (16 + (es[j]?.getD 0) / 4294967296) (S * 4294967296 + (es[j]?.getD 0) % 4294967296) else applyX S (es.take j) ws from rfl)
          have e1 : ((es[j]?.getD 0 : Nat) : Int) / 4294967296 = (((es[j]?.getD 0) / 4294967296 : Nat) : Int) := by omega
          have e2 : ((es[j]?.getD 0 : Nat) : Int) % 4294967296 = (((es[j]?.getD 0) % 4294967296 : Nat) : Int) := by omega
          have hve : (es[j]?.getD 0) % 4294967296 < 4294967296 := Nat.mod_lt _ (by decide)
          rw [e1] at ce0
          rw [e2] at ce1
          clear e1 e2
          have ht2 := hid (ht.out.trans hput.out)
          clear ht hput
          generalize es[j]?.getD 0 / 4294967296 = ce at ce0 hce ht2
          generalize es[j]?.getD 0 % 4294967296 = ve at ce1 hve ht2
          generalize applyX S (es.take j) ws = cur at hO hfj hlj ht2
          have hcy := hO.cell hlj.out (16 + ce) (by omega)
          have hfz := hO.unfrozen hlj.out (16 + ce)
          have hy := hfj.getD (by omega) (16 + ce)
          have hsta := hid (show stampAt cur ce = cur[16 + ce]?.getD 0 / 4294967296 from rfl)
          have cw := hid (CW.out ce hce)
          generalize cur[16 + ce]?.getD 0 = y at hcy hy hsta
          have zg8 : g8 < wr.heap.size := World.block_lt_of_cell? wr _ hcy
          go_wp2_with fail
          refine (placeWord t p s ce _).mono ?_
          rw [cw.out]
          rintro e wA ⟨rfl, hbA⟩
          have zA := hbA.size
          simp at zA
          have zA' : wr.heap.size < wA.heap.size := by omega
          have zA2 : g8 < wA.heap.size := by omega
          have hOA := (hO.kept ((Below.refl _ _).alloc (Nat.le_refl _) (.cells #[.int .i64 (ce : Int), .int .u32 (ve : Int)] 75)) (Nat.le_refl _)).kept hbA (Nat.le_refl _)
          have hPA := (hP.kept ((Below.refl _ _).alloc (Nat.le_refl _) (.cells #[.int .i64 (ce : Int), .int .u32 (ve : Int)] 75)) (Nat.le_refl _)).kept hbA (Nat.le_refl _)
          have hCA : Below (w.heap.size + 1) (w.alloc (.cells #[.int .i64 t, .int .i64 p, .int .i64 s] 23)) wA := (hC.alloc (by omega) _).trans (hbA.mono (by simp; omega))
          have hcyA : wA.cell? ⟨g8, 16 + ce, none⟩ = some (.int .u64 (y : Int)) := (hbA.cell (p := ⟨g8, 16 + ce, none⟩) (by simp; omega)).trans (cellOld zg8 hcy)
          have hfzA : wA.frozen? ⟨g8, 16 + ce, none⟩ = false := hOA.unfrozen hlj.out (16 + ce)
          have p0 : wA.cell? ⟨wr.heap.size, 0, none⟩ = some (.int .i64 (ce : Int)) := (hbA.cell (p := ⟨wr.heap.size, 0, none⟩) (by simp)).trans (cellNew rfl rfl)
          have p1 : wA.cell? ⟨wr.heap.size, 1, none⟩ = some (.int .u32 (ve : Int)) := (hbA.cell (p := ⟨wr.heap.size, 1, none⟩) (by simp)).trans (cellNew rfl rfl)
          clear hbA hO hP hC hcy hfz q0 q1 q2 ce0 ce1
          by_cases hys : y / 4294967296 < S
          · have d : decide ((y : Int) / 4294967296 < (S : Int)) = true := by simp; omega
            go_wp2_with fail
            refine (markStamp y _ (by omega) (by omega)).mono ?_
            rintro e wB ⟨rfl, rfl⟩
            go_wp2_with fail
            refine (markCell S ve _ (by omega) (by omega) (by omega) (by omega)).mono ?_
            rintro e wB ⟨rfl, rfl⟩
            go_wp2_with fail
            go_roundw
            case rel =>
              refine ⟨j + 1, by omega, by go_num, ?_, hPA.setNe (by omega) _ _, hCA.setCell (by show w.heap.size + 1 ≤ g8; omega) _⟩
              rw [ht2.out, if_pos (by rw [hsta.out]; exact hys)]
              exact hOA.stored hlj.out (16 + ce) (S * 4294967296 + ve)
            case measure => simp [intOf]; omega
          · have d : decide ((y : Int) / 4294967296 < (S : Int)) = false := by simp; omega
            go_wp2_with fail
            refine (markStamp y _ (by omega) (by omega)).mono ?_
            rintro e wB ⟨rfl, rfl⟩
            go_wp2_with fail
            go_roundw
            case rel =>
              refine ⟨j + 1, by omega, by go_num, ?_, hPA, hCA⟩
              rw [ht2.out, if_neg (by rw [hsta.out]; exact hys)]
              exact hOA
            case measure => simp [intOf]; omega
        · obtain rfl : j = n := by omega
          rw [hfull.out] at hO
          have q0' := q0; have q1' := q1; have q2' := q2
          go_wp2_with fail
          refine (placeNote t p s u _).mono ?_
          rw [NW.out]
          rintro e wA ⟨rfl, hbA⟩
          go_wp2_with fail
          go_ret3
          exact .inl ⟨_, _, rfl, SO2.out, _, _, _, rfl, (hO.kept hbA (Nat.le_refl _)).rebase (by omega), hB.trans (hbA.mono (by omega))⟩
end Go.Proofs.Ytkkhoiahjmfibaa
