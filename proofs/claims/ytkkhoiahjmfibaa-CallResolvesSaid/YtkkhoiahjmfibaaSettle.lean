/- The walks of package redo's Settle and Tidy. -/
import Derived.Test.YtkkhoiahjmfibaaSettled3
namespace Go.Proofs.Ytkkhoiahjmfibaa
open Go.RowKit
set_option linter.unusedVariables false
set_option linter.unusedSimpArgs false

theorem redoSettled (t p s : Int) (w : World) (a : Option Addr) (len cap : Nat) (ws : List Nat) (hs : Seen .u64 w a len cap ws) (hf : Fit 18446744073709551616 ws) (ho : okW t p s len) :
    Calls Try.prog 54 #[.agg #[.int .i64 t, .int .i64 p, .int .i64 s], .slice a len cap] w (SettledPost w t p ws true) := by
  by_cases hn : (tipU ws : Int) ≤ t
  · cases hop : openX (noteX t p (tipU ws) ws) (tipS ws)
    · exact redoSettledShut t p s w a len cap ws hs hf ho hn hop
    · cases hE : entsB t p (logXs t p (tipU ws) ws)
      · exact redoSettledBad t p s w a len cap ws hs hf ho hn hop hE
      · exact redoSettledGood t p s w a len cap ws hs hf ho hn hop hE
  · exact redoSettledTip t p s w a len cap ws hs hf ho hn

/-- The values of cells. -/
def valsOf (n : Nat) (ws : List Nat) : List Nat := (List.range n).map fun i => (ws[16 + i]?.getD 0) % 4294967296
def settleO (t p : Int) (ws : List Nat) : Option (List Nat) := (settledO t p ws).map fun r => valsOf (cellsN t p).toNat r.1
/-- A note's word, closed. -/
def closeX (x : Nat) : Nat := if x % 2147483648 ≤ 96 then x / 4294967296 * 4294967296 + x % 2147483648 else 0
def tidyO (t p : Int) (ws : List Nat) : Option (List Nat) := (settledO t p ws).map fun r => if 0 ≤ r.2 then r.1.set r.2.toNat (closeX (r.1[r.2.toNat]?.getD 0)) else r.1
theorem settledO_length {t p : Int} {ws r : List Nat} {n : Int} (h : settledO t p ws = some (r, n)) : r.length = ws.length := by
  unfold settledO at h
  repeat' split at h
  all_goals simp at h
  · rw [← h.1, applyX_length]
  · rw [← h.1]
theorem settledO_fit {t p : Int} {ws r : List Nat} {n : Int} (h : settledO t p ws = some (r, n)) (hf : Fit 18446744073709551616 ws) : Fit 18446744073709551616 r := by
  have hS : tipS ws < 4294967296 := by have := hf.getD (by omega) 8; unfold tipS; omega
  unfold settledO at h
  repeat' split at h
  all_goals simp at h
  · rw [← h.1]; exact applyX_fit hS _ hf
  · rw [← h.1]; exact hf
theorem settledO_note {t p s : Int} {ws r : List Nat} {n : Int} {len : Nat} (h : settledO t p ws = some (r, n)) (ho : okW t p s len) : n = -1 ∨ (0 ≤ n ∧ n < (len : Int)) := by
  unfold settledO at h
  repeat' split at h
  all_goals simp at h
  · rename_i h1 _ _
    obtain ⟨i1, i2, i3, i4⟩ := noteI_bd (u := (tipU ws : Int)) ho (by omega) h1.1
    rw [← h.2]; omega
  · exact .inl h.2.symm

/-- What a settling answers: values, or none. -/
def OptPost (T : TypeId) (k : IntKind) (w : World) (o : Option (List Nat)) (e : Ending) (w' : World) : Prop :=
  (∃ r, o = some r ∧ ∃ a m cap, e = .returned (.tuple #[.slice a m cap, .bool true]) ∧ Own T k w' w.heap.size (.slice a m cap) r ∧ Below w.heap.size w w') ∨ (o = none ∧ e = .returned (.tuple #[.slice none 0 0, .bool false]) ∧ Below w.heap.size w w')

theorem redoSettleNo (t p s : Int) (w : World) (a : Option Addr) (len cap : Nat) (ws : List Nat) (h : ¬ okW t p s len) :
    Calls Try.prog 18 #[.agg #[.int .i64 t, .int .i64 p, .int .i64 s], .slice a len cap] w (OptPost 25 .u32 w none) := by
  have HO := hid h
  clear h
  go_enter Try.func18, Try.ntmps18
  go_wp2_with fail
  refine (redoSettledNo t p s _ a len cap ws HO.out).mono ?_
  rintro e w1 (⟨_, _, hg, _⟩ | ⟨_, rfl, hb1⟩)
  · cases hg
  go_wp2_with fail
  go_ret2
  exact .inr ⟨rfl, rfl, bel⟩
theorem redoTidyNo (t p s : Int) (w : World) (a : Option Addr) (len cap : Nat) (ws : List Nat) (h : ¬ okW t p s len) :
    Calls Try.prog 19 #[.agg #[.int .i64 t, .int .i64 p, .int .i64 s], .slice a len cap] w (OptPost 46 .u64 w none) := by
  have HO := hid h
  clear h
  go_enter Try.func19, Try.ntmps19
  go_wp2_with fail
  refine (redoSettledNo t p s _ a len cap ws HO.out).mono ?_
  rintro e w1 (⟨_, _, hg, _⟩ | ⟨_, rfl, hb1⟩)
  · cases hg
  go_wp2_with fail
  go_ret2
  exact .inr ⟨rfl, rfl, bel⟩

theorem closeParts (x : Nat) (hx : x < 18446744073709551616) : ∃ (st : Nat) (ob : Bool) (c : Int) (ok : Bool), ofNoteV x = .tuple #[.agg #[.int .u32 (st : Int), .bool ob, .int .i64 c], .bool ok] ∧ st < 4294967296 ∧ noteV st c false = .tuple #[.int .u64 ((closeX x : Nat) : Int), .bool true] := by
  unfold closeX
  by_cases h : x % 2147483648 ≤ 96
  · refine ⟨x / 4294967296, ((x : Int) / 2147483648 % 2 == 1), (x : Int) % 2147483648, true, ?_, by omega, ?_⟩
    · rw [ofNoteV, if_pos (by omega), show ((x / 4294967296 : Nat) : Int) = (x : Int) / 4294967296 by omega]
    · rw [noteV, if_pos (by omega), if_pos h]
      have : ((x / 4294967296 : Nat) : Int) * 4294967296 + (x : Int) % 2147483648 + (if false = true then 2147483648 else 0) = ((x / 4294967296 * 4294967296 + x % 2147483648 : Nat) : Int) := by simp
      rw [this]
  · refine ⟨0, false, 0, false, ?_, by omega, ?_⟩
    · rw [ofNoteV, if_neg (by omega)]; rfl
    · rw [noteV, if_pos (by omega), if_neg h]; rfl

set_option maxHeartbeats 1600000 in
theorem redoTidy (t p s : Int) (w : World) (a : Option Addr) (len cap : Nat) (ws : List Nat) (hs : Seen .u64 w a len cap ws) (hf : Fit 18446744073709551616 ws) (ho : okW t p s len) :
    Calls Try.prog 19 #[.agg #[.int .i64 t, .int .i64 p, .int .i64 s], .slice a len cap] w (OptPost 46 .u64 w (tidyO t p ws)) := by
  have HO := hid ho
  have HL := hid hs.1
  have hlen := (okW_words ho).2
  have hlm := hs.2.2.1
  have hlc := hs.2.1
  go_enter Try.func19, Try.ntmps19
  go_wp2_with fail
  refine (redoSettled t p s _ a len cap ws (hs.below bel) hf HO.out).mono ?_
  rintro e w1 (⟨r, n, _, hset, a1, m1, cap1, rfl, hown, hb1⟩ | ⟨hno, rfl, hb1⟩)
  · have hz1 := hb1.size
    simp at hz1
    have z1 : w.heap.size < w1.heap.size := by omega
    have hB1 : Below w.heap.size w w1 := bel
    have hrl := settledO_length hset
    have hrf := settledO_fit hset hf
    obtain ⟨g, cap', hv, hg, hgs, _⟩ := hown.form (by rw [hrl, HL.out]; omega)
    rw [hrl, HL.out] at hv
    cases hv
    simp at hg
    have RL := hid (hrl.trans HL.out)
    have hown : Own 46 .u64 w1 (w.heap.size + 1) (.slice (some ⟨g, 0, none⟩) len cap1) r := by simpa using hown
    clear hrl
    rcases settledO_note hset HO.out with rfl | ⟨n0, n1⟩
    · have HT := hid (show tidyO t p ws = some r by rw [tidyO, hset]; rfl)
      clear hset hs hb1
      go_wp2_with fail
      go_ret2
      exact .inl ⟨r, HT.out, _, _, _, rfl, hown.rebase (by omega), hB1⟩
    · obtain ⟨ni, rfl⟩ := Int.eq_ofNat_of_zero_le n0
      have HT := hid (show tidyO t p ws = some (r.set ni (closeX (r[ni]?.getD 0))) by rw [tidyO, hset]; simp)
      have hc := hown.cell RL.out ni (by omega)
      have hfz := hown.unfrozen RL.out ni
      have hx := hrf.getD (by omega) ni
      clear hset hs hb1 hrf n0
      generalize r[ni]?.getD 0 = x at hc hx HT
      obtain ⟨st, ob, c, ok, hO⟩ := closeParts x hx
      obtain ⟨hO1, hst, hO2⟩ := hO
      have O1 := hid hO1; have O2 := hid hO2
      clear hO1 hO2
      generalize closeX x = cx at O2 HT
      go_wp2_with fail
      refine (markOfNote x _ hx).mono ?_
      rw [O1.out]
      rintro e w2 ⟨rfl, hb2⟩
      have z2 : w1.heap.size ≤ w2.heap.size := hb2.size
      have hown2 := hown.kept hb2 (Nat.le_refl _)
      have hB2 : Below w.heap.size w w2 := hB1.trans (hb2.mono (by omega))
      go_wp2_with fail
      refine (markNote st c false _ (by omega) (by omega)).mono ?_
      rw [O2.out]
      rintro e w3 ⟨rfl, hb3⟩
      have hB23 : Below w2.heap.size w2 w3 := bel
      have hown3 := hown2.kept hB23 (Nat.le_refl _)
      have hc3 := hown3.cell RL.out ni (by omega)
      have hfz3 := hown3.unfrozen RL.out ni
      generalize r[ni]?.getD 0 = x3 at hc3
      have hown4 := hown3.stored RL.out ni cx
      have hB3 : Below w.heap.size w w3 := hB2.trans (hB23.mono (by omega))
      clear hb3 hB23
      go_wp2_with fail
      go_ret2
      exact .inl ⟨_, HT.out, _, _, _, rfl, hown4.rebase (by omega), hB3.setCell (by show w.heap.size ≤ g; omega) _⟩
  · have HT := hid (show tidyO t p ws = none by rcases hno with h | h; cases h; rw [tidyO, h]; rfl)
    clear hno hs
    go_wp2_with fail
    go_ret2
    exact .inr ⟨HT.out, rfl, bel⟩
end Go.Proofs.Ytkkhoiahjmfibaa
