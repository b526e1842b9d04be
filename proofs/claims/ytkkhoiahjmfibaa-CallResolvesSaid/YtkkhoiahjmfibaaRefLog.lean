/- The walk of the reference's Log. -/
import Derived.Test.YtkkhoiahjmfibaaLog2
namespace Go.Proofs.Ytkkhoiahjmfibaa
open Go.RowKit
set_option linter.unusedVariables false
set_option linter.unusedSimpArgs false

theorem OwnP.built0 (w : World) (base : Nat) (hb : base ≤ w.heap.size) : OwnP (w.alloc (.cells #[] 75)) base (.slice (some ⟨w.heap.size, 0, none⟩) 0 0) [] := World.ownsRow_lit w #[] 0 hb (by simp [maxLen]) rfl

set_option maxHeartbeats 1600000 in
theorem refLogNo (t p s u : Int) (w : World) (a : Option Addr) (len cap : Nat) (ws : List Nat) (h : ¬ (okW t p s len ∧ 0 ≤ u ∧ u ≤ t)) :
    Calls Try.prog 13 #[.agg #[.int .i64 t, .int .i64 p, .int .i64 s], .slice a len cap, .int .i64 u] w (LogPost w t p u ws false) := by
  by_cases ho : okW t p s len
  · by_cases h0 : 0 ≤ u
    · have h1 : t < u := by
        by_cases h1 : u ≤ t
        · exact absurd ⟨ho, h0, h1⟩ h
        · omega
      have HO := hid ho
      clear h ho
      go_enter Try.func13, Try.ntmps13
      go_wp2_with fail
      refine (refRight27Yes t p s _ a len cap HO.out).mono ?_
      rintro e w1 ⟨rfl, hb1⟩
      obtain ⟨hc1, hf1, hz1⟩ := after hb1
      simp at hz1
      have z1 : w.heap.size < w1.heap.size := by omega
      have z1' : w.heap.size + 1 < w1.heap.size := by omega
      have hB1 : Below w.heap.size w w1 := bel
      have c1_0 : w1.cell? ⟨w.heap.size, 0, none⟩ = some (.int .i64 t) := by rw [hc1 _ _ (by simp; omega)]; exact cellOld (by simp) (cellNew rfl rfl)
      have c1_1 : w1.cell? ⟨w.heap.size, 1, none⟩ = some (.int .i64 p) := by rw [hc1 _ _ (by simp; omega)]; exact cellOld (by simp) (cellNew rfl rfl)
      have c1_2 : w1.cell? ⟨w.heap.size, 2, none⟩ = some (.int .i64 s) := by rw [hc1 _ _ (by simp; omega)]; exact cellOld (by simp) (cellNew rfl rfl)
      have k1_0 : w1.cell? ⟨w.heap.size + 1, 0, none⟩ = some (.int .u32 0) := by rw [hc1 _ _ (by simp)]; exact cellNew (by simp) rfl
      have k1_1 : w1.cell? ⟨w.heap.size + 1, 1, none⟩ = some (.bool false) := by rw [hc1 _ _ (by simp)]; exact cellNew (by simp) rfl
      have k1_2 : w1.cell? ⟨w.heap.size + 1, 2, none⟩ = some (.int .i64 0) := by rw [hc1 _ _ (by simp)]; exact cellNew (by simp) rfl
      have m1 : ∀ o, w1.frozen? ⟨w.heap.size + 1, o, none⟩ = false := by intro o; rw [hf1 _ _ (by simp)]; simp
      clear hc1 hf1
      go_wp2_with fail
      exact bodyPost_ret (v := .tuple #[.agg #[.int .u32 0, .bool false, .int .i64 0], .slice none 0 0, .bool false]) (by simp [results, Try.results13, go_sem, k1_0, k1_1, k1_2, z1, z1']) rfl (.inr ⟨rfl, rfl, bel⟩)
    · have h1 : u < 0 := by omega
      have HO := hid ho
      clear h ho h0
      go_enter Try.func13, Try.ntmps13
      go_wp2_with fail
      refine (refRight27Yes t p s _ a len cap HO.out).mono ?_
      rintro e w1 ⟨rfl, hb1⟩
      obtain ⟨hc1, hf1, hz1⟩ := after hb1
      simp at hz1
      have z1 : w.heap.size < w1.heap.size := by omega
      have z1' : w.heap.size + 1 < w1.heap.size := by omega
      have hB1 : Below w.heap.size w w1 := bel
      have c1_0 : w1.cell? ⟨w.heap.size, 0, none⟩ = some (.int .i64 t) := by rw [hc1 _ _ (by simp; omega)]; exact cellOld (by simp) (cellNew rfl rfl)
      have c1_1 : w1.cell? ⟨w.heap.size, 1, none⟩ = some (.int .i64 p) := by rw [hc1 _ _ (by simp; omega)]; exact cellOld (by simp) (cellNew rfl rfl)
      have c1_2 : w1.cell? ⟨w.heap.size, 2, none⟩ = some (.int .i64 s) := by rw [hc1 _ _ (by simp; omega)]; exact cellOld (by simp) (cellNew rfl rfl)
      have k1_0 : w1.cell? ⟨w.heap.size + 1, 0, none⟩ = some (.int .u32 0) := by rw [hc1 _ _ (by simp)]; exact cellNew (by simp) rfl
      have k1_1 : w1.cell? ⟨w.heap.size + 1, 1, none⟩ = some (.bool false) := by rw [hc1 _ _ (by simp)]; exact cellNew (by simp) rfl
      have k1_2 : w1.cell? ⟨w.heap.size + 1, 2, none⟩ = some (.int .i64 0) := by rw [hc1 _ _ (by simp)]; exact cellNew (by simp) rfl
      have m1 : ∀ o, w1.frozen? ⟨w.heap.size + 1, o, none⟩ = false := by intro o; rw [hf1 _ _ (by simp)]; simp
      clear hc1 hf1
      go_wp2_with fail
      exact bodyPost_ret (v := .tuple #[.agg #[.int .u32 0, .bool false, .int .i64 0], .slice none 0 0, .bool false]) (by simp [results, Try.results13, go_sem, k1_0, k1_1, k1_2, z1, z1']) rfl (.inr ⟨rfl, rfl, bel⟩)
  · have HO := hid ho
    clear h ho
    go_enter Try.func13, Try.ntmps13
    go_wp2_with fail
    refine (refRight27No t p s _ a len cap HO.out).mono ?_
    rintro e w1 ⟨rfl, hb1⟩
    obtain ⟨hc1, hf1, hz1⟩ := after hb1
    simp at hz1
    have z1 : w.heap.size < w1.heap.size := by omega
    have z1' : w.heap.size + 1 < w1.heap.size := by omega
    have hB1 : Below w.heap.size w w1 := bel
    have c1_0 : w1.cell? ⟨w.heap.size, 0, none⟩ = some (.int .i64 t) := by rw [hc1 _ _ (by simp; omega)]; exact cellOld (by simp) (cellNew rfl rfl)
    have c1_1 : w1.cell? ⟨w.heap.size, 1, none⟩ = some (.int .i64 p) := by rw [hc1 _ _ (by simp; omega)]; exact cellOld (by simp) (cellNew rfl rfl)
    have c1_2 : w1.cell? ⟨w.heap.size, 2, none⟩ = some (.int .i64 s) := by rw [hc1 _ _ (by simp; omega)]; exact cellOld (by simp) (cellNew rfl rfl)
    have k1_0 : w1.cell? ⟨w.heap.size + 1, 0, none⟩ = some (.int .u32 0) := by rw [hc1 _ _ (by simp)]; exact cellNew (by simp) rfl
    have k1_1 : w1.cell? ⟨w.heap.size + 1, 1, none⟩ = some (.bool false) := by rw [hc1 _ _ (by simp)]; exact cellNew (by simp) rfl
    have k1_2 : w1.cell? ⟨w.heap.size + 1, 2, none⟩ = some (.int .i64 0) := by rw [hc1 _ _ (by simp)]; exact cellNew (by simp) rfl
    have m1 : ∀ o, w1.frozen? ⟨w.heap.size + 1, o, none⟩ = false := by intro o; rw [hf1 _ _ (by simp)]; simp
    clear hc1 hf1
    go_wp2_with fail
    exact bodyPost_ret (v := .tuple #[.agg #[.int .u32 0, .bool false, .int .i64 0], .slice none 0 0, .bool false]) (by simp [results, Try.results13, go_sem, k1_0, k1_1, k1_2, z1, z1']) rfl (.inr ⟨rfl, rfl, bel⟩)

set_option maxRecDepth 100000 in
set_option maxHeartbeats 3200000 in
theorem refLogBig (t p s u : Int) (w : World) (a : Option Addr) (len cap : Nat) (ws : List Nat) (hs : Seen .u64 w a len cap ws) (hf : Fit 18446744073709551616 ws) (ho : okW t p s len) (h0 : 0 ≤ u) (h1 : u ≤ t) (hn : ¬ cntX (noteX t p u ws) ≤ 96) :
    Calls Try.prog 13 #[.agg #[.int .i64 t, .int .i64 p, .int .i64 s], .slice a len cap, .int .i64 u] w (LogPost w t p u ws true) := by
  have hlen := hs.1
  have hlc := hs.2.1
  have hlm := hs.2.2.1
  obtain ⟨i1, i2, i3, i4⟩ := noteI_bd ho h0 h1
  have hbd := (okW_words ho).2
  have NW := hid (show noteW t p s u = ((noteI t p u : Nat) : Int) by rw [noteW, if_pos ⟨ho.1, h0, h1⟩, i1])
  have HO := hid ho
  obtain ⟨_, _, _, h4⟩ := id hs
  rcases h4 with ⟨h4, _⟩ | ⟨b0, off, rfl, hc⟩
  · omega
  have cx : w.cell? ⟨b0, off + noteI t p u, none⟩ = some (.int .u64 ((noteX t p u ws : Nat) : Int)) := hc _ i3
  have hx : noteX t p u ws < 18446744073709551616 := hf.getD (by omega) _
  have hb0 := World.block_lt_of_cell? w _ cx
  have HL := hid hlen
  have G := hid (show (true && logB t p u ws) = false by rw [logB]; simp [hn])
  have O := hid (ofNote_no (x := (noteX t p u ws : Nat)) (by unfold cntX at hn; omega))
  clear hn ho hc i1 i2 hlen
  generalize hX : noteX t p u ws = x at cx hx O
  have XX := hid hX
  clear hX
  generalize noteI t p u = ni at NW i3 cx
  go_enter Try.func13, Try.ntmps13
  go_wp2_with fail
  refine (refRight27Yes t p s _ _ len cap HO.out).mono ?_
  rintro e w1 ⟨rfl, hb1⟩
  obtain ⟨hc1, hf1, hz1⟩ := after hb1
  simp at hz1
  have z1 : w.heap.size < w1.heap.size := by omega
  have z1' : w.heap.size + 1 < w1.heap.size := by omega
  have hB1 : Below w.heap.size w w1 := bel
  have c1_0 : w1.cell? ⟨w.heap.size, 0, none⟩ = some (.int .i64 t) := by rw [hc1 _ _ (by simp; omega)]; exact cellOld (by simp) (cellNew rfl rfl)
  have c1_1 : w1.cell? ⟨w.heap.size, 1, none⟩ = some (.int .i64 p) := by rw [hc1 _ _ (by simp; omega)]; exact cellOld (by simp) (cellNew rfl rfl)
  have c1_2 : w1.cell? ⟨w.heap.size, 2, none⟩ = some (.int .i64 s) := by rw [hc1 _ _ (by simp; omega)]; exact cellOld (by simp) (cellNew rfl rfl)
  have k1_0 : w1.cell? ⟨w.heap.size + 1, 0, none⟩ = some (.int .u32 0) := by rw [hc1 _ _ (by simp)]; exact cellNew (by simp) rfl
  have k1_1 : w1.cell? ⟨w.heap.size + 1, 1, none⟩ = some (.bool false) := by rw [hc1 _ _ (by simp)]; exact cellNew (by simp) rfl
  have k1_2 : w1.cell? ⟨w.heap.size + 1, 2, none⟩ = some (.int .i64 0) := by rw [hc1 _ _ (by simp)]; exact cellNew (by simp) rfl
  have m1 : ∀ o, w1.frozen? ⟨w.heap.size + 1, o, none⟩ = false := by intro o; rw [hf1 _ _ (by simp)]; simp
  clear hc1 hf1
  go_wp2_with fail
  refine (refNoteW t p s u _).mono ?_
  rw [NW.out]
  rintro e w2 ⟨rfl, hb2⟩
  obtain ⟨hc2, hf2, hz2⟩ := after hb2
  have z2 : w.heap.size < w2.heap.size := by omega
  have z2' : w.heap.size + 1 < w2.heap.size := by omega
  have hB2 : Below w.heap.size w w2 := hB1.trans (hb2.mono (by (try simp); omega))
  have c2_0 : w2.cell? ⟨w.heap.size, 0, none⟩ = some (.int .i64 t) := (hc2 _ _ (by (try simp); omega)).trans (c1_0)
  have c2_1 : w2.cell? ⟨w.heap.size, 1, none⟩ = some (.int .i64 p) := (hc2 _ _ (by (try simp); omega)).trans (c1_1)
  have c2_2 : w2.cell? ⟨w.heap.size, 2, none⟩ = some (.int .i64 s) := (hc2 _ _ (by (try simp); omega)).trans (c1_2)
  have k2_0 : w2.cell? ⟨w.heap.size + 1, 0, none⟩ = some (.int .u32 0) := (hc2 _ _ (by (try simp); omega)).trans (k1_0)
  have k2_1 : w2.cell? ⟨w.heap.size + 1, 1, none⟩ = some (.bool false) := (hc2 _ _ (by (try simp); omega)).trans (k1_1)
  have k2_2 : w2.cell? ⟨w.heap.size + 1, 2, none⟩ = some (.int .i64 0) := (hc2 _ _ (by (try simp); omega)).trans (k1_2)
  have m2 : ∀ o, w2.frozen? ⟨w.heap.size + 1, o, none⟩ = false := fun o => (hf2 _ _ (by (try simp); omega)).trans (m1 o)
  clear hc2 hf2
  have cx2 : w2.cell? ⟨b0, off + ni, none⟩ = some (.int .u64 ((x : Nat) : Int)) := (hB2.cell (p := ⟨b0, off + ni, none⟩) hb0).trans cx
  go_wp2_with fail
  refine (refOfNote x _ (by omega) (by omega)).mono ?_
  rw [O.out]
  rintro e w3 ⟨rfl, hb3⟩
  obtain ⟨hc3, hf3, hz3⟩ := after hb3
  have z3 : w.heap.size < w3.heap.size := by omega
  have z3' : w.heap.size + 1 < w3.heap.size := by omega
  have hB3 : Below w.heap.size w w3 := hB2.trans (hb3.mono (by (try simp); omega))
  have c3_0 : w3.cell? ⟨w.heap.size, 0, none⟩ = some (.int .i64 t) := (hc3 _ _ (by (try simp); omega)).trans (c2_0)
  have c3_1 : w3.cell? ⟨w.heap.size, 1, none⟩ = some (.int .i64 p) := (hc3 _ _ (by (try simp); omega)).trans (c2_1)
  have c3_2 : w3.cell? ⟨w.heap.size, 2, none⟩ = some (.int .i64 s) := (hc3 _ _ (by (try simp); omega)).trans (c2_2)
  have k3_0 : w3.cell? ⟨w.heap.size + 1, 0, none⟩ = some (.int .u32 0) := (hc3 _ _ (by (try simp); omega)).trans (k2_0)
  have k3_1 : w3.cell? ⟨w.heap.size + 1, 1, none⟩ = some (.bool false) := (hc3 _ _ (by (try simp); omega)).trans (k2_1)
  have k3_2 : w3.cell? ⟨w.heap.size + 1, 2, none⟩ = some (.int .i64 0) := (hc3 _ _ (by (try simp); omega)).trans (k2_2)
  have m3 : ∀ o, w3.frozen? ⟨w.heap.size + 1, o, none⟩ = false := fun o => (hf3 _ _ (by (try simp); omega)).trans (m2 o)
  clear hc3 hf3
  go_wp2_with fail
  exact bodyPost_ret (v := .tuple #[.agg #[.int .u32 0, .bool false, .int .i64 0], .slice none 0 0, .bool false]) (by simp [results, Try.results13, go_sem, k3_0, k3_1, k3_2, z3, z3']) rfl (.inr ⟨G.out, rfl, bel⟩)

set_option maxRecDepth 100000 in
set_option maxHeartbeats 6400000 in
theorem refLogRows (t p s u : Int) (w : World) (a : Option Addr) (len cap : Nat) (ws : List Nat) (hs : Seen .u64 w a len cap ws) (hf : Fit 18446744073709551616 ws) (ho : okW t p s len) (h0 : 0 ≤ u) (h1 : u ≤ t) (hn : cntX (noteX t p u ws) ≤ 96) :
    Calls Try.prog 13 #[.agg #[.int .i64 t, .int .i64 p, .int .i64 s], .slice a len cap, .int .i64 u] w (LogPost w t p u ws true) := by
  have hlen := hs.1
  have hlc := hs.2.1
  have hlm := hs.2.2.1
  obtain ⟨i1, i2, i3, i4⟩ := noteI_bd ho h0 h1
  have hbd := (okW_words ho).2
  have NW := hid (show noteW t p s u = ((noteI t p u : Nat) : Int) by rw [noteW, if_pos ⟨ho.1, h0, h1⟩, i1])
  have HO := hid ho
  obtain ⟨_, _, _, h4⟩ := id hs
  rcases h4 with ⟨h4, _⟩ | ⟨b0, off, rfl, hc⟩
  · omega
  have cx : w.cell? ⟨b0, off + noteI t p u, none⟩ = some (.int .u64 ((noteX t p u ws : Nat) : Int)) := hc _ i3
  have hx : noteX t p u ws < 18446744073709551616 := hf.getD (by omega) _
  have hb0 := World.block_lt_of_cell? w _ cx
  have HL := hid hlen
  have HR := hid ho.1
  have LW := hidAll fun (j : Nat) (hj : j < 96) => (show logW t p s u (j : Int) = ((logI t p u + j : Nat) : Int) by rw [logW, if_pos ⟨ho.1, ⟨h0, h1⟩, by omega, by omega⟩]; omega)
  have G1 := hid (show entsB t p (logXs t p u ws) = true → (true && logB t p u ws) = true from fun h => by rw [logB, h]; simp [hn])
  have G0 := hid (show entsB t p (logXs t p u ws) = false → (true && logB t p u ws) = false from fun h => by rw [logB, h]; simp)
  have C := hid (show cellsC t p s = cellsN t p by rw [cellsC, ho.1]; rfl)
  obtain ⟨⟨h1', h2⟩, ⟨h3, h4⟩, h5, h6⟩ := rightC_of ho.1
  have cb : 58 ≤ cellsN t p ∧ cellsN t p ≤ 6238 := by unfold cellsN; omega
  have PC := hidAll fun w => by have h := refCells t p s w; rw [C.out] at h; exact h
  have L := hid (show (logXs t p u ws).length = cntX (noteX t p u ws) by rw [logXs, List.length_take, List.length_drop]; omega)
  have HG := hidAll fun (k : Nat) (hk : k < cntX (noteX t p u ws)) => (show (logXs t p u ws)[k]?.getD 0 = ws[logI t p u + k]?.getD 0 by rw [logXs, List.getElem?_take, if_pos hk, List.getElem?_drop])
  have HC := hidAll fun (j : Nat) (hj : j < len) => hc j hj
  have HF := hid hf
  have HT := hidAll fun k => @entsB_take t p (logXs t p u ws) k
  have HN := hidAll fun k => @entsB_no t p (logXs t p u ws) k
  have O := hid (show ofNoteV (noteX t p u ws : Nat) = .tuple #[.agg #[.int .u32 ((noteX t p u ws : Int) / 4294967296), .bool ((noteX t p u ws : Int) / 2147483648 % 2 == 1), .int .i64 ((cntX (noteX t p u ws) : Nat) : Int)], .bool true] by rw [ofNoteV, if_pos (by unfold cntX at hn; omega), cntX_cast])
  have EC := hid (show ((cntX (noteX t p u ws) : Nat) : Int) = (noteX t p u ws : Int) % 2147483648 from cntX_cast _)
  generalize hob : ((noteX t p u ws : Int) / 2147483648 % 2 == 1) = ob at O
  have OB := hid hob
  generalize hst : (noteX t p u ws : Int) / 4294967296 = st at O
  have ST := hid hst
  clear hob hst ho hc i1 i2 hlen hs hf C h1' h2 h3 h4 h5 h6
  generalize hX : noteX t p u ws = x at cx hx O hn EC L HG
  have XX := hid hX
  clear hX
  generalize noteI t p u = ni at NW i3 cx
  generalize logI t p u = li at LW i4 HG
  generalize cntX x = c at O hn EC L HG
  generalize cellsN t p = N at cb PC HT HN
  have hq := extCell
  go_enter Try.func13, Try.ntmps13
  go_wp2_with fail
  refine (refRight27Yes t p s _ _ len cap HO.out).mono ?_
  rintro e w1 ⟨rfl, hb1⟩
  obtain ⟨hc1, hf1, hz1⟩ := after hb1
  simp at hz1
  have z1 : w.heap.size < w1.heap.size := by omega
  have z1' : w.heap.size + 1 < w1.heap.size := by omega
  have hB1 : Below w.heap.size w w1 := bel
  have c1_0 : w1.cell? ⟨w.heap.size, 0, none⟩ = some (.int .i64 t) := by rw [hc1 _ _ (by simp; omega)]; exact cellOld (by simp) (cellNew rfl rfl)
  have c1_1 : w1.cell? ⟨w.heap.size, 1, none⟩ = some (.int .i64 p) := by rw [hc1 _ _ (by simp; omega)]; exact cellOld (by simp) (cellNew rfl rfl)
  have c1_2 : w1.cell? ⟨w.heap.size, 2, none⟩ = some (.int .i64 s) := by rw [hc1 _ _ (by simp; omega)]; exact cellOld (by simp) (cellNew rfl rfl)
  have k1_0 : w1.cell? ⟨w.heap.size + 1, 0, none⟩ = some (.int .u32 0) := by rw [hc1 _ _ (by simp)]; exact cellNew (by simp) rfl
  have k1_1 : w1.cell? ⟨w.heap.size + 1, 1, none⟩ = some (.bool false) := by rw [hc1 _ _ (by simp)]; exact cellNew (by simp) rfl
  have k1_2 : w1.cell? ⟨w.heap.size + 1, 2, none⟩ = some (.int .i64 0) := by rw [hc1 _ _ (by simp)]; exact cellNew (by simp) rfl
  have m1 : ∀ o, w1.frozen? ⟨w.heap.size + 1, o, none⟩ = false := by intro o; rw [hf1 _ _ (by simp)]; simp
  clear hc1 hf1
  go_wp2_with fail
  refine (refNoteW t p s u _).mono ?_
  rw [NW.out]
  rintro e w2 ⟨rfl, hb2⟩
  obtain ⟨hc2, hf2, hz2⟩ := after hb2
  have z2 : w.heap.size < w2.heap.size := by omega
  have z2' : w.heap.size + 1 < w2.heap.size := by omega
  have hB2 : Below w.heap.size w w2 := hB1.trans (hb2.mono (by (try simp); omega))
  have c2_0 : w2.cell? ⟨w.heap.size, 0, none⟩ = some (.int .i64 t) := (hc2 _ _ (by (try simp); omega)).trans (c1_0)
  have c2_1 : w2.cell? ⟨w.heap.size, 1, none⟩ = some (.int .i64 p) := (hc2 _ _ (by (try simp); omega)).trans (c1_1)
  have c2_2 : w2.cell? ⟨w.heap.size, 2, none⟩ = some (.int .i64 s) := (hc2 _ _ (by (try simp); omega)).trans (c1_2)
  have k2_0 : w2.cell? ⟨w.heap.size + 1, 0, none⟩ = some (.int .u32 0) := (hc2 _ _ (by (try simp); omega)).trans (k1_0)
  have k2_1 : w2.cell? ⟨w.heap.size + 1, 1, none⟩ = some (.bool false) := (hc2 _ _ (by (try simp); omega)).trans (k1_1)
  have k2_2 : w2.cell? ⟨w.heap.size + 1, 2, none⟩ = some (.int .i64 0) := (hc2 _ _ (by (try simp); omega)).trans (k1_2)
  have m2 : ∀ o, w2.frozen? ⟨w.heap.size + 1, o, none⟩ = false := fun o => (hf2 _ _ (by (try simp); omega)).trans (m1 o)
  clear hc2 hf2
  have cx2 : w2.cell? ⟨b0, off + ni, none⟩ = some (.int .u64 ((x : Nat) : Int)) := (hB2.cell (p := ⟨b0, off + ni, none⟩) hb0).trans cx
  go_wp2_with fail
  refine (refOfNote x _ (by omega) (by omega)).mono ?_
  rw [O.out]
  rintro e w3 ⟨rfl, hb3⟩
  obtain ⟨hc3, hf3, hz3⟩ := after hb3
  have z3 : w.heap.size < w3.heap.size := by omega
  have z3' : w.heap.size + 1 < w3.heap.size := by omega
  have hB3 : Below w.heap.size w w3 := hB2.trans (hb3.mono (by (try simp); omega))
  have c3_0 : w3.cell? ⟨w.heap.size, 0, none⟩ = some (.int .i64 t) := (hc3 _ _ (by (try simp); omega)).trans (c2_0)
  have c3_1 : w3.cell? ⟨w.heap.size, 1, none⟩ = some (.int .i64 p) := (hc3 _ _ (by (try simp); omega)).trans (c2_1)
  have c3_2 : w3.cell? ⟨w.heap.size, 2, none⟩ = some (.int .i64 s) := (hc3 _ _ (by (try simp); omega)).trans (c2_2)
  have k3_0 : w3.cell? ⟨w.heap.size + 1, 0, none⟩ = some (.int .u32 0) := (hc3 _ _ (by (try simp); omega)).trans (k2_0)
  have k3_1 : w3.cell? ⟨w.heap.size + 1, 1, none⟩ = some (.bool false) := (hc3 _ _ (by (try simp); omega)).trans (k2_1)
  have k3_2 : w3.cell? ⟨w.heap.size + 1, 2, none⟩ = some (.int .i64 0) := (hc3 _ _ (by (try simp); omega)).trans (k2_2)
  have m3 : ∀ o, w3.frozen? ⟨w.heap.size + 1, o, none⟩ = false := fun o => (hf3 _ _ (by (try simp); omega)).trans (m2 o)
  clear hc3 hf3
  have hBn : Below (w3.heap.size + 1) (w3.alloc (.cells #[.int .u32 st, .bool ob, .int .i64 (c : Int)] 32)) (w3.alloc (.cells #[.int .u32 st, .bool ob, .int .i64 (c : Int)] 32)) := Below.refl _ _
  have hO0 : OwnP ((w3.alloc (.cells #[.int .u32 st, .bool ob, .int .i64 (c : Int)] 32)).alloc (.cells #[] 75)) (w3.heap.size + 1) (.slice (some ⟨w3.heap.size + 1, 0, none⟩) 0 0) [] := by have h := OwnP.built0 (w3.alloc (.cells #[.int .u32 st, .bool ob, .int .i64 (c : Int)] 32)) (w3.heap.size + 1) (by simp); simpa using h
  go_wp2_with fail
  go_loopw [12, 11] (fun i v wr => ∃ k : Nat, k ≤ c ∧ i = .int .i64 k ∧ RowKit.Hid (entsB t p ((logXs t p u ws).take k) = true) ∧ OwnP wr (w3.heap.size + 1) v ((logXs t p u ws).take k) ∧ Below (w3.heap.size + 1) (w3.alloc (.cells #[.int .u32 st, .bool ob, .int .i64 (c : Int)] 32)) wr) (fun i _ _ => c - (intOf i).toNat)
  case atStart => exact ⟨0, by omega, rfl, hid rfl, hO0, hBn.alloc (by first | omega | simp) _⟩
  case round =>
    obtain ⟨k, hk, rfl, hE, ho, hBR⟩ := hrel
    obtain ⟨a', cap', hv⟩ := ho.form
    rw [show ((logXs t p u ws).take k).length = k by rw [List.length_take, L.out]; omega] at hv
    subst hv
    have hBw : Below w.heap.size w wr := (hB3.alloc (by omega) _).trans (hBR.mono (by omega))
    have qR_0 : wr.cell? ⟨w.heap.size, 0, none⟩ = some (.int .i64 t) := (hBR.cell (p := ⟨w.heap.size, 0, none⟩) (by show w.heap.size < w3.heap.size + 1; omega)).trans (cellOld (by omega) c3_0)
    have qR_1 : wr.cell? ⟨w.heap.size, 1, none⟩ = some (.int .i64 p) := (hBR.cell (p := ⟨w.heap.size, 1, none⟩) (by show w.heap.size < w3.heap.size + 1; omega)).trans (cellOld (by omega) c3_1)
    have qR_2 : wr.cell? ⟨w.heap.size, 2, none⟩ = some (.int .i64 s) := (hBR.cell (p := ⟨w.heap.size, 2, none⟩) (by show w.heap.size < w3.heap.size + 1; omega)).trans (cellOld (by omega) c3_2)
    have kR_0 : wr.cell? ⟨w.heap.size + 1, 0, none⟩ = some (.int .u32 0) := (hBR.cell (p := ⟨w.heap.size + 1, 0, none⟩) (by show w.heap.size + 1 < w3.heap.size + 1; omega)).trans (cellOld (by omega) k3_0)
    have kR_1 : wr.cell? ⟨w.heap.size + 1, 1, none⟩ = some (.bool false) := (hBR.cell (p := ⟨w.heap.size + 1, 1, none⟩) (by show w.heap.size + 1 < w3.heap.size + 1; omega)).trans (cellOld (by omega) k3_1)
    have kR_2 : wr.cell? ⟨w.heap.size + 1, 2, none⟩ = some (.int .i64 0) := (hBR.cell (p := ⟨w.heap.size + 1, 2, none⟩) (by show w.heap.size + 1 < w3.heap.size + 1; omega)).trans (cellOld (by omega) k3_2)
    have nR_0 : wr.cell? ⟨w3.heap.size, 0, none⟩ = some (.int .u32 st) := (hBR.cell (p := ⟨w3.heap.size, 0, none⟩) (Nat.lt_succ_self _)).trans (cellNew rfl rfl)
    have nR_1 : wr.cell? ⟨w3.heap.size, 1, none⟩ = some (.bool ob) := (hBR.cell (p := ⟨w3.heap.size, 1, none⟩) (Nat.lt_succ_self _)).trans (cellNew rfl rfl)
    have nR_2 : wr.cell? ⟨w3.heap.size, 2, none⟩ = some (.int .i64 (c : Int)) := (hBR.cell (p := ⟨w3.heap.size, 2, none⟩) (Nat.lt_succ_self _)).trans (cellNew rfl rfl)
    have zR : w.heap.size < wr.heap.size := by have := hBR.size; simp at this; omega
    have zR' : w.heap.size + 1 < wr.heap.size := by have := hBR.size; simp at this; omega
    have mR : ∀ o, wr.frozen? ⟨w.heap.size + 1, o, none⟩ = false := fun o => (hBR.frozen (p := ⟨w.heap.size + 1, o, none⟩) (by show w.heap.size + 1 < w3.heap.size + 1; omega)).trans ((frozen?_alloc_cells _ _ _ _).trans (m3 o))
    clear hBn
    by_cases hlt : k < c
    · have hcy := HC.out (li + k) (by omega)
      rw [← HG.out k hlt] at hcy
      have cy : w.cell? ⟨b0, off + (li + k), none⟩ = some (.int .u64 (((logXs t p u ws)[k]?.getD 0 : Nat) : Int)) := hcy
      have hy : (logXs t p u ws)[k]?.getD 0 < 18446744073709551616 := by rw [HG.out k hlt]; exact HF.out.getD (by omega) _
      have ht := hid (HT.out k (by rw [L.out]; exact hlt))
      have hN := hid (HN.out k (by rw [L.out]; exact hlt))
      have HX := hid (show (logXs t p u ws).take (k + 1) = (logXs t p u ws).take k ++ [(logXs t p u ws)[k]?.getD 0] by rw [List.take_succ_eq_append_getElem (by rw [L.out]; exact hlt), List.getElem?_eq_getElem (by rw [L.out]; exact hlt)]; rfl)
      have lw := hid (LW.out k (by omega))
      clear hcy
      generalize (logXs t p u ws)[k]?.getD 0 = y at cy hy ht hN HX
      by_cases hbig : (y : Int) / 4294967296 ≤ 65535
      · have O2 := hid (show ofEntryV y = .tuple #[.agg #[.int .i64 ((y : Int) / 4294967296), .int .u32 ((y : Int) % 4294967296)], .bool true] by rw [ofEntryV, if_pos hbig])
        by_cases hin : (y : Int) / 4294967296 < N
        · have hE2 := hid (show entsB t p ((logXs t p u ws).take (k + 1)) = true by rw [ht.out, hE.out]; simpa using hin)
          go_wp2_with fail
          refine (refLogW t p s u k _).mono ?_
          rw [lw.out]
          rintro e wA ⟨rfl, hbA⟩
          have hBA : Below (w3.heap.size + 1) (w3.alloc (.cells #[.int .u32 st, .bool ob, .int .i64 (c : Int)] 32)) wA := hBR.trans (hbA.mono (by have := hBR.size; (try simp at this); omega))
          have hBwA : Below w.heap.size w wA := hBw.trans (hbA.mono (by omega))
          have hoA := ho.kept hbA (Nat.le_refl _)
          have cxA : wA.cell? ⟨b0, off + (li + k), none⟩ = some (.int .u64 ((y : Nat) : Int)) := (hBwA.cell (p := ⟨b0, off + (li + k), none⟩) hb0).trans cy
          clear hbA ho
          have qA_0 : wA.cell? ⟨w.heap.size, 0, none⟩ = some (.int .i64 t) := (hBA.cell (p := ⟨w.heap.size, 0, none⟩) (by show w.heap.size < w3.heap.size + 1; omega)).trans (cellOld (by omega) c3_0)
          have qA_1 : wA.cell? ⟨w.heap.size, 1, none⟩ = some (.int .i64 p) := (hBA.cell (p := ⟨w.heap.size, 1, none⟩) (by show w.heap.size < w3.heap.size + 1; omega)).trans (cellOld (by omega) c3_1)
          have qA_2 : wA.cell? ⟨w.heap.size, 2, none⟩ = some (.int .i64 s) := (hBA.cell (p := ⟨w.heap.size, 2, none⟩) (by show w.heap.size < w3.heap.size + 1; omega)).trans (cellOld (by omega) c3_2)
          have kA_0 : wA.cell? ⟨w.heap.size + 1, 0, none⟩ = some (.int .u32 0) := (hBA.cell (p := ⟨w.heap.size + 1, 0, none⟩) (by show w.heap.size + 1 < w3.heap.size + 1; omega)).trans (cellOld (by omega) k3_0)
          have kA_1 : wA.cell? ⟨w.heap.size + 1, 1, none⟩ = some (.bool false) := (hBA.cell (p := ⟨w.heap.size + 1, 1, none⟩) (by show w.heap.size + 1 < w3.heap.size + 1; omega)).trans (cellOld (by omega) k3_1)
          have kA_2 : wA.cell? ⟨w.heap.size + 1, 2, none⟩ = some (.int .i64 0) := (hBA.cell (p := ⟨w.heap.size + 1, 2, none⟩) (by show w.heap.size + 1 < w3.heap.size + 1; omega)).trans (cellOld (by omega) k3_2)
          have nA_0 : wA.cell? ⟨w3.heap.size, 0, none⟩ = some (.int .u32 st) := (hBA.cell (p := ⟨w3.heap.size, 0, none⟩) (Nat.lt_succ_self _)).trans (cellNew rfl rfl)
          have nA_1 : wA.cell? ⟨w3.heap.size, 1, none⟩ = some (.bool ob) := (hBA.cell (p := ⟨w3.heap.size, 1, none⟩) (Nat.lt_succ_self _)).trans (cellNew rfl rfl)
          have nA_2 : wA.cell? ⟨w3.heap.size, 2, none⟩ = some (.int .i64 (c : Int)) := (hBA.cell (p := ⟨w3.heap.size, 2, none⟩) (Nat.lt_succ_self _)).trans (cellNew rfl rfl)
          have zA : w.heap.size < wA.heap.size := by have := hBA.size; simp at this; omega
          have zA' : w.heap.size + 1 < wA.heap.size := by have := hBA.size; simp at this; omega
          have mA : ∀ o, wA.frozen? ⟨w.heap.size + 1, o, none⟩ = false := fun o => (hBA.frozen (p := ⟨w.heap.size + 1, o, none⟩) (by show w.heap.size + 1 < w3.heap.size + 1; omega)).trans ((frozen?_alloc_cells _ _ _ _).trans (m3 o))
          go_wp2_with fail
          refine (refOfEntry y _ (by omega) (by omega)).mono ?_
          rw [O2.out]
          rintro e wC ⟨rfl, hbC⟩
          have hBC : Below (w3.heap.size + 1) (w3.alloc (.cells #[.int .u32 st, .bool ob, .int .i64 (c : Int)] 32)) wC := hBA.trans (hbC.mono (by have := hBA.size; (try simp at this); omega))
          have hBwC : Below w.heap.size w wC := hBwA.trans (hbC.mono (by omega))
          have hoC := hoA.kept hbC (Nat.le_refl _)
          clear hbC hoA
          have qC_0 : wC.cell? ⟨w.heap.size, 0, none⟩ = some (.int .i64 t) := (hBC.cell (p := ⟨w.heap.size, 0, none⟩) (by show w.heap.size < w3.heap.size + 1; omega)).trans (cellOld (by omega) c3_0)
          have qC_1 : wC.cell? ⟨w.heap.size, 1, none⟩ = some (.int .i64 p) := (hBC.cell (p := ⟨w.heap.size, 1, none⟩) (by show w.heap.size < w3.heap.size + 1; omega)).trans (cellOld (by omega) c3_1)
          have qC_2 : wC.cell? ⟨w.heap.size, 2, none⟩ = some (.int .i64 s) := (hBC.cell (p := ⟨w.heap.size, 2, none⟩) (by show w.heap.size < w3.heap.size + 1; omega)).trans (cellOld (by omega) c3_2)
          have kC_0 : wC.cell? ⟨w.heap.size + 1, 0, none⟩ = some (.int .u32 0) := (hBC.cell (p := ⟨w.heap.size + 1, 0, none⟩) (by show w.heap.size + 1 < w3.heap.size + 1; omega)).trans (cellOld (by omega) k3_0)
          have kC_1 : wC.cell? ⟨w.heap.size + 1, 1, none⟩ = some (.bool false) := (hBC.cell (p := ⟨w.heap.size + 1, 1, none⟩) (by show w.heap.size + 1 < w3.heap.size + 1; omega)).trans (cellOld (by omega) k3_1)
          have kC_2 : wC.cell? ⟨w.heap.size + 1, 2, none⟩ = some (.int .i64 0) := (hBC.cell (p := ⟨w.heap.size + 1, 2, none⟩) (by show w.heap.size + 1 < w3.heap.size + 1; omega)).trans (cellOld (by omega) k3_2)
          have nC_0 : wC.cell? ⟨w3.heap.size, 0, none⟩ = some (.int .u32 st) := (hBC.cell (p := ⟨w3.heap.size, 0, none⟩) (Nat.lt_succ_self _)).trans (cellNew rfl rfl)
          have nC_1 : wC.cell? ⟨w3.heap.size, 1, none⟩ = some (.bool ob) := (hBC.cell (p := ⟨w3.heap.size, 1, none⟩) (Nat.lt_succ_self _)).trans (cellNew rfl rfl)
          have nC_2 : wC.cell? ⟨w3.heap.size, 2, none⟩ = some (.int .i64 (c : Int)) := (hBC.cell (p := ⟨w3.heap.size, 2, none⟩) (Nat.lt_succ_self _)).trans (cellNew rfl rfl)
          have zC : w.heap.size < wC.heap.size := by have := hBC.size; simp at this; omega
          have zC' : w.heap.size + 1 < wC.heap.size := by have := hBC.size; simp at this; omega
          have mC : ∀ o, wC.frozen? ⟨w.heap.size + 1, o, none⟩ = false := fun o => (hBC.frozen (p := ⟨w.heap.size + 1, o, none⟩) (by show w.heap.size + 1 < w3.heap.size + 1; omega)).trans ((frozen?_alloc_cells _ _ _ _).trans (m3 o))
          go_wp2_with fail
          refine regionBelow (by kernel_rfl) (by kernel_rfl) ?_
          repeat (go_big_quiet_step ((go_at_call 20; exact quietBelow (PC.out _))))
          refine wpQuiet_nil ?_
          intro _ hw'
          obtain ⟨nq, hw''⟩ := hw'
          subst hw''
          have hn2 := nq.below
          have hz2 := hn2.size
          simp at hz2
          have zC2 : w3.heap.size + 1 ≤ wC.heap.size := by have := hBC.size; simp at this; omega
          have hBD : Below (w3.heap.size + 1) (w3.alloc (.cells #[.int .u32 st, .bool ob, .int .i64 (c : Int)] 32)) nq.to := (hBC.alloc (by omega) _).trans (hn2.mono (by simp; omega))
          have hBwD : Below w.heap.size w nq.to := (hBwC.alloc (by omega) _).trans (hn2.mono (by simp; omega))
          have qD_0 : nq.to.cell? ⟨w.heap.size, 0, none⟩ = some (.int .i64 t) := (hBD.cell (p := ⟨w.heap.size, 0, none⟩) (by show w.heap.size < w3.heap.size + 1; omega)).trans (cellOld (by omega) c3_0)
          have qD_1 : nq.to.cell? ⟨w.heap.size, 1, none⟩ = some (.int .i64 p) := (hBD.cell (p := ⟨w.heap.size, 1, none⟩) (by show w.heap.size < w3.heap.size + 1; omega)).trans (cellOld (by omega) c3_1)
          have qD_2 : nq.to.cell? ⟨w.heap.size, 2, none⟩ = some (.int .i64 s) := (hBD.cell (p := ⟨w.heap.size, 2, none⟩) (by show w.heap.size < w3.heap.size + 1; omega)).trans (cellOld (by omega) c3_2)
          have kD_0 : nq.to.cell? ⟨w.heap.size + 1, 0, none⟩ = some (.int .u32 0) := (hBD.cell (p := ⟨w.heap.size + 1, 0, none⟩) (by show w.heap.size + 1 < w3.heap.size + 1; omega)).trans (cellOld (by omega) k3_0)
          have kD_1 : nq.to.cell? ⟨w.heap.size + 1, 1, none⟩ = some (.bool false) := (hBD.cell (p := ⟨w.heap.size + 1, 1, none⟩) (by show w.heap.size + 1 < w3.heap.size + 1; omega)).trans (cellOld (by omega) k3_1)
          have kD_2 : nq.to.cell? ⟨w.heap.size + 1, 2, none⟩ = some (.int .i64 0) := (hBD.cell (p := ⟨w.heap.size + 1, 2, none⟩) (by show w.heap.size + 1 < w3.heap.size + 1; omega)).trans (cellOld (by omega) k3_2)
          have nD_0 : nq.to.cell? ⟨w3.heap.size, 0, none⟩ = some (.int .u32 st) := (hBD.cell (p := ⟨w3.heap.size, 0, none⟩) (Nat.lt_succ_self _)).trans (cellNew rfl rfl)
          have nD_1 : nq.to.cell? ⟨w3.heap.size, 1, none⟩ = some (.bool ob) := (hBD.cell (p := ⟨w3.heap.size, 1, none⟩) (Nat.lt_succ_self _)).trans (cellNew rfl rfl)
          have nD_2 : nq.to.cell? ⟨w3.heap.size, 2, none⟩ = some (.int .i64 (c : Int)) := (hBD.cell (p := ⟨w3.heap.size, 2, none⟩) (Nat.lt_succ_self _)).trans (cellNew rfl rfl)
          have zD : w.heap.size < nq.to.heap.size := by have := hBD.size; simp at this; omega
          have zD' : w.heap.size + 1 < nq.to.heap.size := by have := hBD.size; simp at this; omega
          have mD : ∀ o, nq.to.frozen? ⟨w.heap.size + 1, o, none⟩ = false := fun o => (hBD.frozen (p := ⟨w.heap.size + 1, o, none⟩) (by show w.heap.size + 1 < w3.heap.size + 1; omega)).trans ((frozen?_alloc_cells _ _ _ _).trans (m3 o))
          have hoD : OwnP nq.to (w3.heap.size + 1) (.slice a' k cap') ((logXs t p u ws).take k) := hoC.kept (B := wC.heap.size) (((Below.refl _ _).alloc (Nat.le_refl _) _).trans (hn2.mono (by simp))) (Nat.le_refl _)
          have hlk : ((logXs t p u ws).take k).length ≤ 1000 := by rw [List.length_take]; omega
          clear hoC
          go_wp2_with (at_builtin; refine wpAppendP rfl (.tmp 71) (.tmp 73) rfl _ (w3.heap.size + 1) _ ((logXs t p u ws).take k) rfl (hoD.kept ((Below.refl _ _).alloc (Nat.le_refl _) _) (Nat.le_refl _)) y nq.to.heap.size 1 rfl (cellNew rfl rfl) (cellNew rfl rfl) hlk (by simp; omega) ?_; intro v' wE hoE hgE)
          have hBE := (hBD.alloc (by omega) (.cells #[.int .i64 ((y : Int) / 4294967296), .int .u32 ((y : Int) % 4294967296)] 75)).grown hgE (by simp; omega) (by intro j hj; exact hoD.block hj)
          rw [← HX.out] at hoE
          go_roundw
          case rel => exact ⟨k + 1, by omega, by go_num, hE2, hoE, hBE⟩
          case measure => simp [intOf]; omega
        · have hE2 := hid (G0.out (hN.out (by omega)))
          go_wp2_with fail
          refine (refLogW t p s u k _).mono ?_
          rw [lw.out]
          rintro e wA ⟨rfl, hbA⟩
          have hBA : Below (w3.heap.size + 1) (w3.alloc (.cells #[.int .u32 st, .bool ob, .int .i64 (c : Int)] 32)) wA := hBR.trans (hbA.mono (by have := hBR.size; (try simp at this); omega))
          have hBwA : Below w.heap.size w wA := hBw.trans (hbA.mono (by omega))
          have hoA := ho.kept hbA (Nat.le_refl _)
          have cxA : wA.cell? ⟨b0, off + (li + k), none⟩ = some (.int .u64 ((y : Nat) : Int)) := (hBwA.cell (p := ⟨b0, off + (li + k), none⟩) hb0).trans cy
          clear hbA ho
          have qA_0 : wA.cell? ⟨w.heap.size, 0, none⟩ = some (.int .i64 t) := (hBA.cell (p := ⟨w.heap.size, 0, none⟩) (by show w.heap.size < w3.heap.size + 1; omega)).trans (cellOld (by omega) c3_0)
          have qA_1 : wA.cell? ⟨w.heap.size, 1, none⟩ = some (.int .i64 p) := (hBA.cell (p := ⟨w.heap.size, 1, none⟩) (by show w.heap.size < w3.heap.size + 1; omega)).trans (cellOld (by omega) c3_1)
          have qA_2 : wA.cell? ⟨w.heap.size, 2, none⟩ = some (.int .i64 s) := (hBA.cell (p := ⟨w.heap.size, 2, none⟩) (by show w.heap.size < w3.heap.size + 1; omega)).trans (cellOld (by omega) c3_2)
          have kA_0 : wA.cell? ⟨w.heap.size + 1, 0, none⟩ = some (.int .u32 0) := (hBA.cell (p := ⟨w.heap.size + 1, 0, none⟩) (by show w.heap.size + 1 < w3.heap.size + 1; omega)).trans (cellOld (by omega) k3_0)
          have kA_1 : wA.cell? ⟨w.heap.size + 1, 1, none⟩ = some (.bool false) := (hBA.cell (p := ⟨w.heap.size + 1, 1, none⟩) (by show w.heap.size + 1 < w3.heap.size + 1; omega)).trans (cellOld (by omega) k3_1)
          have kA_2 : wA.cell? ⟨w.heap.size + 1, 2, none⟩ = some (.int .i64 0) := (hBA.cell (p := ⟨w.heap.size + 1, 2, none⟩) (by show w.heap.size + 1 < w3.heap.size + 1; omega)).trans (cellOld (by omega) k3_2)
          have nA_0 : wA.cell? ⟨w3.heap.size, 0, none⟩ = some (.int .u32 st) := (hBA.cell (p := ⟨w3.heap.size, 0, none⟩) (Nat.lt_succ_self _)).trans (cellNew rfl rfl)
          have nA_1 : wA.cell? ⟨w3.heap.size, 1, none⟩ = some (.bool ob) := (hBA.cell (p := ⟨w3.heap.size, 1, none⟩) (Nat.lt_succ_self _)).trans (cellNew rfl rfl)
          have nA_2 : wA.cell? ⟨w3.heap.size, 2, none⟩ = some (.int .i64 (c : Int)) := (hBA.cell (p := ⟨w3.heap.size, 2, none⟩) (Nat.lt_succ_self _)).trans (cellNew rfl rfl)
          have zA : w.heap.size < wA.heap.size := by have := hBA.size; simp at this; omega
          have zA' : w.heap.size + 1 < wA.heap.size := by have := hBA.size; simp at this; omega
          have mA : ∀ o, wA.frozen? ⟨w.heap.size + 1, o, none⟩ = false := fun o => (hBA.frozen (p := ⟨w.heap.size + 1, o, none⟩) (by show w.heap.size + 1 < w3.heap.size + 1; omega)).trans ((frozen?_alloc_cells _ _ _ _).trans (m3 o))
          go_wp2_with fail
          refine (refOfEntry y _ (by omega) (by omega)).mono ?_
          rw [O2.out]
          rintro e wC ⟨rfl, hbC⟩
          have hBC : Below (w3.heap.size + 1) (w3.alloc (.cells #[.int .u32 st, .bool ob, .int .i64 (c : Int)] 32)) wC := hBA.trans (hbC.mono (by have := hBA.size; (try simp at this); omega))
          have hBwC : Below w.heap.size w wC := hBwA.trans (hbC.mono (by omega))
          have hoC := hoA.kept hbC (Nat.le_refl _)
          clear hbC hoA
          have qC_0 : wC.cell? ⟨w.heap.size, 0, none⟩ = some (.int .i64 t) := (hBC.cell (p := ⟨w.heap.size, 0, none⟩) (by show w.heap.size < w3.heap.size + 1; omega)).trans (cellOld (by omega) c3_0)
          have qC_1 : wC.cell? ⟨w.heap.size, 1, none⟩ = some (.int .i64 p) := (hBC.cell (p := ⟨w.heap.size, 1, none⟩) (by show w.heap.size < w3.heap.size + 1; omega)).trans (cellOld (by omega) c3_1)
          have qC_2 : wC.cell? ⟨w.heap.size, 2, none⟩ = some (.int .i64 s) := (hBC.cell (p := ⟨w.heap.size, 2, none⟩) (by show w.heap.size < w3.heap.size + 1; omega)).trans (cellOld (by omega) c3_2)
          have kC_0 : wC.cell? ⟨w.heap.size + 1, 0, none⟩ = some (.int .u32 0) := (hBC.cell (p := ⟨w.heap.size + 1, 0, none⟩) (by show w.heap.size + 1 < w3.heap.size + 1; omega)).trans (cellOld (by omega) k3_0)
          have kC_1 : wC.cell? ⟨w.heap.size + 1, 1, none⟩ = some (.bool false) := (hBC.cell (p := ⟨w.heap.size + 1, 1, none⟩) (by show w.heap.size + 1 < w3.heap.size + 1; omega)).trans (cellOld (by omega) k3_1)
          have kC_2 : wC.cell? ⟨w.heap.size + 1, 2, none⟩ = some (.int .i64 0) := (hBC.cell (p := ⟨w.heap.size + 1, 2, none⟩) (by show w.heap.size + 1 < w3.heap.size + 1; omega)).trans (cellOld (by omega) k3_2)
          have nC_0 : wC.cell? ⟨w3.heap.size, 0, none⟩ = some (.int .u32 st) := (hBC.cell (p := ⟨w3.heap.size, 0, none⟩) (Nat.lt_succ_self _)).trans (cellNew rfl rfl)
          have nC_1 : wC.cell? ⟨w3.heap.size, 1, none⟩ = some (.bool ob) := (hBC.cell (p := ⟨w3.heap.size, 1, none⟩) (Nat.lt_succ_self _)).trans (cellNew rfl rfl)
          have nC_2 : wC.cell? ⟨w3.heap.size, 2, none⟩ = some (.int .i64 (c : Int)) := (hBC.cell (p := ⟨w3.heap.size, 2, none⟩) (Nat.lt_succ_self _)).trans (cellNew rfl rfl)
          have zC : w.heap.size < wC.heap.size := by have := hBC.size; simp at this; omega
          have zC' : w.heap.size + 1 < wC.heap.size := by have := hBC.size; simp at this; omega
          have mC : ∀ o, wC.frozen? ⟨w.heap.size + 1, o, none⟩ = false := fun o => (hBC.frozen (p := ⟨w.heap.size + 1, o, none⟩) (by show w.heap.size + 1 < w3.heap.size + 1; omega)).trans ((frozen?_alloc_cells _ _ _ _).trans (m3 o))
          go_wp2_with fail
          refine regionBelow (by kernel_rfl) (by kernel_rfl) ?_
          repeat (go_big_quiet_step ((go_at_call 20; exact quietBelow (PC.out _))))
          refine wpQuiet_nil ?_
          intro _ hw'
          obtain ⟨nq, hw''⟩ := hw'
          subst hw''
          have hn2 := nq.below
          have hz2 := hn2.size
          simp at hz2
          have zC2 : w3.heap.size + 1 ≤ wC.heap.size := by have := hBC.size; simp at this; omega
          have hBD : Below (w3.heap.size + 1) (w3.alloc (.cells #[.int .u32 st, .bool ob, .int .i64 (c : Int)] 32)) nq.to := (hBC.alloc (by omega) _).trans (hn2.mono (by simp; omega))
          have hBwD : Below w.heap.size w nq.to := (hBwC.alloc (by omega) _).trans (hn2.mono (by simp; omega))
          have qD_0 : nq.to.cell? ⟨w.heap.size, 0, none⟩ = some (.int .i64 t) := (hBD.cell (p := ⟨w.heap.size, 0, none⟩) (by show w.heap.size < w3.heap.size + 1; omega)).trans (cellOld (by omega) c3_0)
          have qD_1 : nq.to.cell? ⟨w.heap.size, 1, none⟩ = some (.int .i64 p) := (hBD.cell (p := ⟨w.heap.size, 1, none⟩) (by show w.heap.size < w3.heap.size + 1; omega)).trans (cellOld (by omega) c3_1)
          have qD_2 : nq.to.cell? ⟨w.heap.size, 2, none⟩ = some (.int .i64 s) := (hBD.cell (p := ⟨w.heap.size, 2, none⟩) (by show w.heap.size < w3.heap.size + 1; omega)).trans (cellOld (by omega) c3_2)
          have kD_0 : nq.to.cell? ⟨w.heap.size + 1, 0, none⟩ = some (.int .u32 0) := (hBD.cell (p := ⟨w.heap.size + 1, 0, none⟩) (by show w.heap.size + 1 < w3.heap.size + 1; omega)).trans (cellOld (by omega) k3_0)
          have kD_1 : nq.to.cell? ⟨w.heap.size + 1, 1, none⟩ = some (.bool false) := (hBD.cell (p := ⟨w.heap.size + 1, 1, none⟩) (by show w.heap.size + 1 < w3.heap.size + 1; omega)).trans (cellOld (by omega) k3_1)
          have kD_2 : nq.to.cell? ⟨w.heap.size + 1, 2, none⟩ = some (.int .i64 0) := (hBD.cell (p := ⟨w.heap.size + 1, 2, none⟩) (by show w.heap.size + 1 < w3.heap.size + 1; omega)).trans (cellOld (by omega) k3_2)
          have nD_0 : nq.to.cell? ⟨w3.heap.size, 0, none⟩ = some (.int .u32 st) := (hBD.cell (p := ⟨w3.heap.size, 0, none⟩) (Nat.lt_succ_self _)).trans (cellNew rfl rfl)
          have nD_1 : nq.to.cell? ⟨w3.heap.size, 1, none⟩ = some (.bool ob) := (hBD.cell (p := ⟨w3.heap.size, 1, none⟩) (Nat.lt_succ_self _)).trans (cellNew rfl rfl)
          have nD_2 : nq.to.cell? ⟨w3.heap.size, 2, none⟩ = some (.int .i64 (c : Int)) := (hBD.cell (p := ⟨w3.heap.size, 2, none⟩) (Nat.lt_succ_self _)).trans (cellNew rfl rfl)
          have zD : w.heap.size < nq.to.heap.size := by have := hBD.size; simp at this; omega
          have zD' : w.heap.size + 1 < nq.to.heap.size := by have := hBD.size; simp at this; omega
          have mD : ∀ o, nq.to.frozen? ⟨w.heap.size + 1, o, none⟩ = false := fun o => (hBD.frozen (p := ⟨w.heap.size + 1, o, none⟩) (by show w.heap.size + 1 < w3.heap.size + 1; omega)).trans ((frozen?_alloc_cells _ _ _ _).trans (m3 o))
          clear hoC
          go_wp2_with fail
          exact bodyPost_ret (v := .tuple #[.agg #[.int .u32 0, .bool false, .int .i64 0], .slice none 0 0, .bool false]) (by simp [results, Try.results13, go_sem, kD_0, kD_1, kD_2, zD, zD']) rfl (.inr ⟨hE2.out, rfl, bel⟩)
      · have O2 := hid (show ofEntryV y = .tuple #[.agg #[.int .i64 0, .int .u32 0], .bool false] by rw [ofEntryV, if_neg hbig])
        have hE2 := hid (G0.out (hN.out (by omega)))
        go_wp2_with fail
        refine (refLogW t p s u k _).mono ?_
        rw [lw.out]
        rintro e wA ⟨rfl, hbA⟩
        have hBA : Below (w3.heap.size + 1) (w3.alloc (.cells #[.int .u32 st, .bool ob, .int .i64 (c : Int)] 32)) wA := hBR.trans (hbA.mono (by have := hBR.size; (try simp at this); omega))
        have hBwA : Below w.heap.size w wA := hBw.trans (hbA.mono (by omega))
        have hoA := ho.kept hbA (Nat.le_refl _)
        have cxA : wA.cell? ⟨b0, off + (li + k), none⟩ = some (.int .u64 ((y : Nat) : Int)) := (hBwA.cell (p := ⟨b0, off + (li + k), none⟩) hb0).trans cy
        clear hbA ho
        have qA_0 : wA.cell? ⟨w.heap.size, 0, none⟩ = some (.int .i64 t) := (hBA.cell (p := ⟨w.heap.size, 0, none⟩) (by show w.heap.size < w3.heap.size + 1; omega)).trans (cellOld (by omega) c3_0)
        have qA_1 : wA.cell? ⟨w.heap.size, 1, none⟩ = some (.int .i64 p) := (hBA.cell (p := ⟨w.heap.size, 1, none⟩) (by show w.heap.size < w3.heap.size + 1; omega)).trans (cellOld (by omega) c3_1)
        have qA_2 : wA.cell? ⟨w.heap.size, 2, none⟩ = some (.int .i64 s) := (hBA.cell (p := ⟨w.heap.size, 2, none⟩) (by show w.heap.size < w3.heap.size + 1; omega)).trans (cellOld (by omega) c3_2)
        have kA_0 : wA.cell? ⟨w.heap.size + 1, 0, none⟩ = some (.int .u32 0) := (hBA.cell (p := ⟨w.heap.size + 1, 0, none⟩) (by show w.heap.size + 1 < w3.heap.size + 1; omega)).trans (cellOld (by omega) k3_0)
        have kA_1 : wA.cell? ⟨w.heap.size + 1, 1, none⟩ = some (.bool false) := (hBA.cell (p := ⟨w.heap.size + 1, 1, none⟩) (by show w.heap.size + 1 < w3.heap.size + 1; omega)).trans (cellOld (by omega) k3_1)
        have kA_2 : wA.cell? ⟨w.heap.size + 1, 2, none⟩ = some (.int .i64 0) := (hBA.cell (p := ⟨w.heap.size + 1, 2, none⟩) (by show w.heap.size + 1 < w3.heap.size + 1; omega)).trans (cellOld (by omega) k3_2)
        have nA_0 : wA.cell? ⟨w3.heap.size, 0, none⟩ = some (.int .u32 st) := (hBA.cell (p := ⟨w3.heap.size, 0, none⟩) (Nat.lt_succ_self _)).trans (cellNew rfl rfl)
        have nA_1 : wA.cell? ⟨w3.heap.size, 1, none⟩ = some (.bool ob) := (hBA.cell (p := ⟨w3.heap.size, 1, none⟩) (Nat.lt_succ_self _)).trans (cellNew rfl rfl)
        have nA_2 : wA.cell? ⟨w3.heap.size, 2, none⟩ = some (.int .i64 (c : Int)) := (hBA.cell (p := ⟨w3.heap.size, 2, none⟩) (Nat.lt_succ_self _)).trans (cellNew rfl rfl)
        have zA : w.heap.size < wA.heap.size := by have := hBA.size; simp at this; omega
        have zA' : w.heap.size + 1 < wA.heap.size := by have := hBA.size; simp at this; omega
        have mA : ∀ o, wA.frozen? ⟨w.heap.size + 1, o, none⟩ = false := fun o => (hBA.frozen (p := ⟨w.heap.size + 1, o, none⟩) (by show w.heap.size + 1 < w3.heap.size + 1; omega)).trans ((frozen?_alloc_cells _ _ _ _).trans (m3 o))
        go_wp2_with fail
        refine (refOfEntry y _ (by omega) (by omega)).mono ?_
        rw [O2.out]
        rintro e wC ⟨rfl, hbC⟩
        have hBC : Below (w3.heap.size + 1) (w3.alloc (.cells #[.int .u32 st, .bool ob, .int .i64 (c : Int)] 32)) wC := hBA.trans (hbC.mono (by have := hBA.size; (try simp at this); omega))
        have hBwC : Below w.heap.size w wC := hBwA.trans (hbC.mono (by omega))
        have hoC := hoA.kept hbC (Nat.le_refl _)
        clear hbC hoA
        have qC_0 : wC.cell? ⟨w.heap.size, 0, none⟩ = some (.int .i64 t) := (hBC.cell (p := ⟨w.heap.size, 0, none⟩) (by show w.heap.size < w3.heap.size + 1; omega)).trans (cellOld (by omega) c3_0)
        have qC_1 : wC.cell? ⟨w.heap.size, 1, none⟩ = some (.int .i64 p) := (hBC.cell (p := ⟨w.heap.size, 1, none⟩) (by show w.heap.size < w3.heap.size + 1; omega)).trans (cellOld (by omega) c3_1)
        have qC_2 : wC.cell? ⟨w.heap.size, 2, none⟩ = some (.int .i64 s) := (hBC.cell (p := ⟨w.heap.size, 2, none⟩) (by show w.heap.size < w3.heap.size + 1; omega)).trans (cellOld (by omega) c3_2)
        have kC_0 : wC.cell? ⟨w.heap.size + 1, 0, none⟩ = some (.int .u32 0) := (hBC.cell (p := ⟨w.heap.size + 1, 0, none⟩) (by show w.heap.size + 1 < w3.heap.size + 1; omega)).trans (cellOld (by omega) k3_0)
        have kC_1 : wC.cell? ⟨w.heap.size + 1, 1, none⟩ = some (.bool false) := (hBC.cell (p := ⟨w.heap.size + 1, 1, none⟩) (by show w.heap.size + 1 < w3.heap.size + 1; omega)).trans (cellOld (by omega) k3_1)
        have kC_2 : wC.cell? ⟨w.heap.size + 1, 2, none⟩ = some (.int .i64 0) := (hBC.cell (p := ⟨w.heap.size + 1, 2, none⟩) (by show w.heap.size + 1 < w3.heap.size + 1; omega)).trans (cellOld (by omega) k3_2)
        have nC_0 : wC.cell? ⟨w3.heap.size, 0, none⟩ = some (.int .u32 st) := (hBC.cell (p := ⟨w3.heap.size, 0, none⟩) (Nat.lt_succ_self _)).trans (cellNew rfl rfl)
        have nC_1 : wC.cell? ⟨w3.heap.size, 1, none⟩ = some (.bool ob) := (hBC.cell (p := ⟨w3.heap.size, 1, none⟩) (Nat.lt_succ_self _)).trans (cellNew rfl rfl)
        have nC_2 : wC.cell? ⟨w3.heap.size, 2, none⟩ = some (.int .i64 (c : Int)) := (hBC.cell (p := ⟨w3.heap.size, 2, none⟩) (Nat.lt_succ_self _)).trans (cellNew rfl rfl)
        have zC : w.heap.size < wC.heap.size := by have := hBC.size; simp at this; omega
        have zC' : w.heap.size + 1 < wC.heap.size := by have := hBC.size; simp at this; omega
        have mC : ∀ o, wC.frozen? ⟨w.heap.size + 1, o, none⟩ = false := fun o => (hBC.frozen (p := ⟨w.heap.size + 1, o, none⟩) (by show w.heap.size + 1 < w3.heap.size + 1; omega)).trans ((frozen?_alloc_cells _ _ _ _).trans (m3 o))
        go_wp2_with fail
        refine regionBelow (by kernel_rfl) (by kernel_rfl) ?_
        repeat (go_big_quiet_step ((go_at_call 20; exact quietBelow (PC.out _))))
        refine wpQuiet_nil ?_
        intro _ hw'
        obtain ⟨nq, hw''⟩ := hw'
        subst hw''
        have hn2 := nq.below
        have hz2 := hn2.size
        simp at hz2
        have zC2 : w3.heap.size + 1 ≤ wC.heap.size := by have := hBC.size; simp at this; omega
        have hBD : Below (w3.heap.size + 1) (w3.alloc (.cells #[.int .u32 st, .bool ob, .int .i64 (c : Int)] 32)) nq.to := (hBC.alloc (by omega) _).trans (hn2.mono (by simp; omega))
        have hBwD : Below w.heap.size w nq.to := (hBwC.alloc (by omega) _).trans (hn2.mono (by simp; omega))
        have qD_0 : nq.to.cell? ⟨w.heap.size, 0, none⟩ = some (.int .i64 t) := (hBD.cell (p := ⟨w.heap.size, 0, none⟩) (by show w.heap.size < w3.heap.size + 1; omega)).trans (cellOld (by omega) c3_0)
        have qD_1 : nq.to.cell? ⟨w.heap.size, 1, none⟩ = some (.int .i64 p) := (hBD.cell (p := ⟨w.heap.size, 1, none⟩) (by show w.heap.size < w3.heap.size + 1; omega)).trans (cellOld (by omega) c3_1)
        have qD_2 : nq.to.cell? ⟨w.heap.size, 2, none⟩ = some (.int .i64 s) := (hBD.cell (p := ⟨w.heap.size, 2, none⟩) (by show w.heap.size < w3.heap.size + 1; omega)).trans (cellOld (by omega) c3_2)
        have kD_0 : nq.to.cell? ⟨w.heap.size + 1, 0, none⟩ = some (.int .u32 0) := (hBD.cell (p := ⟨w.heap.size + 1, 0, none⟩) (by show w.heap.size + 1 < w3.heap.size + 1; omega)).trans (cellOld (by omega) k3_0)
        have kD_1 : nq.to.cell? ⟨w.heap.size + 1, 1, none⟩ = some (.bool false) := (hBD.cell (p := ⟨w.heap.size + 1, 1, none⟩) (by show w.heap.size + 1 < w3.heap.size + 1; omega)).trans (cellOld (by omega) k3_1)
        have kD_2 : nq.to.cell? ⟨w.heap.size + 1, 2, none⟩ = some (.int .i64 0) := (hBD.cell (p := ⟨w.heap.size + 1, 2, none⟩) (by show w.heap.size + 1 < w3.heap.size + 1; omega)).trans (cellOld (by omega) k3_2)
        have nD_0 : nq.to.cell? ⟨w3.heap.size, 0, none⟩ = some (.int .u32 st) := (hBD.cell (p := ⟨w3.heap.size, 0, none⟩) (Nat.lt_succ_self _)).trans (cellNew rfl rfl)
        have nD_1 : nq.to.cell? ⟨w3.heap.size, 1, none⟩ = some (.bool ob) := (hBD.cell (p := ⟨w3.heap.size, 1, none⟩) (Nat.lt_succ_self _)).trans (cellNew rfl rfl)
        have nD_2 : nq.to.cell? ⟨w3.heap.size, 2, none⟩ = some (.int .i64 (c : Int)) := (hBD.cell (p := ⟨w3.heap.size, 2, none⟩) (Nat.lt_succ_self _)).trans (cellNew rfl rfl)
        have zD : w.heap.size < nq.to.heap.size := by have := hBD.size; simp at this; omega
        have zD' : w.heap.size + 1 < nq.to.heap.size := by have := hBD.size; simp at this; omega
        have mD : ∀ o, nq.to.frozen? ⟨w.heap.size + 1, o, none⟩ = false := fun o => (hBD.frozen (p := ⟨w.heap.size + 1, o, none⟩) (by show w.heap.size + 1 < w3.heap.size + 1; omega)).trans ((frozen?_alloc_cells _ _ _ _).trans (m3 o))
        clear hoC
        go_wp2_with fail
        exact bodyPost_ret (v := .tuple #[.agg #[.int .u32 0, .bool false, .int .i64 0], .slice none 0 0, .bool false]) (by simp [results, Try.results13, go_sem, kD_0, kD_1, kD_2, zD, zD']) rfl (.inr ⟨hE2.out, rfl, bel⟩)
    · obtain rfl : k = c := by omega
      have hE2 := hid (G1.out (show entsB t p (logXs t p u ws) = true by have h := hE.out; rw [List.take_of_length_le (by rw [L.out]; exact Nat.le_refl _)] at h; exact h))
      have ho2 : OwnP wr (w3.heap.size + 1) (.slice a' k cap') (logXs t p u ws) := by have h := ho; rw [List.take_of_length_le (by rw [L.out]; exact Nat.le_refl _)] at h; exact h
      clear ho
      go_wp2_with fail
      exact bodyPost_ret (v := .tuple #[.agg #[.int .u32 st, .bool ob, .int .i64 (k : Int)], .slice a' k cap', .bool true]) (by simp [results, Try.results13, go_sem, kR_0, kR_1, kR_2, zR, zR']) rfl (.inl ⟨hE2.out, _, by rw [ST.out, OB.out, XX.out, ← EC.out], (((ho2.other (by first | omega | (simp; omega)) _ _).other (by first | omega | (simp; omega)) _ _).other (by first | omega | (simp; omega)) _ _).rebase (by first | omega | (simp; omega)), bel⟩)

theorem refLog (t p s u : Int) (w : World) (a : Option Addr) (len cap : Nat) (ws : List Nat) (hs : Seen .u64 w a len cap ws) (hf : Fit 18446744073709551616 ws) (g : Bool) (hg : g = true ↔ (okW t p s len ∧ 0 ≤ u ∧ u ≤ t)) :
    Calls Try.prog 13 #[.agg #[.int .i64 t, .int .i64 p, .int .i64 s], .slice a len cap, .int .i64 u] w (LogPost w t p u ws g) := by
  by_cases h : okW t p s len ∧ 0 ≤ u ∧ u ≤ t
  · obtain rfl := hg.2 h
    by_cases hn : cntX (noteX t p u ws) ≤ 96
    · exact refLogRows t p s u w a len cap ws hs hf h.1 h.2.1 h.2.2 hn
    · exact refLogBig t p s u w a len cap ws hs hf h.1 h.2.1 h.2.2 hn
  · obtain rfl : g = false := by cases g; rfl; exact absurd (hg.1 rfl) h
    exact refLogNo t p s u w a len cap ws h

theorem redoLog (t p s u : Int) (w : World) (a : Option Addr) (len cap : Nat) (ws : List Nat) (hs : Seen .u64 w a len cap ws) (hf : Fit 18446744073709551616 ws) (g : Bool) (hg : g = true ↔ (okW t p s len ∧ 0 ≤ u ∧ u ≤ t)) :
    Calls Try.prog 12 #[.agg #[.int .i64 t, .int .i64 p, .int .i64 s], .slice a len cap, .int .i64 u] w (LogPost w t p u ws g) := by
  by_cases h : okW t p s len ∧ 0 ≤ u ∧ u ≤ t
  · obtain rfl := hg.2 h
    by_cases hn : cntX (noteX t p u ws) ≤ 96
    · cases hE : entsB t p (logXs t p u ws)
      · exact redoLogBad t p s u w a len cap ws hs hf h.1 h.2.1 h.2.2 hn hE
      · exact redoLogGood t p s u w a len cap ws hs hf h.1 h.2.1 h.2.2 hn hE
    · exact redoLogBig t p s u w a len cap ws hs hf h.1 h.2.1 h.2.2 hn
  · obtain rfl : g = false := by cases g; rfl; exact absurd (hg.1 rfl) h
    exact redoLogNo t p s u w a len cap ws h
end Go.Proofs.Ytkkhoiahjmfibaa
