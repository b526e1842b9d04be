/- The walk of package redo's Log, of words that are right. -/
import Derived.Test.YtkkhoiahjmfibaaLog
import Derived.Deep.RegionHeld3
import Derived.Laws.Slices
namespace Go.Proofs.Ytkkhoiahjmfibaa
open Go.RowKit
set_option linter.unusedVariables false
set_option linter.unusedSimpArgs false

theorem slice3 (b o len cap l n : Nat) (hh : l + n ≤ cap) :
    ∃ oo, (oo = o + l ∨ n = 0) ∧ ∀ W : World, (Instr.slice 24 (.slice (some ⟨b, o, none⟩) len cap) (some (.int .i64 (l : Int))) (some (.int .i64 ((l : Int) + (n : Int)))) (some (.int .i64 ((l : Int) + (n : Int))))).run Try.prog W = .ok (.slice (some ⟨b, oo, none⟩) n n) W := by
  have ht : Try.prog.underlying 24 = some (.slice (Try.prog.elem 24)) := by simp [Program.elem, Try.underlying24]
  refine ⟨if n = 0 then o else o + l, by by_cases h : n = 0 <;> simp [h], fun W => ?_⟩
  have hz : (Go.sizeOf (Try.prog.elem 24)).run Try.prog W = .ok 1 W := by kernel_rfl
  have e1 : ((l : Int) + (n : Int)).toNat = l + n := by omega
  rw [run_slice_lhm W 24 _ _ _ ht .i64 .i64 .i64 _ _ _ (by omega) (by omega) (by omega) (by omega), hz, e1]
  simp only [Result.andThen, sliced, Int.toNat_natCast, Nat.mul_one]
  by_cases h : n = 0
  · subst h
    simp
  · have h2 : ¬ l + n = l := by omega
    rw [if_neg h2, if_neg h]
    simp [Addr.add]

theorem cntX_cast (y : Nat) : ((cntX y : Nat) : Int) = (y : Int) % 2147483648 := by unfold cntX; omega

theorem redoEntriesYes (t p s : Int) (w : World) (a : Option Addr) (len cap : Nat) (xs : List Nat) (hr : rightC t p s = true) (hs : Seen .u64 w a len cap xs) (hf : Fit 18446744073709551616 xs) (hl : len ≤ 96) (hE : entsB t p xs = true) :
    Calls Try.prog 42 #[.agg #[.int .i64 t, .int .i64 p, .int .i64 s], .slice a len cap] w fun e w' => (∃ v, e = .returned (.tuple #[v, .bool true]) ∧ OwnP w' w.heap.size v xs) ∧ Below w.heap.size w w' :=
  (redoEntries t p s w a len cap xs hr hs hf hl).mono fun e w' h => by
    rcases h with ⟨_, v, he, ho, hb⟩ | ⟨h, _⟩
    · exact ⟨⟨v, he, ho⟩, hb⟩
    · rw [hE] at h; cases h
theorem redoEntriesNo (t p s : Int) (w : World) (a : Option Addr) (len cap : Nat) (xs : List Nat) (hr : rightC t p s = true) (hs : Seen .u64 w a len cap xs) (hf : Fit 18446744073709551616 xs) (hl : len ≤ 96) (hE : entsB t p xs = false) :
    Calls Try.prog 42 #[.agg #[.int .i64 t, .int .i64 p, .int .i64 s], .slice a len cap] w fun e w' => e = .returned (.tuple #[.slice none 0 0, .bool false]) ∧ Below w.heap.size w w' :=
  (redoEntries t p s w a len cap xs hr hs hf hl).mono fun e w' h => by
    rcases h with ⟨h, _⟩ | ⟨_, he, hb⟩
    · rw [hE] at h; cases h
    · exact ⟨he, hb⟩


set_option maxRecDepth 100000 in
set_option maxHeartbeats 3200000 in
theorem redoLogBig (t p s u : Int) (w : World) (a : Option Addr) (len cap : Nat) (ws : List Nat) (hs : Seen .u64 w a len cap ws) (hf : Fit 18446744073709551616 ws) (ho : okW t p s len) (h0 : 0 ≤ u) (h1 : u ≤ t) (hn : ¬ cntX (noteX t p u ws) ≤ 96) :
    Calls Try.prog 12 #[.agg #[.int .i64 t, .int .i64 p, .int .i64 s], .slice a len cap, .int .i64 u] w (LogPost w t p u ws true) := by
  have hlen := hs.1
  have hlc := hs.2.1
  have hlm := hs.2.2.1
  obtain ⟨i1, i2, i3, i4⟩ := noteI_bd ho h0 h1
  have hbd := (okW_words ho).2
  have M := hid (makerYes ho.1 h0 h1)
  have NW := hid (show noteW t p s u = ((noteI t p u : Nat) : Int) by rw [noteW, if_pos ⟨ho.1, h0, h1⟩, i1])
  have LW := hid (show logW t p s u 0 = ((logI t p u : Nat) : Int) by rw [logW, if_pos ⟨ho.1, ⟨h0, h1⟩, by omega, by omega⟩, i2]; omega)
  have HO := hid ho
  obtain ⟨_, _, _, h4⟩ := id hs
  rcases h4 with ⟨h4, _⟩ | ⟨b0, off, rfl, hc⟩
  · omega
  have cx : w.cell? ⟨b0, off + noteI t p u, none⟩ = some (.int .u64 ((noteX t p u ws : Nat) : Int)) := hc _ i3
  have hx : noteX t p u ws < 18446744073709551616 := hf.getD (by omega) _
  have hb0 := World.block_lt_of_cell? w _ cx
  have HL := hid hlen
  have G := hid (show (true && logB t p u ws) = false by rw [logB]; simp [hn])
  have O := hid (ofNote_no (x := (noteX t p u ws : Nat)) (by unfold cntX at hn; omega))
  clear hn
  clear ho hc i1 i2 hlen
  generalize hX : noteX t p u ws = x at cx hx O
  have XX := hid hX
  clear hX
  generalize noteI t p u = ni at NW i3 cx
  generalize logI t p u = li at LW i4
  go_enter Try.func12, Try.ntmps12
  go_wp2_with fail
  refine (redoRightYes t p s _ _ len cap HO.out).mono ?_
  rintro e w1 ⟨rfl, hb1⟩
  obtain ⟨hc1, hf1, hz1⟩ := after hb1
  simp at hz1
  have z1 : w.heap.size < w1.heap.size := by omega
  have z1' : w.heap.size + 1 < w1.heap.size := by omega
  have hB1 : Below w.heap.size w w1 := bel
  have c1_0 : w1.cell? ⟨w.heap.size, 0, none⟩ = some (.int .i64 t) := by rw [hc1 _ _ (by simp; omega)]; exact cellOld (by simp) (cellNew rfl rfl)
  have c1_1 : w1.cell? ⟨w.heap.size, 1, none⟩ = some (.int .i64 p) := by rw [hc1 _ _ (by simp; omega)]; exact cellOld (by simp) (cellNew rfl rfl)
  have c1_2 : w1.cell? ⟨w.heap.size, 2, none⟩ = some (.int .i64 s) := by rw [hc1 _ _ (by simp; omega)]; exact cellOld (by simp) (cellNew rfl rfl)
  have k1_0 : w1.cell? ⟨w.heap.size + 1, 0, none⟩ = some (.int .u32 0) := by rw [hc1 _ _ (by simp)]; exact cellNew (by simp) rfl
  have k1_1 : w1.cell? ⟨w.heap.size + 1, 1, none⟩ = some (.bool false) := by rw [hc1 _ _ (by simp)]; exact cellNew (by simp) rfl
  have k1_2 : w1.cell? ⟨w.heap.size + 1, 2, none⟩ = some (.int .i64 0) := by rw [hc1 _ _ (by simp)]; exact cellNew (by simp) rfl
  have m1 : ∀ o, w1.frozen? ⟨w.heap.size + 1, o, none⟩ = false := by intro o; rw [hf1 _ _ (by simp)]; simp
  clear hc1 hf1
  go_wp2_with fail
  refine (redoMaker t p s u _ true M).mono ?_
  rintro e w2 ⟨rfl, hb2⟩
  obtain ⟨hc2, hf2, hz2⟩ := after hb2
  have z2 : w.heap.size < w2.heap.size := by omega
  have z2' : w.heap.size + 1 < w2.heap.size := by omega
  have hB2 : Below w.heap.size w w2 := hB1.trans (hb2.mono (by (try simp); omega))
  have c2_0 : w2.cell? ⟨w.heap.size, 0, none⟩ = some (.int .i64 t) := (hc2 _ _ (by (try simp); omega)).trans (c1_0)
  have c2_1 : w2.cell? ⟨w.heap.size, 1, none⟩ = some (.int .i64 p) := (hc2 _ _ (by (try simp); omega)).trans (c1_1)
  have c2_2 : w2.cell? ⟨w.heap.size, 2, none⟩ = some (.int .i64 s) := (hc2 _ _ (by (try simp); omega)).trans (c1_2)
  have k2_0 : w2.cell? ⟨w.heap.size + 1, 0, none⟩ = some (.int .u32 0) := (hc2 _ _ (by (try simp); omega)).trans (k1_0)
  have k2_1 : w2.cell? ⟨w.heap.size + 1, 1, none⟩ = some (.bool false) := (hc2 _ _ (by (try simp); omega)).trans (k1_1)
  have k2_2 : w2.cell? ⟨w.heap.size + 1, 2, none⟩ = some (.int .i64 0) := (hc2 _ _ (by (try simp); omega)).trans (k1_2)
  have m2 : ∀ o, w2.frozen? ⟨w.heap.size + 1, o, none⟩ = false := fun o => (hf2 _ _ (by (try simp); omega)).trans (m1 o)
  clear hc2 hf2
  go_wp2_with fail
  refine (placeNote t p s u _).mono ?_
  rw [NW.out]
  rintro e w3 ⟨rfl, hb3⟩
  obtain ⟨hc3, hf3, hz3⟩ := after hb3
  have z3 : w.heap.size < w3.heap.size := by omega
  have z3' : w.heap.size + 1 < w3.heap.size := by omega
  have hB3 : Below w.heap.size w w3 := hB2.trans (hb3.mono (by (try simp); omega))
  have c3_0 : w3.cell? ⟨w.heap.size, 0, none⟩ = some (.int .i64 t) := (hc3 _ _ (by (try simp); omega)).trans (c2_0)
  have c3_1 : w3.cell? ⟨w.heap.size, 1, none⟩ = some (.int .i64 p) := (hc3 _ _ (by (try simp); omega)).trans (c2_1)
  have c3_2 : w3.cell? ⟨w.heap.size, 2, none⟩ = some (.int .i64 s) := (hc3 _ _ (by (try simp); omega)).trans (c2_2)
  have k3_0 : w3.cell? ⟨w.heap.size + 1, 0, none⟩ = some (.int .u32 0) := (hc3 _ _ (by (try simp); omega)).trans (k2_0)
  have k3_1 : w3.cell? ⟨w.heap.size + 1, 1, none⟩ = some (.bool false) := (hc3 _ _ (by (try simp); omega)).trans (k2_1)
  have k3_2 : w3.cell? ⟨w.heap.size + 1, 2, none⟩ = some (.int .i64 0) := (hc3 _ _ (by (try simp); omega)).trans (k2_2)
  have m3 : ∀ o, w3.frozen? ⟨w.heap.size + 1, o, none⟩ = false := fun o => (hf3 _ _ (by (try simp); omega)).trans (m2 o)
  clear hc3 hf3
  have cx3 : w3.cell? ⟨b0, off + ni, none⟩ = some (.int .u64 ((x : Nat) : Int)) := (hB3.cell (p := ⟨b0, off + ni, none⟩) hb0).trans cx
  go_wp2_with fail
  refine (markOfNote x _ hx).mono ?_
  rw [O.out]
  rintro e w4 ⟨rfl, hb4⟩
  obtain ⟨hc4, hf4, hz4⟩ := after hb4
  have z4 : w.heap.size < w4.heap.size := by omega
  have z4' : w.heap.size + 1 < w4.heap.size := by omega
  have hB4 : Below w.heap.size w w4 := hB3.trans (hb4.mono (by (try simp); omega))
  have c4_0 : w4.cell? ⟨w.heap.size, 0, none⟩ = some (.int .i64 t) := (hc4 _ _ (by (try simp); omega)).trans (c3_0)
  have c4_1 : w4.cell? ⟨w.heap.size, 1, none⟩ = some (.int .i64 p) := (hc4 _ _ (by (try simp); omega)).trans (c3_1)
  have c4_2 : w4.cell? ⟨w.heap.size, 2, none⟩ = some (.int .i64 s) := (hc4 _ _ (by (try simp); omega)).trans (c3_2)
  have k4_0 : w4.cell? ⟨w.heap.size + 1, 0, none⟩ = some (.int .u32 0) := (hc4 _ _ (by (try simp); omega)).trans (k3_0)
  have k4_1 : w4.cell? ⟨w.heap.size + 1, 1, none⟩ = some (.bool false) := (hc4 _ _ (by (try simp); omega)).trans (k3_1)
  have k4_2 : w4.cell? ⟨w.heap.size + 1, 2, none⟩ = some (.int .i64 0) := (hc4 _ _ (by (try simp); omega)).trans (k3_2)
  have m4 : ∀ o, w4.frozen? ⟨w.heap.size + 1, o, none⟩ = false := fun o => (hf4 _ _ (by (try simp); omega)).trans (m3 o)
  clear hc4 hf4
  go_wp2_with fail
  exact bodyPost_ret (v := .tuple #[.agg #[.int .u32 0, .bool false, .int .i64 0], .slice none 0 0, .bool false]) (by simp [results, Try.results12, go_sem, k4_0, k4_1, k4_2, z4, z4']) rfl (.inr ⟨G.out, rfl, bel⟩)

set_option maxRecDepth 100000 in
set_option maxHeartbeats 3200000 in
theorem redoLogBad (t p s u : Int) (w : World) (a : Option Addr) (len cap : Nat) (ws : List Nat) (hs : Seen .u64 w a len cap ws) (hf : Fit 18446744073709551616 ws) (ho : okW t p s len) (h0 : 0 ≤ u) (h1 : u ≤ t) (hn : cntX (noteX t p u ws) ≤ 96) (hE : entsB t p (logXs t p u ws) = false) :
    Calls Try.prog 12 #[.agg #[.int .i64 t, .int .i64 p, .int .i64 s], .slice a len cap, .int .i64 u] w (LogPost w t p u ws true) := by
  have hlen := hs.1
  have hlc := hs.2.1
  have hlm := hs.2.2.1
  obtain ⟨i1, i2, i3, i4⟩ := noteI_bd ho h0 h1
  have hbd := (okW_words ho).2
  have M := hid (makerYes ho.1 h0 h1)
  have NW := hid (show noteW t p s u = ((noteI t p u : Nat) : Int) by rw [noteW, if_pos ⟨ho.1, h0, h1⟩, i1])
  have LW := hid (show logW t p s u 0 = ((logI t p u : Nat) : Int) by rw [logW, if_pos ⟨ho.1, ⟨h0, h1⟩, by omega, by omega⟩, i2]; omega)
  have HO := hid ho
  obtain ⟨_, _, _, h4⟩ := id hs
  rcases h4 with ⟨h4, _⟩ | ⟨b0, off, rfl, hc⟩
  · omega
  have cx : w.cell? ⟨b0, off + noteI t p u, none⟩ = some (.int .u64 ((noteX t p u ws : Nat) : Int)) := hc _ i3
  have hx : noteX t p u ws < 18446744073709551616 := hf.getD (by omega) _
  have hb0 := World.block_lt_of_cell? w _ cx
  have HL := hid hlen
  have G := hid (show (true && logB t p u ws) = false by rw [logB, hE]; simp)
  have hsd := hs.drop (logI t p u) (cntX (noteX t p u ws)) (by omega)
  change Seen .u64 w (some ⟨b0, off + logI t p u, none⟩) (cntX (noteX t p u ws)) (cntX (noteX t p u ws)) (logXs t p u ws) at hsd
  have hfx : Fit 18446744073709551616 (logXs t p u ws) := fun y hy => hf y (List.mem_of_mem_drop (List.mem_of_mem_take hy))
  have HE := hid hE
  have O := hid (show ofNoteV (noteX t p u ws : Nat) = .tuple #[.agg #[.int .u32 ((noteX t p u ws : Int) / 4294967296), .bool ((noteX t p u ws : Int) / 2147483648 % 2 == 1), .int .i64 ((cntX (noteX t p u ws) : Nat) : Int)], .bool true] by rw [ofNoteV, if_pos (by unfold cntX at hn; omega), cntX_cast])
  have EC := hid (show ((cntX (noteX t p u ws) : Nat) : Int) = (noteX t p u ws : Int) % 2147483648 from cntX_cast _)
  generalize hob : ((noteX t p u ws : Int) / 2147483648 % 2 == 1) = ob at O
  have OB := hid hob
  generalize hst : (noteX t p u ws : Int) / 4294967296 = st at O
  have ST := hid hst
  clear hE hob hst
  clear ho hc i1 i2 hlen
  generalize hX : noteX t p u ws = x at cx hx O hn hsd EC
  have XX := hid hX
  clear hX
  generalize noteI t p u = ni at NW i3 cx
  generalize logI t p u = li at LW i4 hsd
  generalize cntX x = c at O hn hsd EC
  go_enter Try.func12, Try.ntmps12
  go_wp2_with fail
  refine (redoRightYes t p s _ _ len cap HO.out).mono ?_
  rintro e w1 ⟨rfl, hb1⟩
  obtain ⟨hc1, hf1, hz1⟩ := after hb1
  simp at hz1
  have z1 : w.heap.size < w1.heap.size := by omega
  have z1' : w.heap.size + 1 < w1.heap.size := by omega
  have hB1 : Below w.heap.size w w1 := bel
  have c1_0 : w1.cell? ⟨w.heap.size, 0, none⟩ = some (.int .i64 t) := by rw [hc1 _ _ (by simp; omega)]; exact cellOld (by simp) (cellNew rfl rfl)
  have c1_1 : w1.cell? ⟨w.heap.size, 1, none⟩ = some (.int .i64 p) := by rw [hc1 _ _ (by simp; omega)]; exact cellOld (by simp) (cellNew rfl rfl)
  have c1_2 : w1.cell? ⟨w.heap.size, 2, none⟩ = some (.int .i64 s) := by rw [hc1 _ _ (by simp; omega)]; exact cellOld (by simp) (cellNew rfl rfl)
  have k1_0 : w1.cell? ⟨w.heap.size + 1, 0, none⟩ = some (.int .u32 0) := by rw [hc1 _ _ (by simp)]; exact cellNew (by simp) rfl
  have k1_1 : w1.cell? ⟨w.heap.size + 1, 1, none⟩ = some (.bool false) := by rw [hc1 _ _ (by simp)]; exact cellNew (by simp) rfl
  have k1_2 : w1.cell? ⟨w.heap.size + 1, 2, none⟩ = some (.int .i64 0) := by rw [hc1 _ _ (by simp)]; exact cellNew (by simp) rfl
  have m1 : ∀ o, w1.frozen? ⟨w.heap.size + 1, o, none⟩ = false := by intro o; rw [hf1 _ _ (by simp)]; simp
  clear hc1 hf1
  go_wp2_with fail
  refine (redoMaker t p s u _ true M).mono ?_
  rintro e w2 ⟨rfl, hb2⟩
  obtain ⟨hc2, hf2, hz2⟩ := after hb2
  have z2 : w.heap.size < w2.heap.size := by omega
  have z2' : w.heap.size + 1 < w2.heap.size := by omega
  have hB2 : Below w.heap.size w w2 := hB1.trans (hb2.mono (by (try simp); omega))
  have c2_0 : w2.cell? ⟨w.heap.size, 0, none⟩ = some (.int .i64 t) := (hc2 _ _ (by (try simp); omega)).trans (c1_0)
  have c2_1 : w2.cell? ⟨w.heap.size, 1, none⟩ = some (.int .i64 p) := (hc2 _ _ (by (try simp); omega)).trans (c1_1)
  have c2_2 : w2.cell? ⟨w.heap.size, 2, none⟩ = some (.int .i64 s) := (hc2 _ _ (by (try simp); omega)).trans (c1_2)
  have k2_0 : w2.cell? ⟨w.heap.size + 1, 0, none⟩ = some (.int .u32 0) := (hc2 _ _ (by (try simp); omega)).trans (k1_0)
  have k2_1 : w2.cell? ⟨w.heap.size + 1, 1, none⟩ = some (.bool false) := (hc2 _ _ (by (try simp); omega)).trans (k1_1)
  have k2_2 : w2.cell? ⟨w.heap.size + 1, 2, none⟩ = some (.int .i64 0) := (hc2 _ _ (by (try simp); omega)).trans (k1_2)
  have m2 : ∀ o, w2.frozen? ⟨w.heap.size + 1, o, none⟩ = false := fun o => (hf2 _ _ (by (try simp); omega)).trans (m1 o)
  clear hc2 hf2
  go_wp2_with fail
  refine (placeNote t p s u _).mono ?_
  rw [NW.out]
  rintro e w3 ⟨rfl, hb3⟩
  obtain ⟨hc3, hf3, hz3⟩ := after hb3
  have z3 : w.heap.size < w3.heap.size := by omega
  have z3' : w.heap.size + 1 < w3.heap.size := by omega
  have hB3 : Below w.heap.size w w3 := hB2.trans (hb3.mono (by (try simp); omega))
  have c3_0 : w3.cell? ⟨w.heap.size, 0, none⟩ = some (.int .i64 t) := (hc3 _ _ (by (try simp); omega)).trans (c2_0)
  have c3_1 : w3.cell? ⟨w.heap.size, 1, none⟩ = some (.int .i64 p) := (hc3 _ _ (by (try simp); omega)).trans (c2_1)
  have c3_2 : w3.cell? ⟨w.heap.size, 2, none⟩ = some (.int .i64 s) := (hc3 _ _ (by (try simp); omega)).trans (c2_2)
  have k3_0 : w3.cell? ⟨w.heap.size + 1, 0, none⟩ = some (.int .u32 0) := (hc3 _ _ (by (try simp); omega)).trans (k2_0)
  have k3_1 : w3.cell? ⟨w.heap.size + 1, 1, none⟩ = some (.bool false) := (hc3 _ _ (by (try simp); omega)).trans (k2_1)
  have k3_2 : w3.cell? ⟨w.heap.size + 1, 2, none⟩ = some (.int .i64 0) := (hc3 _ _ (by (try simp); omega)).trans (k2_2)
  have m3 : ∀ o, w3.frozen? ⟨w.heap.size + 1, o, none⟩ = false := fun o => (hf3 _ _ (by (try simp); omega)).trans (m2 o)
  clear hc3 hf3
  have cx3 : w3.cell? ⟨b0, off + ni, none⟩ = some (.int .u64 ((x : Nat) : Int)) := (hB3.cell (p := ⟨b0, off + ni, none⟩) hb0).trans cx
  go_wp2_with fail
  refine (markOfNote x _ hx).mono ?_
  rw [O.out]
  rintro e w4 ⟨rfl, hb4⟩
  obtain ⟨hc4, hf4, hz4⟩ := after hb4
  have z4 : w.heap.size < w4.heap.size := by omega
  have z4' : w.heap.size + 1 < w4.heap.size := by omega
  have hB4 : Below w.heap.size w w4 := hB3.trans (hb4.mono (by (try simp); omega))
  have c4_0 : w4.cell? ⟨w.heap.size, 0, none⟩ = some (.int .i64 t) := (hc4 _ _ (by (try simp); omega)).trans (c3_0)
  have c4_1 : w4.cell? ⟨w.heap.size, 1, none⟩ = some (.int .i64 p) := (hc4 _ _ (by (try simp); omega)).trans (c3_1)
  have c4_2 : w4.cell? ⟨w.heap.size, 2, none⟩ = some (.int .i64 s) := (hc4 _ _ (by (try simp); omega)).trans (c3_2)
  have k4_0 : w4.cell? ⟨w.heap.size + 1, 0, none⟩ = some (.int .u32 0) := (hc4 _ _ (by (try simp); omega)).trans (k3_0)
  have k4_1 : w4.cell? ⟨w.heap.size + 1, 1, none⟩ = some (.bool false) := (hc4 _ _ (by (try simp); omega)).trans (k3_1)
  have k4_2 : w4.cell? ⟨w.heap.size + 1, 2, none⟩ = some (.int .i64 0) := (hc4 _ _ (by (try simp); omega)).trans (k3_2)
  have m4 : ∀ o, w4.frozen? ⟨w.heap.size + 1, o, none⟩ = false := fun o => (hf4 _ _ (by (try simp); omega)).trans (m3 o)
  clear hc4 hf4
  go_wp2_with fail
  refine (placeLog t p s u 0 _).mono ?_
  rw [LW.out]
  rintro e w5 ⟨rfl, hb5⟩
  obtain ⟨hc5, hf5, hz5⟩ := after hb5
  simp at hz5
  have n0 : w5.cell? ⟨w4.heap.size, 0, none⟩ = some (.int .u32 st) := by rw [hc5 _ _ (by simp)]; exact cellNew rfl rfl
  have n1 : w5.cell? ⟨w4.heap.size, 1, none⟩ = some (.bool ob) := by rw [hc5 _ _ (by simp)]; exact cellNew rfl rfl
  have n2 : w5.cell? ⟨w4.heap.size, 2, none⟩ = some (.int .i64 (c : Int)) := by rw [hc5 _ _ (by simp)]; exact cellNew rfl rfl
  have zn : w4.heap.size < w5.heap.size := by omega
  have z5 : w.heap.size < w5.heap.size := by omega
  have z5' : w.heap.size + 1 < w5.heap.size := by omega
  have hB5 : Below w.heap.size w w5 := (hB4.alloc (by omega) _).trans (hb5.mono (by (try simp); omega))
  have c5_0 : w5.cell? ⟨w.heap.size, 0, none⟩ = some (.int .i64 t) := (hc5 _ _ (by (try simp); omega)).trans (cellOld (by omega) c4_0)
  have c5_1 : w5.cell? ⟨w.heap.size, 1, none⟩ = some (.int .i64 p) := (hc5 _ _ (by (try simp); omega)).trans (cellOld (by omega) c4_1)
  have c5_2 : w5.cell? ⟨w.heap.size, 2, none⟩ = some (.int .i64 s) := (hc5 _ _ (by (try simp); omega)).trans (cellOld (by omega) c4_2)
  have k5_0 : w5.cell? ⟨w.heap.size + 1, 0, none⟩ = some (.int .u32 0) := (hc5 _ _ (by (try simp); omega)).trans (cellOld (by omega) k4_0)
  have k5_1 : w5.cell? ⟨w.heap.size + 1, 1, none⟩ = some (.bool false) := (hc5 _ _ (by (try simp); omega)).trans (cellOld (by omega) k4_1)
  have k5_2 : w5.cell? ⟨w.heap.size + 1, 2, none⟩ = some (.int .i64 0) := (hc5 _ _ (by (try simp); omega)).trans (cellOld (by omega) k4_2)
  have m5 : ∀ o, w5.frozen? ⟨w.heap.size + 1, o, none⟩ = false := fun o => (hf5 _ _ (by (try simp); omega)).trans ((frozen?_alloc_cells _ _ _ _).trans (m4 o))
  clear hc5 hf5
  have wr1 : IntKind.i64.wrap ((li : Int) + (c : Int)) = (li : Int) + (c : Int) := IntWalk.i64_in _ (by omega)
  have j1 : (0 : Int) ≤ (li : Int) + (c : Int) := by omega
  have j2 : (li : Int) ≤ (li : Int) + (c : Int) := by omega
  have j3 : (li : Int) + (c : Int) ≤ (cap : Int) := by omega
  have j4 : (li : Int) + (c : Int) ≤ (len : Int) := by omega
  have HR := hid HO.out.1
  obtain ⟨oo, hoo, hsl⟩ := slice3 b0 off len cap li c (by omega)
  have hsw : Seen .u64 w5.drew (some ⟨b0, oo, none⟩) c c (logXs t p u ws) := by
    rcases hoo with rfl | h0
    · exact hsd.below hB5.drew
    · subst h0
      obtain ⟨g1, _⟩ := hsd
      rw [List.length_eq_zero_iff.1 g1]
      exact Seen.empty _ _ _ _ (by omega) (fun h => by cases h)
  clear hoo j1 j2 j3 j4 i4
  go_wp2_with fail
  go_region_held3 (fun w' => (w'.cell? ⟨w.heap.size, 0, none⟩ = some (.int .i64 t) ∧ w'.cell? ⟨w.heap.size, 1, none⟩ = some (.int .i64 p) ∧ w'.cell? ⟨w.heap.size, 2, none⟩ = some (.int .i64 s)) ∧ w'.cell? ⟨w4.heap.size, 2, none⟩ = some (.int .i64 (c : Int)))
    (((go_split_ands); (try dsimp only); (repeat' apply And.intro); (all_goals first | assumption | go_keep)))
    (first
      | (go_at_call 42; refine (redoEntriesNo t p s _ _ c c (logXs t p u ws) HR.out hsw hfx hn HE.out).mono ?_; rintro e w6 ⟨rfl, hb6⟩; have c6_0 : w6.cell? ⟨w.heap.size, 0, none⟩ = some (.int .i64 t) := (hb6.cell (p := ⟨w.heap.size, 0, none⟩) z5).trans c5_0; have c6_1 : w6.cell? ⟨w.heap.size, 1, none⟩ = some (.int .i64 p) := (hb6.cell (p := ⟨w.heap.size, 1, none⟩) z5).trans c5_1; have c6_2 : w6.cell? ⟨w.heap.size, 2, none⟩ = some (.int .i64 s) := (hb6.cell (p := ⟨w.heap.size, 2, none⟩) z5).trans c5_2; have n6 : w6.cell? ⟨w4.heap.size, 2, none⟩ = some (.int .i64 (c : Int)) := (hb6.cell (p := ⟨w4.heap.size, 2, none⟩) zn).trans n2))
  all_goals
    have z6 : w.heap.size < w6.heap.size := by have := hb6.size; simp at this; omega
    have z6' : w.heap.size + 1 < w6.heap.size := by have := hb6.size; simp at this; omega
    have k6_0 : w6.cell? ⟨w.heap.size + 1, 0, none⟩ = some (.int .u32 0) := (hb6.cell (p := ⟨w.heap.size + 1, 0, none⟩) z5').trans k5_0
    have k6_1 : w6.cell? ⟨w.heap.size + 1, 1, none⟩ = some (.bool false) := (hb6.cell (p := ⟨w.heap.size + 1, 1, none⟩) z5').trans k5_1
    have k6_2 : w6.cell? ⟨w.heap.size + 1, 2, none⟩ = some (.int .i64 0) := (hb6.cell (p := ⟨w.heap.size + 1, 2, none⟩) z5').trans k5_2
    have m6 : ∀ o, w6.frozen? ⟨w.heap.size + 1, o, none⟩ = false := fun o => (hb6.frozen (p := ⟨w.heap.size + 1, o, none⟩) z5').trans (m5 o)
    have hB6 : Below w.heap.size w w6 := hB5.drew.trans (hb6.mono (by simp; omega))
    clear hb6 hsl
    go_wp2_with fail
    exact bodyPost_ret (v := .tuple #[.agg #[.int .u32 0, .bool false, .int .i64 0], .slice none 0 0, .bool false]) (by simp [results, Try.results12, go_sem, k6_0, k6_1, k6_2, z6, z6']) rfl (.inr ⟨G.out, rfl, bel⟩)

set_option maxRecDepth 100000 in
set_option maxHeartbeats 3200000 in
theorem redoLogGood (t p s u : Int) (w : World) (a : Option Addr) (len cap : Nat) (ws : List Nat) (hs : Seen .u64 w a len cap ws) (hf : Fit 18446744073709551616 ws) (ho : okW t p s len) (h0 : 0 ≤ u) (h1 : u ≤ t) (hn : cntX (noteX t p u ws) ≤ 96) (hE : entsB t p (logXs t p u ws) = true) :
    Calls Try.prog 12 #[.agg #[.int .i64 t, .int .i64 p, .int .i64 s], .slice a len cap, .int .i64 u] w (LogPost w t p u ws true) := by
  have hlen := hs.1
  have hlc := hs.2.1
  have hlm := hs.2.2.1
  obtain ⟨i1, i2, i3, i4⟩ := noteI_bd ho h0 h1
  have hbd := (okW_words ho).2
  have M := hid (makerYes ho.1 h0 h1)
  have NW := hid (show noteW t p s u = ((noteI t p u : Nat) : Int) by rw [noteW, if_pos ⟨ho.1, h0, h1⟩, i1])
  have LW := hid (show logW t p s u 0 = ((logI t p u : Nat) : Int) by rw [logW, if_pos ⟨ho.1, ⟨h0, h1⟩, by omega, by omega⟩, i2]; omega)
  have HO := hid ho
  obtain ⟨_, _, _, h4⟩ := id hs
  rcases h4 with ⟨h4, _⟩ | ⟨b0, off, rfl, hc⟩
  · omega
  have cx : w.cell? ⟨b0, off + noteI t p u, none⟩ = some (.int .u64 ((noteX t p u ws : Nat) : Int)) := hc _ i3
  have hx : noteX t p u ws < 18446744073709551616 := hf.getD (by omega) _
  have hb0 := World.block_lt_of_cell? w _ cx
  have HL := hid hlen
  have G := hid (show (true && logB t p u ws) = true by rw [logB, hE]; simp [hn])
  have hsd := hs.drop (logI t p u) (cntX (noteX t p u ws)) (by omega)
  change Seen .u64 w (some ⟨b0, off + logI t p u, none⟩) (cntX (noteX t p u ws)) (cntX (noteX t p u ws)) (logXs t p u ws) at hsd
  have hfx : Fit 18446744073709551616 (logXs t p u ws) := fun y hy => hf y (List.mem_of_mem_drop (List.mem_of_mem_take hy))
  have HE := hid hE
  have O := hid (show ofNoteV (noteX t p u ws : Nat) = .tuple #[.agg #[.int .u32 ((noteX t p u ws : Int) / 4294967296), .bool ((noteX t p u ws : Int) / 2147483648 % 2 == 1), .int .i64 ((cntX (noteX t p u ws) : Nat) : Int)], .bool true] by rw [ofNoteV, if_pos (by unfold cntX at hn; omega), cntX_cast])
  have EC := hid (show ((cntX (noteX t p u ws) : Nat) : Int) = (noteX t p u ws : Int) % 2147483648 from cntX_cast _)
  generalize hob : ((noteX t p u ws : Int) / 2147483648 % 2 == 1) = ob at O
  have OB := hid hob
  generalize hst : (noteX t p u ws : Int) / 4294967296 = st at O
  have ST := hid hst
  clear hE hob hst
  clear ho hc i1 i2 hlen
  generalize hX : noteX t p u ws = x at cx hx O hn hsd EC
  have XX := hid hX
  clear hX
  generalize noteI t p u = ni at NW i3 cx
  generalize logI t p u = li at LW i4 hsd
  generalize cntX x = c at O hn hsd EC
  go_enter Try.func12, Try.ntmps12
  go_wp2_with fail
  refine (redoRightYes t p s _ _ len cap HO.out).mono ?_
  rintro e w1 ⟨rfl, hb1⟩
  obtain ⟨hc1, hf1, hz1⟩ := after hb1
  simp at hz1
  have z1 : w.heap.size < w1.heap.size := by omega
  have z1' : w.heap.size + 1 < w1.heap.size := by omega
  have hB1 : Below w.heap.size w w1 := bel
  have c1_0 : w1.cell? ⟨w.heap.size, 0, none⟩ = some (.int .i64 t) := by rw [hc1 _ _ (by simp; omega)]; exact cellOld (by simp) (cellNew rfl rfl)
  have c1_1 : w1.cell? ⟨w.heap.size, 1, none⟩ = some (.int .i64 p) := by rw [hc1 _ _ (by simp; omega)]; exact cellOld (by simp) (cellNew rfl rfl)
  have c1_2 : w1.cell? ⟨w.heap.size, 2, none⟩ = some (.int .i64 s) := by rw [hc1 _ _ (by simp; omega)]; exact cellOld (by simp) (cellNew rfl rfl)
  have k1_0 : w1.cell? ⟨w.heap.size + 1, 0, none⟩ = some (.int .u32 0) := by rw [hc1 _ _ (by simp)]; exact cellNew (by simp) rfl
  have k1_1 : w1.cell? ⟨w.heap.size + 1, 1, none⟩ = some (.bool false) := by rw [hc1 _ _ (by simp)]; exact cellNew (by simp) rfl
  have k1_2 : w1.cell? ⟨w.heap.size + 1, 2, none⟩ = some (.int .i64 0) := by rw [hc1 _ _ (by simp)]; exact cellNew (by simp) rfl
  have m1 : ∀ o, w1.frozen? ⟨w.heap.size + 1, o, none⟩ = false := by intro o; rw [hf1 _ _ (by simp)]; simp
  clear hc1 hf1
  go_wp2_with fail
  refine (redoMaker t p s u _ true M).mono ?_
  rintro e w2 ⟨rfl, hb2⟩
  obtain ⟨hc2, hf2, hz2⟩ := after hb2
  have z2 : w.heap.size < w2.heap.size := by omega
  have z2' : w.heap.size + 1 < w2.heap.size := by omega
  have hB2 : Below w.heap.size w w2 := hB1.trans (hb2.mono (by (try simp); omega))
  have c2_0 : w2.cell? ⟨w.heap.size, 0, none⟩ = some (.int .i64 t) := (hc2 _ _ (by (try simp); omega)).trans (c1_0)
  have c2_1 : w2.cell? ⟨w.heap.size, 1, none⟩ = some (.int .i64 p) := (hc2 _ _ (by (try simp); omega)).trans (c1_1)
  have c2_2 : w2.cell? ⟨w.heap.size, 2, none⟩ = some (.int .i64 s) := (hc2 _ _ (by (try simp); omega)).trans (c1_2)
  have k2_0 : w2.cell? ⟨w.heap.size + 1, 0, none⟩ = some (.int .u32 0) := (hc2 _ _ (by (try simp); omega)).trans (k1_0)
  have k2_1 : w2.cell? ⟨w.heap.size + 1, 1, none⟩ = some (.bool false) := (hc2 _ _ (by (try simp); omega)).trans (k1_1)
  have k2_2 : w2.cell? ⟨w.heap.size + 1, 2, none⟩ = some (.int .i64 0) := (hc2 _ _ (by (try simp); omega)).trans (k1_2)
  have m2 : ∀ o, w2.frozen? ⟨w.heap.size + 1, o, none⟩ = false := fun o => (hf2 _ _ (by (try simp); omega)).trans (m1 o)
  clear hc2 hf2
  go_wp2_with fail
  refine (placeNote t p s u _).mono ?_
  rw [NW.out]
  rintro e w3 ⟨rfl, hb3⟩
  obtain ⟨hc3, hf3, hz3⟩ := after hb3
  have z3 : w.heap.size < w3.heap.size := by omega
  have z3' : w.heap.size + 1 < w3.heap.size := by omega
  have hB3 : Below w.heap.size w w3 := hB2.trans (hb3.mono (by (try simp); omega))
  have c3_0 : w3.cell? ⟨w.heap.size, 0, none⟩ = some (.int .i64 t) := (hc3 _ _ (by (try simp); omega)).trans (c2_0)
  have c3_1 : w3.cell? ⟨w.heap.size, 1, none⟩ = some (.int .i64 p) := (hc3 _ _ (by (try simp); omega)).trans (c2_1)
  have c3_2 : w3.cell? ⟨w.heap.size, 2, none⟩ = some (.int .i64 s) := (hc3 _ _ (by (try simp); omega)).trans (c2_2)
  have k3_0 : w3.cell? ⟨w.heap.size + 1, 0, none⟩ = some (.int .u32 0) := (hc3 _ _ (by (try simp); omega)).trans (k2_0)
  have k3_1 : w3.cell? ⟨w.heap.size + 1, 1, none⟩ = some (.bool false) := (hc3 _ _ (by (try simp); omega)).trans (k2_1)
  have k3_2 : w3.cell? ⟨w.heap.size + 1, 2, none⟩ = some (.int .i64 0) := (hc3 _ _ (by (try simp); omega)).trans (k2_2)
  have m3 : ∀ o, w3.frozen? ⟨w.heap.size + 1, o, none⟩ = false := fun o => (hf3 _ _ (by (try simp); omega)).trans (m2 o)
  clear hc3 hf3
  have cx3 : w3.cell? ⟨b0, off + ni, none⟩ = some (.int .u64 ((x : Nat) : Int)) := (hB3.cell (p := ⟨b0, off + ni, none⟩) hb0).trans cx
  go_wp2_with fail
  refine (markOfNote x _ hx).mono ?_
  rw [O.out]
  rintro e w4 ⟨rfl, hb4⟩
  obtain ⟨hc4, hf4, hz4⟩ := after hb4
  have z4 : w.heap.size < w4.heap.size := by omega
  have z4' : w.heap.size + 1 < w4.heap.size := by omega
  have hB4 : Below w.heap.size w w4 := hB3.trans (hb4.mono (by (try simp); omega))
  have c4_0 : w4.cell? ⟨w.heap.size, 0, none⟩ = some (.int .i64 t) := (hc4 _ _ (by (try simp); omega)).trans (c3_0)
  have c4_1 : w4.cell? ⟨w.heap.size, 1, none⟩ = some (.int .i64 p) := (hc4 _ _ (by (try simp); omega)).trans (c3_1)
  have c4_2 : w4.cell? ⟨w.heap.size, 2, none⟩ = some (.int .i64 s) := (hc4 _ _ (by (try simp); omega)).trans (c3_2)
  have k4_0 : w4.cell? ⟨w.heap.size + 1, 0, none⟩ = some (.int .u32 0) := (hc4 _ _ (by (try simp); omega)).trans (k3_0)
  have k4_1 : w4.cell? ⟨w.heap.size + 1, 1, none⟩ = some (.bool false) := (hc4 _ _ (by (try simp); omega)).trans (k3_1)
  have k4_2 : w4.cell? ⟨w.heap.size + 1, 2, none⟩ = some (.int .i64 0) := (hc4 _ _ (by (try simp); omega)).trans (k3_2)
  have m4 : ∀ o, w4.frozen? ⟨w.heap.size + 1, o, none⟩ = false := fun o => (hf4 _ _ (by (try simp); omega)).trans (m3 o)
  clear hc4 hf4
  go_wp2_with fail
  refine (placeLog t p s u 0 _).mono ?_
  rw [LW.out]
  rintro e w5 ⟨rfl, hb5⟩
  obtain ⟨hc5, hf5, hz5⟩ := after hb5
  simp at hz5
  have n0 : w5.cell? ⟨w4.heap.size, 0, none⟩ = some (.int .u32 st) := by rw [hc5 _ _ (by simp)]; exact cellNew rfl rfl
  have n1 : w5.cell? ⟨w4.heap.size, 1, none⟩ = some (.bool ob) := by rw [hc5 _ _ (by simp)]; exact cellNew rfl rfl
  have n2 : w5.cell? ⟨w4.heap.size, 2, none⟩ = some (.int .i64 (c : Int)) := by rw [hc5 _ _ (by simp)]; exact cellNew rfl rfl
  have zn : w4.heap.size < w5.heap.size := by omega
  have z5 : w.heap.size < w5.heap.size := by omega
  have z5' : w.heap.size + 1 < w5.heap.size := by omega
  have hB5 : Below w.heap.size w w5 := (hB4.alloc (by omega) _).trans (hb5.mono (by (try simp); omega))
  have c5_0 : w5.cell? ⟨w.heap.size, 0, none⟩ = some (.int .i64 t) := (hc5 _ _ (by (try simp); omega)).trans (cellOld (by omega) c4_0)
  have c5_1 : w5.cell? ⟨w.heap.size, 1, none⟩ = some (.int .i64 p) := (hc5 _ _ (by (try simp); omega)).trans (cellOld (by omega) c4_1)
  have c5_2 : w5.cell? ⟨w.heap.size, 2, none⟩ = some (.int .i64 s) := (hc5 _ _ (by (try simp); omega)).trans (cellOld (by omega) c4_2)
  have k5_0 : w5.cell? ⟨w.heap.size + 1, 0, none⟩ = some (.int .u32 0) := (hc5 _ _ (by (try simp); omega)).trans (cellOld (by omega) k4_0)
  have k5_1 : w5.cell? ⟨w.heap.size + 1, 1, none⟩ = some (.bool false) := (hc5 _ _ (by (try simp); omega)).trans (cellOld (by omega) k4_1)
  have k5_2 : w5.cell? ⟨w.heap.size + 1, 2, none⟩ = some (.int .i64 0) := (hc5 _ _ (by (try simp); omega)).trans (cellOld (by omega) k4_2)
  have m5 : ∀ o, w5.frozen? ⟨w.heap.size + 1, o, none⟩ = false := fun o => (hf5 _ _ (by (try simp); omega)).trans ((frozen?_alloc_cells _ _ _ _).trans (m4 o))
  clear hc5 hf5
  have wr1 : IntKind.i64.wrap ((li : Int) + (c : Int)) = (li : Int) + (c : Int) := IntWalk.i64_in _ (by omega)
  have j1 : (0 : Int) ≤ (li : Int) + (c : Int) := by omega
  have j2 : (li : Int) ≤ (li : Int) + (c : Int) := by omega
  have j3 : (li : Int) + (c : Int) ≤ (cap : Int) := by omega
  have j4 : (li : Int) + (c : Int) ≤ (len : Int) := by omega
  have HR := hid HO.out.1
  obtain ⟨oo, hoo, hsl⟩ := slice3 b0 off len cap li c (by omega)
  have hsw : Seen .u64 w5.drew (some ⟨b0, oo, none⟩) c c (logXs t p u ws) := by
    rcases hoo with rfl | h0
    · exact hsd.below hB5.drew
    · subst h0
      obtain ⟨g1, _⟩ := hsd
      rw [List.length_eq_zero_iff.1 g1]
      exact Seen.empty _ _ _ _ (by omega) (fun h => by cases h)
  clear hoo j1 j2 j3 j4 i4
  go_wp2_with fail
  go_region_held3 (fun w' => (w'.cell? ⟨w.heap.size, 0, none⟩ = some (.int .i64 t) ∧ w'.cell? ⟨w.heap.size, 1, none⟩ = some (.int .i64 p) ∧ w'.cell? ⟨w.heap.size, 2, none⟩ = some (.int .i64 s)) ∧ w'.cell? ⟨w4.heap.size, 2, none⟩ = some (.int .i64 (c : Int)))
    (((go_split_ands); (try dsimp only); (repeat' apply And.intro); (all_goals first | assumption | go_keep)))
    (first
      | (go_at_call 42; refine (redoEntriesYes t p s _ _ c c (logXs t p u ws) HR.out hsw hfx hn HE.out).mono ?_; rintro e w6 ⟨⟨v, rfl, ho6⟩, hb6⟩; have c6_0 : w6.cell? ⟨w.heap.size, 0, none⟩ = some (.int .i64 t) := (hb6.cell (p := ⟨w.heap.size, 0, none⟩) z5).trans c5_0; have c6_1 : w6.cell? ⟨w.heap.size, 1, none⟩ = some (.int .i64 p) := (hb6.cell (p := ⟨w.heap.size, 1, none⟩) z5).trans c5_1; have c6_2 : w6.cell? ⟨w.heap.size, 2, none⟩ = some (.int .i64 s) := (hb6.cell (p := ⟨w.heap.size, 2, none⟩) z5).trans c5_2; have n6 : w6.cell? ⟨w4.heap.size, 2, none⟩ = some (.int .i64 (c : Int)) := (hb6.cell (p := ⟨w4.heap.size, 2, none⟩) zn).trans n2))
  all_goals
    have z6 : w.heap.size < w6.heap.size := by have := hb6.size; simp at this; omega
    have z6' : w.heap.size + 1 < w6.heap.size := by have := hb6.size; simp at this; omega
    have k6_0 : w6.cell? ⟨w.heap.size + 1, 0, none⟩ = some (.int .u32 0) := (hb6.cell (p := ⟨w.heap.size + 1, 0, none⟩) z5').trans k5_0
    have k6_1 : w6.cell? ⟨w.heap.size + 1, 1, none⟩ = some (.bool false) := (hb6.cell (p := ⟨w.heap.size + 1, 1, none⟩) z5').trans k5_1
    have k6_2 : w6.cell? ⟨w.heap.size + 1, 2, none⟩ = some (.int .i64 0) := (hb6.cell (p := ⟨w.heap.size + 1, 2, none⟩) z5').trans k5_2
    have m6 : ∀ o, w6.frozen? ⟨w.heap.size + 1, o, none⟩ = false := fun o => (hb6.frozen (p := ⟨w.heap.size + 1, o, none⟩) z5').trans (m5 o)
    have hB6 : Below w.heap.size w w6 := hB5.drew.trans (hb6.mono (by simp; omega))
    have n6_0 : w6.cell? ⟨w4.heap.size, 0, none⟩ = some (.int .u32 st) := (hb6.cell (p := ⟨w4.heap.size, 0, none⟩) zn).trans n0
    have n6_1 : w6.cell? ⟨w4.heap.size, 1, none⟩ = some (.bool ob) := (hb6.cell (p := ⟨w4.heap.size, 1, none⟩) zn).trans n1
    clear hb6 hsl
    go_wp2_with fail
    exact bodyPost_ret (v := .tuple #[.agg #[.int .u32 st, .bool ob, .int .i64 (c : Int)], v, .bool true]) (by simp [results, Try.results12, go_sem, k6_0, k6_1, k6_2, z6, z6']) rfl (.inl ⟨G.out, v, by rw [ST.out, OB.out, XX.out, ← EC.out], (((ho6.other (by simp; omega) _ _).other (by simp; omega) _ _).other (by simp; omega) _ _).rebase (by simp; omega), bel⟩)
end Go.Proofs.Ytkkhoiahjmfibaa
