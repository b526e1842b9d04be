/- The walk of the reference's Resolve, of layer 28: an operation that is done. -/
import Derived.Test.YtkkhoiahjmfibaaRefTidy
import Derived.Test.YtkkhoiahjmfibaaRef28b
import Derived.Test.YtkkhoiahjmfibaaCall5
import Derived.StillTailTactics
namespace Go.Proofs.Ytkkhoiahjmfibaa
open Go.RowKit
set_option linter.unusedVariables false
set_option linter.unusedSimpArgs false

theorem valsOf_succ (k : Nat) (ws : List Nat) : valsOf (k + 1) ws = valsOf k ws ++ [(ws[16 + k]?.getD 0) % 4294967296] := by
  simp [valsOf, List.range_succ]
set_option maxRecDepth 100000 in
set_option maxHeartbeats 1600000 in
theorem refVals27 (t p s : Int) (w : World) (a : Option Addr) (len cap : Nat) (ws : List Nat) (hs : Seen .u64 w a len cap ws) (hf : Fit 18446744073709551616 ws) (ho : okW t p s len) :
    Calls Try.prog 103 #[.agg #[.int .i64 t, .int .i64 p, .int .i64 s], .slice a len cap] w fun e w' => ∃ a m cap, e = .returned (.slice a m cap) ∧ Own 25 .u32 w' w.heap.size (.slice a m cap) (valsOf (cellsN t p).toNat ws) ∧ Below w.heap.size w w' := by
  have hlc := hs.2.1
  have hlm : cap ≤ maxLen := hs.2.2.1
  obtain ⟨ew, hl1, hl2⟩ := okW_words ho
  obtain ⟨⟨g1, g2⟩, ⟨g3, g4⟩, g5, g6⟩ := rightC_of ho.1
  have mb := makers_bd ⟨⟨g1, g2⟩, g3, g4⟩
  obtain ⟨N, hN⟩ := Int.eq_ofNat_of_zero_le (show 0 ≤ cellsN t p by unfold cellsN; omega)
  have hwl := ho.2
  have hN16 : 16 + N ≤ len := by omega
  have PC := hidAll fun w => by have h := refCells t p s w; rw [show cellsC t p s = (N : Int) by rw [cellsC, ho.1, ← hN]; rfl] at h; exact h
  rw [show (cellsN t p).toNat = N by omega]
  have HF := hid hf
  have HVL := hidAll fun k => valsOf_length k ws
  have HVS := hidAll fun k => valsOf_succ k ws
  obtain ⟨_, _, _, h4⟩ := id hs
  rcases h4 with ⟨h4, _⟩ | ⟨b0, off, rfl, hc⟩
  · omega
  have CA := hidAll fun (k : Nat) (hk : k < N) => (show w.cell? ⟨b0, off + (16 + k), none⟩ = some (.int .u64 ((ws[16 + k]?.getD 0 : Nat) : Int)) from hc (16 + k) (by omega))
  have hb0 : b0 < w.heap.size := World.block_lt_of_cell? w _ (hc 0 (by omega))
  clear hs hf ho hc ew g1 g2 g3 g4 g5 g6 mb hwl hN
  go_enter Try.func103, Try.ntmps103
  go_wp2_with fail
  have hV0 : Own 25 .u32 ((w.alloc (.cells #[.int .i64 t, .int .i64 p, .int .i64 s] 23)).alloc (.cells #[] 25)) (w.heap.size + 1) (.slice (some ⟨w.heap.size + 1, 0, none⟩) 0 0) (valsOf 0 ws) := by
    have h := Own.built 25 .u32 (w.alloc (.cells #[.int .i64 t, .int .i64 p, .int .i64 s] 23)) (w.heap.size + 1) [] #[] 0 (by simp) rfl (by decide) rfl
    rw [show valsOf 0 ws = [] from rfl]
    simpa using h
  have hB0 : Below (w.heap.size + 1) (w.alloc (.cells #[.int .i64 t, .int .i64 p, .int .i64 s] 23)) ((w.alloc (.cells #[.int .i64 t, .int .i64 p, .int .i64 s] 23)).alloc (.cells #[] 25)) := (Below.refl _ _).alloc (by simp) _
  go_loopw [6, 5] (fun i v wr => ∃ k : Nat, k ≤ N ∧ i = .int .i64 k ∧ Own 25 .u32 wr (w.heap.size + 1) v (valsOf k ws) ∧ Below (w.heap.size + 1) (w.alloc (.cells #[.int .i64 t, .int .i64 p, .int .i64 s] 23)) wr) (fun i _ _ => N - (intOf i).toNat)
  case atStart => exact ⟨0, by omega, rfl, hV0, hB0⟩
  case round =>
    obtain ⟨k, hk, rfl, hO, hB⟩ := hrel
    obtain ⟨a', cap', hv⟩ := hO.anyForm
    rw [HVL.out] at hv
    subst hv
    have zr : w.heap.size < wr.heap.size := by have := hB.size; simp at this; omega
    have hBr : Below w.heap.size w wr := ((Below.refl _ _).alloc (Nat.le_refl _) _).trans (hB.mono (by omega))
    have q0 : wr.cell? ⟨w.heap.size, 0, none⟩ = some (.int .i64 t) := (hB.cell (p := ⟨w.heap.size, 0, none⟩) (Nat.lt_succ_self _)).trans (cellNew rfl rfl)
    have q1 : wr.cell? ⟨w.heap.size, 1, none⟩ = some (.int .i64 p) := (hB.cell (p := ⟨w.heap.size, 1, none⟩) (Nat.lt_succ_self _)).trans (cellNew rfl rfl)
    have q2 : wr.cell? ⟨w.heap.size, 2, none⟩ = some (.int .i64 s) := (hB.cell (p := ⟨w.heap.size, 2, none⟩) (Nat.lt_succ_self _)).trans (cellNew rfl rfl)
    clear hV0 hB0
    by_cases hlt : k < N
    · have ck := CA.out k hlt
      have hx : ws[16 + k]?.getD 0 < 18446744073709551616 := HF.out.getD (by omega) _
      have vs := hid (HVS.out k)
      generalize ws[16 + k]?.getD 0 = x at ck hx vs
      have i0 : (0 : Int) ≤ 16 + (k : Int) := by omega
      have i1 : 16 + (k : Int) < (len : Int) := by omega
      have tn : (16 + (k : Int)).toNat = 16 + k := by omega
      have wp : IntKind.i64.wrap (16 + (k : Int)) = 16 + (k : Int) := IntWalk.i64_in _ (by omega)
      go_wp2_with fail
      refine (PC.out _).mono ?_
      rintro e wA ⟨rfl, hbA⟩
      have hBA := hB.trans (hbA.mono (by have := hB.size; simp at this; omega))
      have hOA := hO.kept hbA (Nat.le_refl _)
      have ckA := (hbA.cell (p := ⟨b0, off + (16 + k), none⟩) (by show b0 < wr.heap.size; omega)).trans ((hBr.cell (p := ⟨b0, off + (16 + k), none⟩) hb0).trans ck)
      have zA : w.heap.size + 1 ≤ wA.heap.size := by have := hbA.size; omega
      clear hbA hO hB q0 q1 q2 ck
      go_wp2_with fail
      refine (refLo x _ (by omega) (by omega)).mono ?_
      rintro e _ ⟨rfl, rfl⟩
      have hsx : Seen .u32 (wA.alloc (.cells #[.int .u32 ((x : Int) % 4294967296)] 25)) (some ⟨wA.heap.size, 0, none⟩) 1 1 [x % 4294967296] := Seen.built .u32 wA [x % 4294967296] _ _ 1 rfl (by decide) (by simp)
      go_wp2_with (at_builtin; refine wpAppend rfl (.tmp 14) (.tmp 21) 41 25 rfl .u32 (.int .u32 0) 4 Try.underlying41 infoU32 rfl _ (w.heap.size + 1) _ (valsOf k ws) rfl (hOA.kept ((Below.refl _ _).alloc (Nat.le_refl _) _) (Nat.le_refl _)) _ _ _ [x % 4294967296] rfl hsx (by rw [HVL.out]; unfold maxLen; first | omega | (simp; omega)) (by rw [HVL.out]; first | omega | (simp; omega)) (by first | omega | (simp; omega)) ?_; intro v' w3 ho3 hg3; have hB3 := (hBA.alloc (by omega) (.cells #[.int .u32 ((x : Int) % 4294967296)] 25)).grown hg3 (by simp; omega) (by intro j hj; exact (World.ownsRow.lt hOA j hj).1); rw [← vs.out] at ho3)
      go_roundw
      case rel => exact ⟨k + 1, by omega, by go_num, ho3, hB3⟩
      case measure => simp [intOf]; omega
    · obtain rfl : k = N := by omega
      go_wp2_with fail
      refine (PC.out _).mono ?_
      rintro e wA ⟨rfl, hbA⟩
      have hOA := hO.kept hbA (Nat.le_refl _)
      have hBA : Below w.heap.size w wA := hBr.trans (hbA.mono (by omega))
      clear hbA hO hB hBr
      go_wp2_with fail
      go_ret
      exact ⟨_, _, _, rfl, hOA.rebase (by omega), hBA⟩
theorem refSettle27No (t p s : Int) (w : World) (a : Option Addr) (len cap : Nat) (h : ¬ okW t p s len) :
    Calls Try.prog 72 #[.agg #[.int .i64 t, .int .i64 p, .int .i64 s], .slice a len cap] w (OptPost 25 .u32 w none) := by
  have HO := hid h
  clear h
  go_enter Try.func72, Try.ntmps72
  go_wp2_with fail
  refine (refTidyNo t p s _ a len cap HO.out).mono ?_
  rintro e w1 (⟨r, h, _⟩ | ⟨_, rfl, hb1⟩)
  · cases h
  go_wp2_with fail
  go_ret2
  exact .inr ⟨rfl, rfl, bel⟩
theorem refSettle27 (t p s : Int) (w : World) (a : Option Addr) (len cap : Nat) (ws : List Nat) (hs : Seen .u64 w a len cap ws) (hf : Fit 18446744073709551616 ws) (ho : okW t p s len) :
    Calls Try.prog 72 #[.agg #[.int .i64 t, .int .i64 p, .int .i64 s], .slice a len cap] w (OptPost 25 .u32 w (settleO t p ws)) := by
  have HS := hid hs
  have HF := hid hf
  have HO := hid ho
  have HL := hid hs.1
  clear hs hf ho
  go_enter Try.func72, Try.ntmps72
  go_wp2_with fail
  refine (refTidyYes t p s _ a len cap ws (HS.out.below bel) HF.out HO.out).mono ?_
  rintro e w1 (⟨xs, hx, a1, m1, cap1, rfl, ho1, hb1⟩ | ⟨hno, rfl, hb1⟩)
  · obtain ⟨vs, x', h1, h2, h3, h4⟩ : ∃ a x, settleO t p ws = some a ∧ tidyO t p ws = some x ∧ a.length = (cellsN t p).toNat ∧ x.length = ws.length := by
      rcases settleTidy (t := t) (p := p) (ws := ws) with ⟨_, h2⟩ | h
      · rw [h2] at hx; cases hx
      · exact h
    rw [hx] at h2
    cases h2
    have TV := (tidied HO.out HL.out hx h1).vals
    have hm : m1 = len := by obtain ⟨a', c', h⟩ := ho1.anyForm; cases h; rw [h4, HL.out]
    subst hm
    have FX := hid (tidyO_fit hx HF.out)
    have SO := hid h1
    have TVH := hid TV
    have z1 : w.heap.size < w1.heap.size := by have := hb1.size; simp at this; omega
    have hB1 : Below w.heap.size w w1 := bel
    have q0 : w1.cell? ⟨w.heap.size, 0, none⟩ = some (.int .i64 t) := (hb1.cell (p := ⟨w.heap.size, 0, none⟩) (by simp)).trans (cellNew rfl rfl)
    have q1 : w1.cell? ⟨w.heap.size, 1, none⟩ = some (.int .i64 p) := (hb1.cell (p := ⟨w.heap.size, 1, none⟩) (by simp)).trans (cellNew rfl rfl)
    have q2 : w1.cell? ⟨w.heap.size, 2, none⟩ = some (.int .i64 s) := (hb1.cell (p := ⟨w.heap.size, 2, none⟩) (by simp)).trans (cellNew rfl rfl)
    have hs1 := ho1.seen
    clear hb1 ho1 h1 h3 h4 hx TV
    go_wp2_with fail
    refine (refVals27 t p s _ a1 m1 cap1 xs hs1 FX.out HO.out).mono ?_
    rw [TVH.out]
    rintro e w2 ⟨a2, m2, cap2, rfl, ho2, hb2⟩
    have ho3 := ho2.rebase (base' := w.heap.size) (by omega)
    have hB2 : Below w.heap.size w w2 := hB1.trans (hb2.mono (by omega))
    clear hb2 ho2 hB1
    go_wp2_with fail
    go_ret2
    exact .inl ⟨_, SO.out, _, _, _, rfl, ho3, hB2⟩
  · have NO := hid (show settleO t p ws = none by
      rcases settleTidy (t := t) (p := p) (ws := ws) with ⟨h, _⟩ | ⟨a', x', _, h2, _⟩
      · exact h
      · rw [h2] at hno; cases hno)
    have hB1 : Below w.heap.size w w1 := bel
    clear hb1 hno
    go_wp2_with fail
    go_ret2
    exact .inr ⟨NO.out, rfl, hB1⟩
end Go.Proofs.Ytkkhoiahjmfibaa

namespace Go.Proofs.Ytkkhoiahjmfibaa
open Go.RowKit
set_option linter.unusedVariables false
set_option linter.unusedSimpArgs false

set_option maxHeartbeats 3200000 in
theorem refResolveOut (t p s u : Int) (w : World) (a : Option Addr) (len cap : Nat) (ws : List Nat) (num : Int) (hl : len ≤ cap ∧ cap ≤ maxLen) (h : ¬ (okW t p s len ∧ 0 ≤ u ∧ u < t)) :
    Calls Try.prog 32 #[.agg #[.int .i64 t, .int .i64 p, .int .i64 s], .slice a len cap, .int .i64 u, .int .i64 num] w fun e w' => e = .returned (.agg #[.int .i64 0, .int .i64 0, .int .i64 0, .int .i64 0, .int .i64 0, .int .i64 0, .int .i64 0]) ∧ Below w.heap.size w w' := by
  have H := hid h
  have HL := hid hl
  clear h hl
  go_enter Try.func32, Try.ntmps32
  go_wp2_with fail
  refine (refLastNo t p s u _ a len cap ws HL.out H.out).mono ?_
  rintro e w1 ⟨rfl, hb1⟩
  have hC1 : Below (w.heap.size + 2) ((w.alloc (.cells #[.int .i64 t, .int .i64 p, .int .i64 s] 23)).alloc (.cells #[.int .i64 0, .int .i64 0, .int .i64 0, .int .i64 0, .int .i64 0, .int .i64 0, .int .i64 0] 68)) w1 := hb1.mono (by simp)
  have z1 : w.heap.size < w1.heap.size := by have := hb1.size; simp at this; omega
  have z1' : w.heap.size + 1 < w1.heap.size := by have := hb1.size; simp at this; omega
  have hB1 : Below w.heap.size w w1 := bel
  have q0 : w1.cell? ⟨w.heap.size, 0, none⟩ = some (.int .i64 t) := (hC1.cell (p := ⟨w.heap.size, 0, none⟩) (by first | omega | (simp; done) | (simp; omega))).trans (cellOld (by simp) (cellNew rfl rfl))
  have q1 : w1.cell? ⟨w.heap.size, 1, none⟩ = some (.int .i64 p) := (hC1.cell (p := ⟨w.heap.size, 1, none⟩) (by first | omega | (simp; done) | (simp; omega))).trans (cellOld (by simp) (cellNew rfl rfl))
  have q2 : w1.cell? ⟨w.heap.size, 2, none⟩ = some (.int .i64 s) := (hC1.cell (p := ⟨w.heap.size, 2, none⟩) (by first | omega | (simp; done) | (simp; omega))).trans (cellOld (by simp) (cellNew rfl rfl))
  have r0 : w1.cell? ⟨w.heap.size + 1, 0, none⟩ = some (.int .i64 0) := (hC1.cell (p := ⟨w.heap.size + 1, 0, none⟩) (by first | omega | (simp; done) | (simp; omega))).trans (cellNew (by simp) rfl)
  have r1 : w1.cell? ⟨w.heap.size + 1, 1, none⟩ = some (.int .i64 0) := (hC1.cell (p := ⟨w.heap.size + 1, 1, none⟩) (by first | omega | (simp; done) | (simp; omega))).trans (cellNew (by simp) rfl)
  have r2 : w1.cell? ⟨w.heap.size + 1, 2, none⟩ = some (.int .i64 0) := (hC1.cell (p := ⟨w.heap.size + 1, 2, none⟩) (by first | omega | (simp; done) | (simp; omega))).trans (cellNew (by simp) rfl)
  have r3 : w1.cell? ⟨w.heap.size + 1, 3, none⟩ = some (.int .i64 0) := (hC1.cell (p := ⟨w.heap.size + 1, 3, none⟩) (by first | omega | (simp; done) | (simp; omega))).trans (cellNew (by simp) rfl)
  have r4 : w1.cell? ⟨w.heap.size + 1, 4, none⟩ = some (.int .i64 0) := (hC1.cell (p := ⟨w.heap.size + 1, 4, none⟩) (by first | omega | (simp; done) | (simp; omega))).trans (cellNew (by simp) rfl)
  have r5 : w1.cell? ⟨w.heap.size + 1, 5, none⟩ = some (.int .i64 0) := (hC1.cell (p := ⟨w.heap.size + 1, 5, none⟩) (by first | omega | (simp; done) | (simp; omega))).trans (cellNew (by simp) rfl)
  have r6 : w1.cell? ⟨w.heap.size + 1, 6, none⟩ = some (.int .i64 0) := (hC1.cell (p := ⟨w.heap.size + 1, 6, none⟩) (by first | omega | (simp; done) | (simp; omega))).trans (cellNew (by simp) rfl)
  have mm : ∀ o, w1.frozen? ⟨w.heap.size + 1, o, none⟩ = false := by intro o; rw [hC1.frozen (p := ⟨w.heap.size + 1, o, none⟩) (by first | omega | (simp; done) | (simp; omega)), frozen?_alloc_cells, frozen?_alloc_cells]; simp [World.frozen?]
  clear hb1 hC1
  go_wp2_with fail
  exact bodyPost_ret (v := .agg #[.int .i64 0, .int .i64 0, .int .i64 0, .int .i64 0, .int .i64 0, .int .i64 0, .int .i64 0]) (by simp [results, Try.results32, go_sem, r0, r1, r2, r3, r4, r5, r6, z1, z1']) rfl ⟨rfl, (((((((hB1.setCell (by show w.heap.size ≤ w.heap.size + 1; omega) _).setCell (by show w.heap.size ≤ w.heap.size + 1; omega) _).setCell (by show w.heap.size ≤ w.heap.size + 1; omega) _).setCell (by show w.heap.size ≤ w.heap.size + 1; omega) _).setCell (by show w.heap.size ≤ w.heap.size + 1; omega) _).setCell (by show w.heap.size ≤ w.heap.size + 1; omega) _).setCell (by show w.heap.size ≤ w.heap.size + 1; omega) _)⟩

set_option maxHeartbeats 3200000 in
theorem refResolveOther (t p s u : Int) (w : World) (a : Option Addr) (len cap : Nat) (ws : List Nat) (num : Int) (hs : Seen .u64 w a len cap ws) (ho : okW t p s len) (h0 : 0 ≤ u) (h1 : u < t) (hn : num < 1 ∨ num ≠ (lastN t p u ws : Int)) :
    Calls Try.prog 32 #[.agg #[.int .i64 t, .int .i64 p, .int .i64 s], .slice a len cap, .int .i64 u, .int .i64 num] w fun e w' => e = .returned (.agg #[.int .i64 0, .int .i64 0, .int .i64 0, .int .i64 0, .int .i64 0, .int .i64 0, .int .i64 0]) ∧ Below w.heap.size w w' := by
  have HS := hid hs
  have HO := hid ho
  clear hs ho
  by_cases g1 : num < 1
  · clear hn
    go_enter Try.func32, Try.ntmps32
    go_wp2_with fail
    refine (refLastYes t p s u _ a len cap ws (HS.out.below bel) HO.out h0 h1).mono ?_
    rintro e w1 ⟨rfl, hb1⟩
    have hC1 : Below (w.heap.size + 2) ((w.alloc (.cells #[.int .i64 t, .int .i64 p, .int .i64 s] 23)).alloc (.cells #[.int .i64 0, .int .i64 0, .int .i64 0, .int .i64 0, .int .i64 0, .int .i64 0, .int .i64 0] 68)) w1 := hb1.mono (by simp)
    have z1 : w.heap.size < w1.heap.size := by have := hb1.size; simp at this; omega
    have z1' : w.heap.size + 1 < w1.heap.size := by have := hb1.size; simp at this; omega
    have hB1 : Below w.heap.size w w1 := bel
    have q0 : w1.cell? ⟨w.heap.size, 0, none⟩ = some (.int .i64 t) := (hC1.cell (p := ⟨w.heap.size, 0, none⟩) (by first | omega | (simp; done) | (simp; omega))).trans (cellOld (by simp) (cellNew rfl rfl))
    have q1 : w1.cell? ⟨w.heap.size, 1, none⟩ = some (.int .i64 p) := (hC1.cell (p := ⟨w.heap.size, 1, none⟩) (by first | omega | (simp; done) | (simp; omega))).trans (cellOld (by simp) (cellNew rfl rfl))
    have q2 : w1.cell? ⟨w.heap.size, 2, none⟩ = some (.int .i64 s) := (hC1.cell (p := ⟨w.heap.size, 2, none⟩) (by first | omega | (simp; done) | (simp; omega))).trans (cellOld (by simp) (cellNew rfl rfl))
    have r0 : w1.cell? ⟨w.heap.size + 1, 0, none⟩ = some (.int .i64 0) := (hC1.cell (p := ⟨w.heap.size + 1, 0, none⟩) (by first | omega | (simp; done) | (simp; omega))).trans (cellNew (by simp) rfl)
    have r1 : w1.cell? ⟨w.heap.size + 1, 1, none⟩ = some (.int .i64 0) := (hC1.cell (p := ⟨w.heap.size + 1, 1, none⟩) (by first | omega | (simp; done) | (simp; omega))).trans (cellNew (by simp) rfl)
    have r2 : w1.cell? ⟨w.heap.size + 1, 2, none⟩ = some (.int .i64 0) := (hC1.cell (p := ⟨w.heap.size + 1, 2, none⟩) (by first | omega | (simp; done) | (simp; omega))).trans (cellNew (by simp) rfl)
    have r3 : w1.cell? ⟨w.heap.size + 1, 3, none⟩ = some (.int .i64 0) := (hC1.cell (p := ⟨w.heap.size + 1, 3, none⟩) (by first | omega | (simp; done) | (simp; omega))).trans (cellNew (by simp) rfl)
    have r4 : w1.cell? ⟨w.heap.size + 1, 4, none⟩ = some (.int .i64 0) := (hC1.cell (p := ⟨w.heap.size + 1, 4, none⟩) (by first | omega | (simp; done) | (simp; omega))).trans (cellNew (by simp) rfl)
    have r5 : w1.cell? ⟨w.heap.size + 1, 5, none⟩ = some (.int .i64 0) := (hC1.cell (p := ⟨w.heap.size + 1, 5, none⟩) (by first | omega | (simp; done) | (simp; omega))).trans (cellNew (by simp) rfl)
    have r6 : w1.cell? ⟨w.heap.size + 1, 6, none⟩ = some (.int .i64 0) := (hC1.cell (p := ⟨w.heap.size + 1, 6, none⟩) (by first | omega | (simp; done) | (simp; omega))).trans (cellNew (by simp) rfl)
    have mm : ∀ o, w1.frozen? ⟨w.heap.size + 1, o, none⟩ = false := by intro o; rw [hC1.frozen (p := ⟨w.heap.size + 1, o, none⟩) (by first | omega | (simp; done) | (simp; omega)), frozen?_alloc_cells, frozen?_alloc_cells]; simp [World.frozen?]
    clear hb1 hC1
    go_wp2_with fail
    exact bodyPost_ret (v := .agg #[.int .i64 0, .int .i64 0, .int .i64 0, .int .i64 0, .int .i64 0, .int .i64 0, .int .i64 0]) (by simp [results, Try.results32, go_sem, r0, r1, r2, r3, r4, r5, r6, z1, z1']) rfl ⟨rfl, (((((((hB1.setCell (by show w.heap.size ≤ w.heap.size + 1; omega) _).setCell (by show w.heap.size ≤ w.heap.size + 1; omega) _).setCell (by show w.heap.size ≤ w.heap.size + 1; omega) _).setCell (by show w.heap.size ≤ w.heap.size + 1; omega) _).setCell (by show w.heap.size ≤ w.heap.size + 1; omega) _).setCell (by show w.heap.size ≤ w.heap.size + 1; omega) _).setCell (by show w.heap.size ≤ w.heap.size + 1; omega) _)⟩
  · have dn : (num != (lastN t p u ws : Int)) = true := by rw [bne_iff_ne]; omega
    have g2 : 1 ≤ num := by omega
    clear hn g1
    go_enter Try.func32, Try.ntmps32
    go_wp2_with fail
    refine (refLastYes t p s u _ a len cap ws (HS.out.below bel) HO.out h0 h1).mono ?_
    rintro e w1 ⟨rfl, hb1⟩
    have hC1 : Below (w.heap.size + 2) ((w.alloc (.cells #[.int .i64 t, .int .i64 p, .int .i64 s] 23)).alloc (.cells #[.int .i64 0, .int .i64 0, .int .i64 0, .int .i64 0, .int .i64 0, .int .i64 0, .int .i64 0] 68)) w1 := hb1.mono (by simp)
    have z1 : w.heap.size < w1.heap.size := by have := hb1.size; simp at this; omega
    have z1' : w.heap.size + 1 < w1.heap.size := by have := hb1.size; simp at this; omega
    have hB1 : Below w.heap.size w w1 := bel
    have q0 : w1.cell? ⟨w.heap.size, 0, none⟩ = some (.int .i64 t) := (hC1.cell (p := ⟨w.heap.size, 0, none⟩) (by first | omega | (simp; done) | (simp; omega))).trans (cellOld (by simp) (cellNew rfl rfl))
    have q1 : w1.cell? ⟨w.heap.size, 1, none⟩ = some (.int .i64 p) := (hC1.cell (p := ⟨w.heap.size, 1, none⟩) (by first | omega | (simp; done) | (simp; omega))).trans (cellOld (by simp) (cellNew rfl rfl))
    have q2 : w1.cell? ⟨w.heap.size, 2, none⟩ = some (.int .i64 s) := (hC1.cell (p := ⟨w.heap.size, 2, none⟩) (by first | omega | (simp; done) | (simp; omega))).trans (cellOld (by simp) (cellNew rfl rfl))
    have r0 : w1.cell? ⟨w.heap.size + 1, 0, none⟩ = some (.int .i64 0) := (hC1.cell (p := ⟨w.heap.size + 1, 0, none⟩) (by first | omega | (simp; done) | (simp; omega))).trans (cellNew (by simp) rfl)
    have r1 : w1.cell? ⟨w.heap.size + 1, 1, none⟩ = some (.int .i64 0) := (hC1.cell (p := ⟨w.heap.size + 1, 1, none⟩) (by first | omega | (simp; done) | (simp; omega))).trans (cellNew (by simp) rfl)
    have r2 : w1.cell? ⟨w.heap.size + 1, 2, none⟩ = some (.int .i64 0) := (hC1.cell (p := ⟨w.heap.size + 1, 2, none⟩) (by first | omega | (simp; done) | (simp; omega))).trans (cellNew (by simp) rfl)
    have r3 : w1.cell? ⟨w.heap.size + 1, 3, none⟩ = some (.int .i64 0) := (hC1.cell (p := ⟨w.heap.size + 1, 3, none⟩) (by first | omega | (simp; done) | (simp; omega))).trans (cellNew (by simp) rfl)
    have r4 : w1.cell? ⟨w.heap.size + 1, 4, none⟩ = some (.int .i64 0) := (hC1.cell (p := ⟨w.heap.size + 1, 4, none⟩) (by first | omega | (simp; done) | (simp; omega))).trans (cellNew (by simp) rfl)
    have r5 : w1.cell? ⟨w.heap.size + 1, 5, none⟩ = some (.int .i64 0) := (hC1.cell (p := ⟨w.heap.size + 1, 5, none⟩) (by first | omega | (simp; done) | (simp; omega))).trans (cellNew (by simp) rfl)
    have r6 : w1.cell? ⟨w.heap.size + 1, 6, none⟩ = some (.int .i64 0) := (hC1.cell (p := ⟨w.heap.size + 1, 6, none⟩) (by first | omega | (simp; done) | (simp; omega))).trans (cellNew (by simp) rfl)
    have mm : ∀ o, w1.frozen? ⟨w.heap.size + 1, o, none⟩ = false := by intro o; rw [hC1.frozen (p := ⟨w.heap.size + 1, o, none⟩) (by first | omega | (simp; done) | (simp; omega)), frozen?_alloc_cells, frozen?_alloc_cells]; simp [World.frozen?]
    clear hb1 hC1
    go_wp2_with fail
    exact bodyPost_ret (v := .agg #[.int .i64 0, .int .i64 0, .int .i64 0, .int .i64 0, .int .i64 0, .int .i64 0, .int .i64 0]) (by simp [results, Try.results32, go_sem, r0, r1, r2, r3, r4, r5, r6, z1, z1']) rfl ⟨rfl, (((((((hB1.setCell (by show w.heap.size ≤ w.heap.size + 1; omega) _).setCell (by show w.heap.size ≤ w.heap.size + 1; omega) _).setCell (by show w.heap.size ≤ w.heap.size + 1; omega) _).setCell (by show w.heap.size ≤ w.heap.size + 1; omega) _).setCell (by show w.heap.size ≤ w.heap.size + 1; omega) _).setCell (by show w.heap.size ≤ w.heap.size + 1; omega) _).setCell (by show w.heap.size ≤ w.heap.size + 1; omega) _)⟩

set_option maxHeartbeats 3200000 in
theorem refResolveNone (t p s u : Int) (w : World) (a : Option Addr) (len cap : Nat) (ws : List Nat) (num : Int) (SET : RowKit.Hid (∀ w', Below w.heap.size w w' → Calls Try.prog 72 #[.agg #[.int .i64 t, .int .i64 p, .int .i64 s], .slice a len cap] w' (OptPost 25 .u32 w' none))) (hs : Seen .u64 w a len cap ws) (ho : okW t p s len) (h0 : 0 ≤ u) (h1 : u < t) (hn : 1 ≤ num) (hl : num = (lastN t p u ws : Int)) :
    Calls Try.prog 32 #[.agg #[.int .i64 t, .int .i64 p, .int .i64 s], .slice a len cap, .int .i64 u, .int .i64 num] w fun e w' => e = .returned (.agg #[.int .i64 0, .int .i64 0, .int .i64 0, .int .i64 0, .int .i64 0, .int .i64 0, .int .i64 0]) ∧ Below w.heap.size w w' := by
  have HS := hid hs
  have HO := hid ho
  have dn : (num != (lastN t p u ws : Int)) = false := by rw [bne_eq_false_iff_eq]; exact hl
  have g2 : decide (num < 1) = false := by simp; omega
  clear hs ho hl
  go_enter Try.func32, Try.ntmps32
  go_wp2_with fail
  refine (refLastYes t p s u _ a len cap ws (HS.out.below bel) HO.out h0 h1).mono ?_
  rintro e w1 ⟨rfl, hb1⟩
  have hC1 : Below (w.heap.size + 2) ((w.alloc (.cells #[.int .i64 t, .int .i64 p, .int .i64 s] 23)).alloc (.cells #[.int .i64 0, .int .i64 0, .int .i64 0, .int .i64 0, .int .i64 0, .int .i64 0, .int .i64 0] 68)) w1 := hb1.mono (by simp)
  have z1 : w.heap.size < w1.heap.size := by have := hb1.size; simp at this; omega
  have z1' : w.heap.size + 1 < w1.heap.size := by have := hb1.size; simp at this; omega
  have hB1 : Below w.heap.size w w1 := bel
  have q0 : w1.cell? ⟨w.heap.size, 0, none⟩ = some (.int .i64 t) := (hC1.cell (p := ⟨w.heap.size, 0, none⟩) (by first | omega | (simp; done) | (simp; omega))).trans (cellOld (by simp) (cellNew rfl rfl))
  have q1 : w1.cell? ⟨w.heap.size, 1, none⟩ = some (.int .i64 p) := (hC1.cell (p := ⟨w.heap.size, 1, none⟩) (by first | omega | (simp; done) | (simp; omega))).trans (cellOld (by simp) (cellNew rfl rfl))
  have q2 : w1.cell? ⟨w.heap.size, 2, none⟩ = some (.int .i64 s) := (hC1.cell (p := ⟨w.heap.size, 2, none⟩) (by first | omega | (simp; done) | (simp; omega))).trans (cellOld (by simp) (cellNew rfl rfl))
  have r0 : w1.cell? ⟨w.heap.size + 1, 0, none⟩ = some (.int .i64 0) := (hC1.cell (p := ⟨w.heap.size + 1, 0, none⟩) (by first | omega | (simp; done) | (simp; omega))).trans (cellNew (by simp) rfl)
  have r1 : w1.cell? ⟨w.heap.size + 1, 1, none⟩ = some (.int .i64 0) := (hC1.cell (p := ⟨w.heap.size + 1, 1, none⟩) (by first | omega | (simp; done) | (simp; omega))).trans (cellNew (by simp) rfl)
  have r2 : w1.cell? ⟨w.heap.size + 1, 2, none⟩ = some (.int .i64 0) := (hC1.cell (p := ⟨w.heap.size + 1, 2, none⟩) (by first | omega | (simp; done) | (simp; omega))).trans (cellNew (by simp) rfl)
  have r3 : w1.cell? ⟨w.heap.size + 1, 3, none⟩ = some (.int .i64 0) := (hC1.cell (p := ⟨w.heap.size + 1, 3, none⟩) (by first | omega | (simp; done) | (simp; omega))).trans (cellNew (by simp) rfl)
  have r4 : w1.cell? ⟨w.heap.size + 1, 4, none⟩ = some (.int .i64 0) := (hC1.cell (p := ⟨w.heap.size + 1, 4, none⟩) (by first | omega | (simp; done) | (simp; omega))).trans (cellNew (by simp) rfl)
  have r5 : w1.cell? ⟨w.heap.size + 1, 5, none⟩ = some (.int .i64 0) := (hC1.cell (p := ⟨w.heap.size + 1, 5, none⟩) (by first | omega | (simp; done) | (simp; omega))).trans (cellNew (by simp) rfl)
  have r6 : w1.cell? ⟨w.heap.size + 1, 6, none⟩ = some (.int .i64 0) := (hC1.cell (p := ⟨w.heap.size + 1, 6, none⟩) (by first | omega | (simp; done) | (simp; omega))).trans (cellNew (by simp) rfl)
  have mm : ∀ o, w1.frozen? ⟨w.heap.size + 1, o, none⟩ = false := by intro o; rw [hC1.frozen (p := ⟨w.heap.size + 1, o, none⟩) (by first | omega | (simp; done) | (simp; omega)), frozen?_alloc_cells, frozen?_alloc_cells]; simp [World.frozen?]
  clear hb1 hC1
  go_wp2_with fail
  refine (SET.out _ hB1).mono ?_
  rintro e w2 hp2
  obtain ⟨a2, m2, cap2, rfl, ho2, hb2⟩ := hp2.open
  clear hp2
  have z2 : w.heap.size < w2.heap.size := by have := hb2.size; omega
  have z2' : w.heap.size + 1 < w2.heap.size := by have := hb2.size; omega
  have hB2 : Below w.heap.size w w2 := hB1.trans (hb2.mono (by omega))
  have q0 := (hb2.cell (p := ⟨w.heap.size, 0, none⟩) z1).trans q0
  have q1 := (hb2.cell (p := ⟨w.heap.size, 1, none⟩) z1).trans q1
  have q2 := (hb2.cell (p := ⟨w.heap.size, 2, none⟩) z1).trans q2
  have r0 := (hb2.cell (p := ⟨w.heap.size + 1, 0, none⟩) z1').trans r0
  have r1 := (hb2.cell (p := ⟨w.heap.size + 1, 1, none⟩) z1').trans r1
  have r2 := (hb2.cell (p := ⟨w.heap.size + 1, 2, none⟩) z1').trans r2
  have r3 := (hb2.cell (p := ⟨w.heap.size + 1, 3, none⟩) z1').trans r3
  have r4 := (hb2.cell (p := ⟨w.heap.size + 1, 4, none⟩) z1').trans r4
  have r5 := (hb2.cell (p := ⟨w.heap.size + 1, 5, none⟩) z1').trans r5
  have r6 := (hb2.cell (p := ⟨w.heap.size + 1, 6, none⟩) z1').trans r6
  have mm := fun o => (hb2.frozen (p := ⟨w.heap.size + 1, o, none⟩) z1').trans (mm o)
  clear hb2 hB1
  go_wp2_with fail
  exact bodyPost_ret (v := .agg #[.int .i64 0, .int .i64 0, .int .i64 0, .int .i64 0, .int .i64 0, .int .i64 0, .int .i64 0]) (by simp [results, Try.results32, go_sem, r0, r1, r2, r3, r4, r5, r6, z2, z2']) rfl ⟨rfl, (((((((hB2.setCell (by show w.heap.size ≤ w.heap.size + 1; omega) _).setCell (by show w.heap.size ≤ w.heap.size + 1; omega) _).setCell (by show w.heap.size ≤ w.heap.size + 1; omega) _).setCell (by show w.heap.size ≤ w.heap.size + 1; omega) _).setCell (by show w.heap.size ≤ w.heap.size + 1; omega) _).setCell (by show w.heap.size ≤ w.heap.size + 1; omega) _).setCell (by show w.heap.size ≤ w.heap.size + 1; omega) _)⟩

set_option maxRecDepth 100000 in
set_option maxHeartbeats 6400000 in
theorem refResolveNot (t p s u : Int) (w : World) (a : Option Addr) (len cap : Nat) (ws : List Nat) (num : Int) (vs : List Nat) (ok oa ob : Int) (oc : Bool) (SET : RowKit.Hid (∀ w', Below w.heap.size w w' → Calls Try.prog 72 #[.agg #[.int .i64 t, .int .i64 p, .int .i64 s], .slice a len cap] w' (OptPost 25 .u32 w' (some vs)))) (hs : Seen .u64 w a len cap ws) (hfw : Fit 18446744073709551616 ws) (ho : okW t p s len) (h0 : 0 ≤ u) (h1 : u < t) (hn : 1 ≤ num) (hl : num = (lastN t p u ws : Int))
    (hv : (vs.length : Int) = cellsN t p) (hf : Fit 4294967296 vs) (hsv : saidV t p u ws num = .tuple #[.agg #[.int .i64 ok, .int .i64 oa, .int .i64 ob], .bool oc]) (hd : (dvN u vs 0 : Int) ≠ num) :
    Calls Try.prog 32 #[.agg #[.int .i64 t, .int .i64 p, .int .i64 s], .slice a len cap, .int .i64 u, .int .i64 num] w fun e w' => e = .returned (.agg #[.int .i64 1, .int .i64 ok, .int .i64 oa, .int .i64 ob, .int .i64 0, .int .i64 0, .int .i64 0]) ∧ Below w.heap.size w w' := by
  have HS := hid hs
  have HO := hid ho
  have HFW := hid hfw
  have SV := hid hsv
  have dn : (num != (lastN t p u ws : Int)) = false := by rw [bne_eq_false_iff_eq]; exact hl
  have g2 : decide (num < 1) = false := by simp; omega
  have dd : ((dvN u vs 0 : Int) != num) = true := by rw [bne_iff_ne]; exact hd
  obtain ⟨⟨e1, e2⟩, ⟨e3, e4⟩, e5, e6⟩ := rightC_of ho.1
  have cb : cellsN t p = 30 + 4 * t + 6 * p := by unfold cellsN; omega
  obtain ⟨c, hc⟩ : ∃ c : Nat, c = (30 + 4 * u).toNat := ⟨_, rfl⟩
  have hci : (c : Int) = 30 + 4 * u := by omega
  have DW := hid (show doneV t p s u 0 = ((c : Nat) : Int) by rw [doneV, if_pos ⟨ho.1, ⟨h0, by omega⟩, by omega, by omega⟩]; omega)
  obtain ⟨n, hnl⟩ : ∃ n, n = vs.length := ⟨_, rfl⟩
  have hcn : c + 4 ≤ n := by omega
  have hnb : n ≤ 10000 := by omega
  have hf0 : dvN u vs 0 < 4294967296 := hf.getD (by omega) _
  have hf1 : dvN u vs 1 < 4294967296 := hf.getD (by omega) _
  have hf2 : dvN u vs 2 < 4294967296 := hf.getD (by omega) _
  have hf3 : dvN u vs 3 < 4294967296 := hf.getD (by omega) _
  have G := hidAll fun k => (show vs[c + k]?.getD 0 = dvN u vs k by rw [dvN, hc])
  have HNL := hid hnl.symm
  clear hs ho hfw hf hsv hl hd hv hnl hc hci cb e1 e2 e3 e4 e5 e6
  go_enter Try.func32, Try.ntmps32
  go_wp2_with fail
  refine (refLastYes t p s u _ a len cap ws (HS.out.below bel) HO.out h0 h1).mono ?_
  rintro e w1 ⟨rfl, hb1⟩
  have hC1 : Below (w.heap.size + 2) ((w.alloc (.cells #[.int .i64 t, .int .i64 p, .int .i64 s] 23)).alloc (.cells #[.int .i64 0, .int .i64 0, .int .i64 0, .int .i64 0, .int .i64 0, .int .i64 0, .int .i64 0] 68)) w1 := hb1.mono (by simp)
  have z1 : w.heap.size < w1.heap.size := by have := hb1.size; simp at this; omega
  have z1' : w.heap.size + 1 < w1.heap.size := by have := hb1.size; simp at this; omega
  have hB1 : Below w.heap.size w w1 := bel
  have q0 : w1.cell? ⟨w.heap.size, 0, none⟩ = some (.int .i64 t) := (hC1.cell (p := ⟨w.heap.size, 0, none⟩) (by first | omega | (simp; done) | (simp; omega))).trans (cellOld (by simp) (cellNew rfl rfl))
  have q1 : w1.cell? ⟨w.heap.size, 1, none⟩ = some (.int .i64 p) := (hC1.cell (p := ⟨w.heap.size, 1, none⟩) (by first | omega | (simp; done) | (simp; omega))).trans (cellOld (by simp) (cellNew rfl rfl))
  have q2 : w1.cell? ⟨w.heap.size, 2, none⟩ = some (.int .i64 s) := (hC1.cell (p := ⟨w.heap.size, 2, none⟩) (by first | omega | (simp; done) | (simp; omega))).trans (cellOld (by simp) (cellNew rfl rfl))
  have r0 : w1.cell? ⟨w.heap.size + 1, 0, none⟩ = some (.int .i64 0) := (hC1.cell (p := ⟨w.heap.size + 1, 0, none⟩) (by first | omega | (simp; done) | (simp; omega))).trans (cellNew (by simp) rfl)
  have r1 : w1.cell? ⟨w.heap.size + 1, 1, none⟩ = some (.int .i64 0) := (hC1.cell (p := ⟨w.heap.size + 1, 1, none⟩) (by first | omega | (simp; done) | (simp; omega))).trans (cellNew (by simp) rfl)
  have r2 : w1.cell? ⟨w.heap.size + 1, 2, none⟩ = some (.int .i64 0) := (hC1.cell (p := ⟨w.heap.size + 1, 2, none⟩) (by first | omega | (simp; done) | (simp; omega))).trans (cellNew (by simp) rfl)
  have r3 : w1.cell? ⟨w.heap.size + 1, 3, none⟩ = some (.int .i64 0) := (hC1.cell (p := ⟨w.heap.size + 1, 3, none⟩) (by first | omega | (simp; done) | (simp; omega))).trans (cellNew (by simp) rfl)
  have r4 : w1.cell? ⟨w.heap.size + 1, 4, none⟩ = some (.int .i64 0) := (hC1.cell (p := ⟨w.heap.size + 1, 4, none⟩) (by first | omega | (simp; done) | (simp; omega))).trans (cellNew (by simp) rfl)
  have r5 : w1.cell? ⟨w.heap.size + 1, 5, none⟩ = some (.int .i64 0) := (hC1.cell (p := ⟨w.heap.size + 1, 5, none⟩) (by first | omega | (simp; done) | (simp; omega))).trans (cellNew (by simp) rfl)
  have r6 : w1.cell? ⟨w.heap.size + 1, 6, none⟩ = some (.int .i64 0) := (hC1.cell (p := ⟨w.heap.size + 1, 6, none⟩) (by first | omega | (simp; done) | (simp; omega))).trans (cellNew (by simp) rfl)
  have mm : ∀ o, w1.frozen? ⟨w.heap.size + 1, o, none⟩ = false := by intro o; rw [hC1.frozen (p := ⟨w.heap.size + 1, o, none⟩) (by first | omega | (simp; done) | (simp; omega)), frozen?_alloc_cells, frozen?_alloc_cells]; simp [World.frozen?]
  clear hb1 hC1
  go_wp2_with fail
  refine (SET.out _ hB1).mono ?_
  rintro e w2 hp2
  obtain ⟨a2, m2, cap2, rfl, ho2, hb2⟩ := hp2.open
  clear hp2
  have z2 : w.heap.size < w2.heap.size := by have := hb2.size; omega
  have z2' : w.heap.size + 1 < w2.heap.size := by have := hb2.size; omega
  have hB2 : Below w.heap.size w w2 := hB1.trans (hb2.mono (by omega))
  have q0 := (hb2.cell (p := ⟨w.heap.size, 0, none⟩) z1).trans q0
  have q1 := (hb2.cell (p := ⟨w.heap.size, 1, none⟩) z1).trans q1
  have q2 := (hb2.cell (p := ⟨w.heap.size, 2, none⟩) z1).trans q2
  have r0 := (hb2.cell (p := ⟨w.heap.size + 1, 0, none⟩) z1').trans r0
  have r1 := (hb2.cell (p := ⟨w.heap.size + 1, 1, none⟩) z1').trans r1
  have r2 := (hb2.cell (p := ⟨w.heap.size + 1, 2, none⟩) z1').trans r2
  have r3 := (hb2.cell (p := ⟨w.heap.size + 1, 3, none⟩) z1').trans r3
  have r4 := (hb2.cell (p := ⟨w.heap.size + 1, 4, none⟩) z1').trans r4
  have r5 := (hb2.cell (p := ⟨w.heap.size + 1, 5, none⟩) z1').trans r5
  have r6 := (hb2.cell (p := ⟨w.heap.size + 1, 6, none⟩) z1').trans r6
  have mm := fun o => (hb2.frozen (p := ⟨w.heap.size + 1, o, none⟩) z1').trans (mm o)
  clear hb2 hB1
  have ho2 : Own 25 .u32 w2 w1.heap.size (.slice a2 m2 cap2) vs := ho2
  have hm : m2 = n := by obtain ⟨a', c', h⟩ := ho2.anyForm; cases h; exact HNL.out
  subst hm
  obtain ⟨g2v, c2', hg2, hg2a, hg2b, _⟩ := ho2.form (by rw [HNL.out]; omega)
  rw [HNL.out] at hg2
  cases hg2
  have hs2 := HS.out.below hB2
  go_wp2_with fail
  refine (refSaidYes t p s u _ a len cap ws num hs2 HFW.out HO.out h0 h1).mono ?_
  rw [SV.out]
  rintro e w3 ⟨rfl, hb3⟩
  have z3 : w.heap.size < w3.heap.size := by have := hb3.size; omega
  have z3' : w.heap.size + 1 < w3.heap.size := by have := hb3.size; omega
  have hB3 : Below w.heap.size w w3 := hB2.trans (hb3.mono (by omega))
  have q0 := (hb3.cell (p := ⟨w.heap.size, 0, none⟩) z2).trans q0
  have q1 := (hb3.cell (p := ⟨w.heap.size, 1, none⟩) z2).trans q1
  have q2 := (hb3.cell (p := ⟨w.heap.size, 2, none⟩) z2).trans q2
  have r0 := (hb3.cell (p := ⟨w.heap.size + 1, 0, none⟩) z2').trans r0
  have r1 := (hb3.cell (p := ⟨w.heap.size + 1, 1, none⟩) z2').trans r1
  have r2 := (hb3.cell (p := ⟨w.heap.size + 1, 2, none⟩) z2').trans r2
  have r3 := (hb3.cell (p := ⟨w.heap.size + 1, 3, none⟩) z2').trans r3
  have r4 := (hb3.cell (p := ⟨w.heap.size + 1, 4, none⟩) z2').trans r4
  have r5 := (hb3.cell (p := ⟨w.heap.size + 1, 5, none⟩) z2').trans r5
  have r6 := (hb3.cell (p := ⟨w.heap.size + 1, 6, none⟩) z2').trans r6
  have mm := fun o => (hb3.frozen (p := ⟨w.heap.size + 1, o, none⟩) z2').trans (mm o)
  have ho3 := (ho2.kept hb3 (Nat.le_refl _)).kept (B := w3.heap.size) ((Below.refl _ _).alloc (Nat.le_refl _) (.cells #[.int .i64 ok, .int .i64 oa, .int .i64 ob] 55)) (Nat.le_refl _)
  clear hb3 ho2 hs2 hB2
  go_wp2_with fail
  refine (refDone t p s u 0 _).mono ?_
  rw [DW.out]
  rintro e w4 ⟨rfl, hb4⟩
  have hC4 : Below (w3.heap.size + 1) (w3.alloc (.cells #[.int .i64 ok, .int .i64 oa, .int .i64 ob] 55)) w4 := hb4.mono (by simp)
  have z4 : w.heap.size < w4.heap.size := by have := hC4.size; simp at this; omega
  have z4' : w.heap.size + 1 < w4.heap.size := by have := hC4.size; simp at this; omega
  have z4'' : w3.heap.size < w4.heap.size := by have := hC4.size; simp at this; omega
  have hB4 : Below w.heap.size w w4 := (hB3.alloc (by omega) _).trans (hC4.mono (by omega))
  have q0 := (hC4.cell (p := ⟨w.heap.size, 0, none⟩) (by show w.heap.size < w3.heap.size + 1; omega)).trans (cellOld (by omega) q0)
  have q1 := (hC4.cell (p := ⟨w.heap.size, 1, none⟩) (by show w.heap.size < w3.heap.size + 1; omega)).trans (cellOld (by omega) q1)
  have q2 := (hC4.cell (p := ⟨w.heap.size, 2, none⟩) (by show w.heap.size < w3.heap.size + 1; omega)).trans (cellOld (by omega) q2)
  have r0 := (hC4.cell (p := ⟨w.heap.size + 1, 0, none⟩) (by show w.heap.size + 1 < w3.heap.size + 1; omega)).trans (cellOld (by omega) r0)
  have r1 := (hC4.cell (p := ⟨w.heap.size + 1, 1, none⟩) (by show w.heap.size + 1 < w3.heap.size + 1; omega)).trans (cellOld (by omega) r1)
  have r2 := (hC4.cell (p := ⟨w.heap.size + 1, 2, none⟩) (by show w.heap.size + 1 < w3.heap.size + 1; omega)).trans (cellOld (by omega) r2)
  have r3 := (hC4.cell (p := ⟨w.heap.size + 1, 3, none⟩) (by show w.heap.size + 1 < w3.heap.size + 1; omega)).trans (cellOld (by omega) r3)
  have r4 := (hC4.cell (p := ⟨w.heap.size + 1, 4, none⟩) (by show w.heap.size + 1 < w3.heap.size + 1; omega)).trans (cellOld (by omega) r4)
  have r5 := (hC4.cell (p := ⟨w.heap.size + 1, 5, none⟩) (by show w.heap.size + 1 < w3.heap.size + 1; omega)).trans (cellOld (by omega) r5)
  have r6 := (hC4.cell (p := ⟨w.heap.size + 1, 6, none⟩) (by show w.heap.size + 1 < w3.heap.size + 1; omega)).trans (cellOld (by omega) r6)
  have mm := fun o => (hC4.frozen (p := ⟨w.heap.size + 1, o, none⟩) (by show w.heap.size + 1 < w3.heap.size + 1; omega)).trans ((frozen?_alloc_cells _ _ _ _).trans (mm o))
  have o0 : w4.cell? ⟨w3.heap.size, 0, none⟩ = some (.int .i64 ok) := (hC4.cell (p := ⟨w3.heap.size, 0, none⟩) (Nat.lt_succ_self _)).trans (cellNew rfl rfl)
  have o1 : w4.cell? ⟨w3.heap.size, 1, none⟩ = some (.int .i64 oa) := (hC4.cell (p := ⟨w3.heap.size, 1, none⟩) (Nat.lt_succ_self _)).trans (cellNew rfl rfl)
  have o2 : w4.cell? ⟨w3.heap.size, 2, none⟩ = some (.int .i64 ob) := (hC4.cell (p := ⟨w3.heap.size, 2, none⟩) (Nat.lt_succ_self _)).trans (cellNew rfl rfl)
  have ho4 := ho3.kept hb4 (Nat.le_refl _)
  have v0 := ho4.cell HNL.out (c + 0) (by omega)
  have v1 := ho4.cell HNL.out (c + 1) (by omega)
  have v2 := ho4.cell HNL.out (c + 2) (by omega)
  have v3 := ho4.cell HNL.out (c + 3) (by omega)
  rw [G.out] at v0 v1 v2 v3
  rw [Nat.add_zero] at v0
  clear hb4 hC4 ho3 hB3 ho4 G
  generalize hd0 : dvN u vs 0 = d0 at *
  have E0 := hid hd0
  clear hd0
  generalize hd1 : dvN u vs 1 = d1 at *
  have E1 := hid hd1
  clear hd1
  generalize hd2 : dvN u vs 2 = d2 at *
  have E2 := hid hd2
  clear hd2
  generalize hd3 : dvN u vs 3 = d3 at *
  have E3 := hid hd3
  clear hd3
  have i0 : (0 : Int) ≤ (c : Int) := by omega
  have i1 : (c : Int) < (m2 : Int) := by omega
  go_wp2_with fail
  exact bodyPost_ret (v := .agg #[.int .i64 1, .int .i64 ok, .int .i64 oa, .int .i64 ob, .int .i64 0, .int .i64 0, .int .i64 0]) (by simp [results, Try.results32, go_sem, r0, r1, r2, r3, r4, r5, r6, z4, z4']) rfl ⟨rfl, (((((((hB4.setCell (by show w.heap.size ≤ w.heap.size + 1; omega) _).setCell (by show w.heap.size ≤ w.heap.size + 1; omega) _).setCell (by show w.heap.size ≤ w.heap.size + 1; omega) _).setCell (by show w.heap.size ≤ w.heap.size + 1; omega) _).setCell (by show w.heap.size ≤ w.heap.size + 1; omega) _).setCell (by show w.heap.size ≤ w.heap.size + 1; omega) _).setCell (by show w.heap.size ≤ w.heap.size + 1; omega) _)⟩

end Go.Proofs.Ytkkhoiahjmfibaa

namespace Go.Proofs.Ytkkhoiahjmfibaa
open Go.RowKit
set_option linter.unusedVariables false
set_option linter.unusedSimpArgs false

set_option maxRecDepth 100000 in
set_option maxHeartbeats 6400000 in
theorem refResolveDone (t p s u : Int) (w : World) (a : Option Addr) (len cap : Nat) (ws : List Nat) (num : Int) (vs : List Nat) (ok oa ob : Int) (oc : Bool) (SET : RowKit.Hid (∀ w', Below w.heap.size w w' → Calls Try.prog 72 #[.agg #[.int .i64 t, .int .i64 p, .int .i64 s], .slice a len cap] w' (OptPost 25 .u32 w' (some vs)))) (hs : Seen .u64 w a len cap ws) (hfw : Fit 18446744073709551616 ws) (ho : okW t p s len) (h0 : 0 ≤ u) (h1 : u < t) (hn : 1 ≤ num) (hl : num = (lastN t p u ws : Int))
    (hv : (vs.length : Int) = cellsN t p) (hf : Fit 4294967296 vs) (hsv : saidV t p u ws num = .tuple #[.agg #[.int .i64 ok, .int .i64 oa, .int .i64 ob], .bool oc]) (hd : (dvN u vs 0 : Int) = num) :
    Calls Try.prog 32 #[.agg #[.int .i64 t, .int .i64 p, .int .i64 s], .slice a len cap, .int .i64 u, .int .i64 num] w fun e w' => e = .returned (.agg #[.int .i64 2, .int .i64 ok, .int .i64 oa, .int .i64 ob, .int .i64 (dvN u vs 1 : Int), .int .i64 (dvN u vs 2 : Int), .int .i64 (dvN u vs 3 : Int)]) ∧ Below w.heap.size w w' := by
  have HS := hid hs
  have HO := hid ho
  have HFW := hid hfw
  have SV := hid hsv
  have dn : (num != (lastN t p u ws : Int)) = false := by rw [bne_eq_false_iff_eq]; exact hl
  have g2 : decide (num < 1) = false := by simp; omega
  have dd : ((dvN u vs 0 : Int) != num) = false := by rw [bne_eq_false_iff_eq]; exact hd
  obtain ⟨⟨e1, e2⟩, ⟨e3, e4⟩, e5, e6⟩ := rightC_of ho.1
  have cb : cellsN t p = 30 + 4 * t + 6 * p := by unfold cellsN; omega
  obtain ⟨c, hc⟩ : ∃ c : Nat, c = (30 + 4 * u).toNat := ⟨_, rfl⟩
  have hci : (c : Int) = 30 + 4 * u := by omega
  have DW := hid (show doneV t p s u 0 = ((c : Nat) : Int) by rw [doneV, if_pos ⟨ho.1, ⟨h0, by omega⟩, by omega, by omega⟩]; omega)
  obtain ⟨n, hnl⟩ : ∃ n, n = vs.length := ⟨_, rfl⟩
  have hcn : c + 4 ≤ n := by omega
  have hnb : n ≤ 10000 := by omega
  have hf0 : dvN u vs 0 < 4294967296 := hf.getD (by omega) _
  have hf1 : dvN u vs 1 < 4294967296 := hf.getD (by omega) _
  have hf2 : dvN u vs 2 < 4294967296 := hf.getD (by omega) _
  have hf3 : dvN u vs 3 < 4294967296 := hf.getD (by omega) _
  have G := hidAll fun k => (show vs[c + k]?.getD 0 = dvN u vs k by rw [dvN, hc])
  have HNL := hid hnl.symm
  clear hs ho hfw hf hsv hl hd hv hnl hc hci cb e1 e2 e3 e4 e5 e6
  go_enter Try.func32, Try.ntmps32
  go_wp2_with fail
  refine (refLastYes t p s u _ a len cap ws (HS.out.below bel) HO.out h0 h1).mono ?_
  rintro e w1 ⟨rfl, hb1⟩
  have hC1 : Below (w.heap.size + 2) ((w.alloc (.cells #[.int .i64 t, .int .i64 p, .int .i64 s] 23)).alloc (.cells #[.int .i64 0, .int .i64 0, .int .i64 0, .int .i64 0, .int .i64 0, .int .i64 0, .int .i64 0] 68)) w1 := hb1.mono (by simp)
  have z1 : w.heap.size < w1.heap.size := by have := hb1.size; simp at this; omega
  have z1' : w.heap.size + 1 < w1.heap.size := by have := hb1.size; simp at this; omega
  have hB1 : Below w.heap.size w w1 := bel
  have q0 : w1.cell? ⟨w.heap.size, 0, none⟩ = some (.int .i64 t) := (hC1.cell (p := ⟨w.heap.size, 0, none⟩) (by first | omega | (simp; done) | (simp; omega))).trans (cellOld (by simp) (cellNew rfl rfl))
  have q1 : w1.cell? ⟨w.heap.size, 1, none⟩ = some (.int .i64 p) := (hC1.cell (p := ⟨w.heap.size, 1, none⟩) (by first | omega | (simp; done) | (simp; omega))).trans (cellOld (by simp) (cellNew rfl rfl))
  have q2 : w1.cell? ⟨w.heap.size, 2, none⟩ = some (.int .i64 s) := (hC1.cell (p := ⟨w.heap.size, 2, none⟩) (by first | omega | (simp; done) | (simp; omega))).trans (cellOld (by simp) (cellNew rfl rfl))
  have r0 : w1.cell? ⟨w.heap.size + 1, 0, none⟩ = some (.int .i64 0) := (hC1.cell (p := ⟨w.heap.size + 1, 0, none⟩) (by first | omega | (simp; done) | (simp; omega))).trans (cellNew (by simp) rfl)
  have r1 : w1.cell? ⟨w.heap.size + 1, 1, none⟩ = some (.int .i64 0) := (hC1.cell (p := ⟨w.heap.size + 1, 1, none⟩) (by first | omega | (simp; done) | (simp; omega))).trans (cellNew (by simp) rfl)
  have r2 : w1.cell? ⟨w.heap.size + 1, 2, none⟩ = some (.int .i64 0) := (hC1.cell (p := ⟨w.heap.size + 1, 2, none⟩) (by first | omega | (simp; done) | (simp; omega))).trans (cellNew (by simp) rfl)
  have r3 : w1.cell? ⟨w.heap.size + 1, 3, none⟩ = some (.int .i64 0) := (hC1.cell (p := ⟨w.heap.size + 1, 3, none⟩) (by first | omega | (simp; done) | (simp; omega))).trans (cellNew (by simp) rfl)
  have r4 : w1.cell? ⟨w.heap.size + 1, 4, none⟩ = some (.int .i64 0) := (hC1.cell (p := ⟨w.heap.size + 1, 4, none⟩) (by first | omega | (simp; done) | (simp; omega))).trans (cellNew (by simp) rfl)
  have r5 : w1.cell? ⟨w.heap.size + 1, 5, none⟩ = some (.int .i64 0) := (hC1.cell (p := ⟨w.heap.size + 1, 5, none⟩) (by first | omega | (simp; done) | (simp; omega))).trans (cellNew (by simp) rfl)
  have r6 : w1.cell? ⟨w.heap.size + 1, 6, none⟩ = some (.int .i64 0) := (hC1.cell (p := ⟨w.heap.size + 1, 6, none⟩) (by first | omega | (simp; done) | (simp; omega))).trans (cellNew (by simp) rfl)
  have mm : ∀ o, w1.frozen? ⟨w.heap.size + 1, o, none⟩ = false := by intro o; rw [hC1.frozen (p := ⟨w.heap.size + 1, o, none⟩) (by first | omega | (simp; done) | (simp; omega)), frozen?_alloc_cells, frozen?_alloc_cells]; simp [World.frozen?]
  clear hb1 hC1
  go_wp2_with fail
  refine (SET.out _ hB1).mono ?_
  rintro e w2 hp2
  obtain ⟨a2, m2, cap2, rfl, ho2, hb2⟩ := hp2.open
  clear hp2
  have z2 : w.heap.size < w2.heap.size := by have := hb2.size; omega
  have z2' : w.heap.size + 1 < w2.heap.size := by have := hb2.size; omega
  have hB2 : Below w.heap.size w w2 := hB1.trans (hb2.mono (by omega))
  have q0 := (hb2.cell (p := ⟨w.heap.size, 0, none⟩) z1).trans q0
  have q1 := (hb2.cell (p := ⟨w.heap.size, 1, none⟩) z1).trans q1
  have q2 := (hb2.cell (p := ⟨w.heap.size, 2, none⟩) z1).trans q2
  have r0 := (hb2.cell (p := ⟨w.heap.size + 1, 0, none⟩) z1').trans r0
  have r1 := (hb2.cell (p := ⟨w.heap.size + 1, 1, none⟩) z1').trans r1
  have r2 := (hb2.cell (p := ⟨w.heap.size + 1, 2, none⟩) z1').trans r2
  have r3 := (hb2.cell (p := ⟨w.heap.size + 1, 3, none⟩) z1').trans r3
  have r4 := (hb2.cell (p := ⟨w.heap.size + 1, 4, none⟩) z1').trans r4
  have r5 := (hb2.cell (p := ⟨w.heap.size + 1, 5, none⟩) z1').trans r5
  have r6 := (hb2.cell (p := ⟨w.heap.size + 1, 6, none⟩) z1').trans r6
  have mm := fun o => (hb2.frozen (p := ⟨w.heap.size + 1, o, none⟩) z1').trans (mm o)
  clear hb2 hB1
  have ho2 : Own 25 .u32 w2 w1.heap.size (.slice a2 m2 cap2) vs := ho2
  have hm : m2 = n := by obtain ⟨a', c', h⟩ := ho2.anyForm; cases h; exact HNL.out
  subst hm
  obtain ⟨g2v, c2', hg2, hg2a, hg2b, _⟩ := ho2.form (by rw [HNL.out]; omega)
  rw [HNL.out] at hg2
  cases hg2
  have hs2 := HS.out.below hB2
  go_wp2_with fail
  refine (refSaidYes t p s u _ a len cap ws num hs2 HFW.out HO.out h0 h1).mono ?_
  rw [SV.out]
  rintro e w3 ⟨rfl, hb3⟩
  have z3 : w.heap.size < w3.heap.size := by have := hb3.size; omega
  have z3' : w.heap.size + 1 < w3.heap.size := by have := hb3.size; omega
  have hB3 : Below w.heap.size w w3 := hB2.trans (hb3.mono (by omega))
  have q0 := (hb3.cell (p := ⟨w.heap.size, 0, none⟩) z2).trans q0
  have q1 := (hb3.cell (p := ⟨w.heap.size, 1, none⟩) z2).trans q1
  have q2 := (hb3.cell (p := ⟨w.heap.size, 2, none⟩) z2).trans q2
  have r0 := (hb3.cell (p := ⟨w.heap.size + 1, 0, none⟩) z2').trans r0
  have r1 := (hb3.cell (p := ⟨w.heap.size + 1, 1, none⟩) z2').trans r1
  have r2 := (hb3.cell (p := ⟨w.heap.size + 1, 2, none⟩) z2').trans r2
  have r3 := (hb3.cell (p := ⟨w.heap.size + 1, 3, none⟩) z2').trans r3
  have r4 := (hb3.cell (p := ⟨w.heap.size + 1, 4, none⟩) z2').trans r4
  have r5 := (hb3.cell (p := ⟨w.heap.size + 1, 5, none⟩) z2').trans r5
  have r6 := (hb3.cell (p := ⟨w.heap.size + 1, 6, none⟩) z2').trans r6
  have mm := fun o => (hb3.frozen (p := ⟨w.heap.size + 1, o, none⟩) z2').trans (mm o)
  have ho3 := (ho2.kept hb3 (Nat.le_refl _)).kept (B := w3.heap.size) ((Below.refl _ _).alloc (Nat.le_refl _) (.cells #[.int .i64 ok, .int .i64 oa, .int .i64 ob] 55)) (Nat.le_refl _)
  clear hb3 ho2 hs2 hB2
  go_wp2_with fail
  refine (refDone t p s u 0 _).mono ?_
  rw [DW.out]
  rintro e w4 ⟨rfl, hb4⟩
  have hC4 : Below (w3.heap.size + 1) (w3.alloc (.cells #[.int .i64 ok, .int .i64 oa, .int .i64 ob] 55)) w4 := hb4.mono (by simp)
  have z4 : w.heap.size < w4.heap.size := by have := hC4.size; simp at this; omega
  have z4' : w.heap.size + 1 < w4.heap.size := by have := hC4.size; simp at this; omega
  have z4'' : w3.heap.size < w4.heap.size := by have := hC4.size; simp at this; omega
  have hB4 : Below w.heap.size w w4 := (hB3.alloc (by omega) _).trans (hC4.mono (by omega))
  have q0 := (hC4.cell (p := ⟨w.heap.size, 0, none⟩) (by show w.heap.size < w3.heap.size + 1; omega)).trans (cellOld (by omega) q0)
  have q1 := (hC4.cell (p := ⟨w.heap.size, 1, none⟩) (by show w.heap.size < w3.heap.size + 1; omega)).trans (cellOld (by omega) q1)
  have q2 := (hC4.cell (p := ⟨w.heap.size, 2, none⟩) (by show w.heap.size < w3.heap.size + 1; omega)).trans (cellOld (by omega) q2)
  have r0 := (hC4.cell (p := ⟨w.heap.size + 1, 0, none⟩) (by show w.heap.size + 1 < w3.heap.size + 1; omega)).trans (cellOld (by omega) r0)
  have r1 := (hC4.cell (p := ⟨w.heap.size + 1, 1, none⟩) (by show w.heap.size + 1 < w3.heap.size + 1; omega)).trans (cellOld (by omega) r1)
  have r2 := (hC4.cell (p := ⟨w.heap.size + 1, 2, none⟩) (by show w.heap.size + 1 < w3.heap.size + 1; omega)).trans (cellOld (by omega) r2)
  have r3 := (hC4.cell (p := ⟨w.heap.size + 1, 3, none⟩) (by show w.heap.size + 1 < w3.heap.size + 1; omega)).trans (cellOld (by omega) r3)
  have r4 := (hC4.cell (p := ⟨w.heap.size + 1, 4, none⟩) (by show w.heap.size + 1 < w3.heap.size + 1; omega)).trans (cellOld (by omega) r4)
  have r5 := (hC4.cell (p := ⟨w.heap.size + 1, 5, none⟩) (by show w.heap.size + 1 < w3.heap.size + 1; omega)).trans (cellOld (by omega) r5)
  have r6 := (hC4.cell (p := ⟨w.heap.size + 1, 6, none⟩) (by show w.heap.size + 1 < w3.heap.size + 1; omega)).trans (cellOld (by omega) r6)
  have mm := fun o => (hC4.frozen (p := ⟨w.heap.size + 1, o, none⟩) (by show w.heap.size + 1 < w3.heap.size + 1; omega)).trans ((frozen?_alloc_cells _ _ _ _).trans (mm o))
  have o0 : w4.cell? ⟨w3.heap.size, 0, none⟩ = some (.int .i64 ok) := (hC4.cell (p := ⟨w3.heap.size, 0, none⟩) (Nat.lt_succ_self _)).trans (cellNew rfl rfl)
  have o1 : w4.cell? ⟨w3.heap.size, 1, none⟩ = some (.int .i64 oa) := (hC4.cell (p := ⟨w3.heap.size, 1, none⟩) (Nat.lt_succ_self _)).trans (cellNew rfl rfl)
  have o2 : w4.cell? ⟨w3.heap.size, 2, none⟩ = some (.int .i64 ob) := (hC4.cell (p := ⟨w3.heap.size, 2, none⟩) (Nat.lt_succ_self _)).trans (cellNew rfl rfl)
  have ho4 := ho3.kept hb4 (Nat.le_refl _)
  have v0 := ho4.cell HNL.out (c + 0) (by omega)
  have v1 := ho4.cell HNL.out (c + 1) (by omega)
  have v2 := ho4.cell HNL.out (c + 2) (by omega)
  have v3 := ho4.cell HNL.out (c + 3) (by omega)
  rw [G.out] at v0 v1 v2 v3
  rw [Nat.add_zero] at v0
  clear hb4 hC4 ho3 hB3 ho4 G
  generalize hd0 : dvN u vs 0 = d0 at *
  have E0 := hid hd0
  clear hd0
  generalize hd1 : dvN u vs 1 = d1 at *
  have E1 := hid hd1
  clear hd1
  generalize hd2 : dvN u vs 2 = d2 at *
  have E2 := hid hd2
  clear hd2
  generalize hd3 : dvN u vs 3 = d3 at *
  have E3 := hid hd3
  clear hd3
  have i0 : (0 : Int) ≤ (c : Int) := by omega
  have i1 : (c : Int) < (m2 : Int) := by omega
  have j1a : (0 : Int) ≤ (c : Int) + 1 := by omega
  have j1b : (c : Int) + 1 < (m2 : Int) := by omega
  have j1c : ((c : Int) + 1).toNat = c + 1 := by omega
  have j1d : IntKind.i64.wrap ((c : Int) + 1) = (c : Int) + 1 := IntWalk.i64_in _ (by omega)
  have j2a : (0 : Int) ≤ (c : Int) + 2 := by omega
  have j2b : (c : Int) + 2 < (m2 : Int) := by omega
  have j2c : ((c : Int) + 2).toNat = c + 2 := by omega
  have j2d : IntKind.i64.wrap ((c : Int) + 2) = (c : Int) + 2 := IntWalk.i64_in _ (by omega)
  have j3a : (0 : Int) ≤ (c : Int) + 3 := by omega
  have j3b : (c : Int) + 3 < (m2 : Int) := by omega
  have j3c : ((c : Int) + 3).toNat = c + 3 := by omega
  have j3d : IntKind.i64.wrap ((c : Int) + 3) = (c : Int) + 3 := IntWalk.i64_in _ (by omega)
  go_wp2_with fail
  go_still_tail 21, (by kernel_rfl)
  change wpList _ _ _ _ _ w4.drew
  have s0 : w4.drew.cell? ⟨w.heap.size + 1, 0, none⟩ = some (.int .i64 0) := r0
  have s1 : w4.drew.cell? ⟨w.heap.size + 1, 1, none⟩ = some (.int .i64 0) := r1
  have s2 : w4.drew.cell? ⟨w.heap.size + 1, 2, none⟩ = some (.int .i64 0) := r2
  have s3 : w4.drew.cell? ⟨w.heap.size + 1, 3, none⟩ = some (.int .i64 0) := r3
  have s4 : w4.drew.cell? ⟨w.heap.size + 1, 4, none⟩ = some (.int .i64 0) := r4
  have s5 : w4.drew.cell? ⟨w.heap.size + 1, 5, none⟩ = some (.int .i64 0) := r5
  have s6 : w4.drew.cell? ⟨w.heap.size + 1, 6, none⟩ = some (.int .i64 0) := r6
  have sm : ∀ o, w4.drew.frozen? ⟨w.heap.size + 1, o, none⟩ = false := mm
  have sz : w.heap.size < w4.drew.heap.size := z4
  have sz' : w.heap.size + 1 < w4.drew.heap.size := z4'
  have hB5 : Below w.heap.size w w4.drew := hB4.drew
  clear q0 q1 q2 r0 r1 r2 r3 r4 r5 r6 mm z4 z4' z4'' hB4 o0 o1 o2 v0 v1 v2 v3
  generalize w4.drew = w5 at s0 s1 s2 s3 s4 s5 s6 sm sz sz' hB5 ⊢
  go_wp2_with fail
  exact bodyPost_ret (v := .agg #[.int .i64 2, .int .i64 ok, .int .i64 oa, .int .i64 ob, .int .i64 (d1 : Int), .int .i64 (d2 : Int), .int .i64 (d3 : Int)]) (by simp [results, Try.results32, go_sem, s0, s1, s2, s3, s4, s5, s6, sz, sz']) rfl ⟨by rw [E1.out, E2.out, E3.out], (((((((hB5.setCell (p := ⟨w.heap.size + 1, 0, none⟩) (by show w.heap.size ≤ w.heap.size + 1; omega) _).setCell (p := ⟨w.heap.size + 1, 1, none⟩) (by show w.heap.size ≤ w.heap.size + 1; omega) _).setCell (p := ⟨w.heap.size + 1, 2, none⟩) (by show w.heap.size ≤ w.heap.size + 1; omega) _).setCell (p := ⟨w.heap.size + 1, 3, none⟩) (by show w.heap.size ≤ w.heap.size + 1; omega) _).setCell (p := ⟨w.heap.size + 1, 4, none⟩) (by show w.heap.size ≤ w.heap.size + 1; omega) _).setCell (p := ⟨w.heap.size + 1, 5, none⟩) (by show w.heap.size ≤ w.heap.size + 1; omega) _).setCell (p := ⟨w.heap.size + 1, 6, none⟩) (by show w.heap.size ≤ w.heap.size + 1; omega) _)⟩

end Go.Proofs.Ytkkhoiahjmfibaa
