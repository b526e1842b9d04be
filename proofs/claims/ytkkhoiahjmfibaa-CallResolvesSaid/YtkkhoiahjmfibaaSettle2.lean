/- The walk of package redo's Settle. -/
import Derived.Test.YtkkhoiahjmfibaaSettle
import Derived.Test.YtkkhoiahjmfibaaFresh2
namespace Go.Proofs.Ytkkhoiahjmfibaa
open Go.RowKit
set_option linter.unusedVariables false
set_option linter.unusedSimpArgs false

theorem Own.otherNe {e : TypeId} {k : IntKind} {w : World} {base g n cap b : Nat} {xs : List Nat} (h : Own e k w base (.slice (some ⟨g, 0, none⟩) n cap) xs) (hb : g ≠ b) (o : Nat) (v : Value) : Own e k (w.setCell ⟨b, o, none⟩ v) base (.slice (some ⟨g, 0, none⟩) n cap) xs := by
  refine ⟨h.1, ?_⟩
  rcases h.2 with hn | ⟨g', cap', cur, hv, hbs, hgg, rest⟩
  · exact .inl hn
  · cases hv
    refine .inr ⟨g, cap, cur, rfl, hbs, ?_, rest⟩
    rw [← hgg]
    exact Below.heap_setCell w ⟨b, o, none⟩ v g (by show g ≠ b; omega)

theorem fillAt_take (ys xs : List Nat) (k : Nat) (h1 : k ≤ ys.length) (h2 : k ≤ xs.length) : fillAt ys 0 xs k = xs.take k ++ ys.drop k := by
  induction k with
  | zero => simp [fillAt]
  | succ k ih =>
    rw [fillAt, ih (by omega) (by omega), Nat.zero_add, List.set_append_right _ _ (by simp; omega), List.take_succ_eq_append_getElem (show k < xs.length by omega), List.getElem?_eq_getElem (show k < xs.length by omega)]
    simp only [List.length_take, Option.getD_some]
    rw [show k - min k xs.length = 0 by omega, List.drop_eq_getElem_cons (show k < ys.length by omega), List.set_cons_zero, List.append_assoc]
    rfl
theorem fillAt_full (ys xs : List Nat) (n : Nat) (h1 : ys.length = n) (h2 : xs.length = n) : fillAt ys 0 xs n = xs := by
  rw [fillAt_take _ _ _ (by omega) (by omega), List.take_of_length_le (by omega), List.drop_of_length_le (by omega), List.append_nil]
theorem valsOf_length (n : Nat) (ws : List Nat) : (valsOf n ws).length = n := by simp [valsOf]
theorem valsOf_at (n : Nat) (ws : List Nat) (i : Nat) (h : i < n) : (valsOf n ws)[i]?.getD 0 = (ws[16 + i]?.getD 0) % 4294967296 := by
  simp [valsOf, h]

set_option maxRecDepth 100000 in
set_option maxHeartbeats 1600000 in
theorem redoSettle (t p s : Int) (w : World) (a : Option Addr) (len cap : Nat) (ws : List Nat) (hs : Seen .u64 w a len cap ws) (hf : Fit 18446744073709551616 ws) (ho : okW t p s len) :
    Calls Try.prog 18 #[.agg #[.int .i64 t, .int .i64 p, .int .i64 s], .slice a len cap] w (OptPost 25 .u32 w (settleO t p ws)) := by
  have HO := hid ho
  have HL := hid hs.1
  have hlen := (okW_words ho).2
  have hlm := hs.2.2.1
  have hlc := hs.2.1
  obtain ⟨⟨h1, h2⟩, ⟨h3, h4'⟩, h5, h6⟩ := rightC_of ho.1
  have cb : 58 ≤ cellsN t p ∧ cellsN t p ≤ 6238 := by unfold cellsN; omega
  have mb := makers_bd ⟨⟨h1, h2⟩, h3, h4'⟩
  have hwl := ho.2
  obtain ⟨N, hN⟩ := Int.eq_ofNat_of_zero_le (show 0 ≤ cellsN t p by omega)
  have hN16 : 16 + N ≤ len := by omega
  have hN1 : N ≤ 6238 := by omega
  have hN0 : 0 < N := by omega
  have NN := hid (show (cellsN t p).toNat = N by omega)
  have PC := hidAll fun w => by have h := placeCells t p s w; rw [show cellsC t p s = (N : Int) by rw [cellsC, ho.1, ← hN]; rfl] at h; exact h
  have CW := hidAll fun (k : Nat) (hk : k < N) => (show cellW t p s k = ((16 + k : Nat) : Int) by rw [cellW, if_pos ⟨ho.1, by omega, by omega⟩]; omega)
  clear hN cb mb hwl ho
  go_enter Try.func18, Try.ntmps18
  go_wp2_with fail
  refine (redoSettled t p s _ a len cap ws (hs.below bel) hf HO.out).mono ?_
  rintro e w1 (⟨r, n, _, hset, a1, m1, cap1, rfl, hown, hb1⟩ | ⟨hno, rfl, hb1⟩)
  · have hz1 := hb1.size
    simp at hz1
    have z1 : w.heap.size < w1.heap.size := by omega
    have hB1 : Below w.heap.size w w1 := bel
    have q0 : w1.cell? ⟨w.heap.size, 0, none⟩ = some (.int .i64 t) := (hb1.cell (p := ⟨w.heap.size, 0, none⟩) (by simp)).trans (cellNew rfl rfl)
    have q1 : w1.cell? ⟨w.heap.size, 1, none⟩ = some (.int .i64 p) := (hb1.cell (p := ⟨w.heap.size, 1, none⟩) (by simp)).trans (cellNew rfl rfl)
    have q2 : w1.cell? ⟨w.heap.size, 2, none⟩ = some (.int .i64 s) := (hb1.cell (p := ⟨w.heap.size, 2, none⟩) (by simp)).trans (cellNew rfl rfl)
    have hrl := settledO_length hset
    have hrf := settledO_fit hset hf
    obtain ⟨g, cap', hv, hg, hgs, _⟩ := hown.form (by rw [hrl, HL.out]; omega)
    rw [hrl, HL.out] at hv
    cases hv
    simp at hg
    have RL := hid (hrl.trans HL.out)
    have hown : Own 46 .u64 w1 (w.heap.size + 1) (.slice (some ⟨g, 0, none⟩) len cap1) r := by simpa using hown
    have HT := hid (show settleO t p ws = some (valsOf N r) by rw [settleO, hset, ← NN.out]; rfl)
    have HF := hid hrf
    clear hrl hset hs hb1 hrf
    go_wp2_with fail
    refine (PC.out _).mono ?_
    rintro e w2 ⟨rfl, hb2⟩
    have z2 : w1.heap.size ≤ w2.heap.size := hb2.size
    have hB2 : Below w1.heap.size w1 w2 := hb2
    have hown2 := hown.kept hb2 (Nat.le_refl _)
    have hzl := hid (List.length_replicate (n := N) (a := (0 : Nat)))
    have hvl := hid (valsOf_length N r)
    have hva := hidAll (valsOf_at N r)
    have hff := hid (fillAt_full (List.replicate N 0) (valsOf N r) N List.length_replicate (valsOf_length N r))
    have hsu := hidAll fun k => fillAt_succ (List.replicate N 0) 0 (valsOf N r) k
    have hfl := hidAll fun k => fillAt_length (List.replicate N 0) 0 (valsOf N r) k
    have hz0 := hid (show fillAt (List.replicate N 0) 0 (valsOf N r) 0 = List.replicate N 0 from rfl)
    go_wp2_with (refine wpMake rfl _ _ 41 25 rfl .u32 4 Try.underlying41 infoU32 _ (w1.heap.size) N rfl rfl (by omega) (by unfold maxLen; omega) z2 ?_; intro w3 hown3 hgrow3; have hb3 : Below w2.heap.size w2 w3 := (Below.refl _ _).grown hgrow3 (Nat.le_refl _) (by intro k hk; cases hk); clear hgrow3)
    have zN : w2.heap.size < w3.heap.size := World.block_lt_of_cell? w3 _ (hown3.cell hzl.out 0 hN0)
    have hB3 : Below w1.heap.size w1 w3 := hB2.trans (hb3.mono z2)
    have hr3 := hown2.kept hb3 (Nat.le_refl _)
    rw [← hz0.out] at hown3
    have hgne : g ≠ w2.heap.size := by omega
    clear hown hown2 hb2 hb3
    generalize hzs : List.replicate N 0 = zs at *
    clear hzs
    generalize valsOf N r = vs at *
    go_loopw [25] (fun i wr => ∃ j : Nat, j ≤ N ∧ i = .int .i64 j ∧ Own 25 .u32 wr w1.heap.size (.slice (some ⟨w2.heap.size, 0, none⟩) N N) (fillAt zs 0 vs j) ∧ Own 46 .u64 wr (w.heap.size + 1) (.slice (some ⟨g, 0, none⟩) len cap1) r ∧ Below w1.heap.size w1 wr ∧ w2.heap.size < wr.heap.size) (fun i _ => N - (intOf i).toNat)
    case atStart => exact ⟨0, by omega, rfl, hown3, hr3, hB3, zN⟩
    case round =>
      clear hown3 hr3 hB3 zN hz0
      obtain ⟨j, hj, rfl, hO, hR, hB, zr⟩ := hrel
      have q0 := (hB.cell (p := ⟨w.heap.size, 0, none⟩) z1).trans q0
      have q1 := (hB.cell (p := ⟨w.heap.size, 1, none⟩) z1).trans q1
      have q2 := (hB.cell (p := ⟨w.heap.size, 2, none⟩) z1).trans q2
      have zw : w.heap.size < wr.heap.size := by omega
      by_cases hlt : j < N
      · have hcr := hR.cell RL.out (16 + j) (by omega)
        have hx := HF.out.getD (by omega) (16 + j)
        have lfl := hid (show (fillAt zs 0 vs j).length = N by rw [hfl.out, hzl.out])
        have hcv := hO.cell lfl.out j hlt
        have hfz := hO.unfrozen lfl.out j
        have hva2 := hid (hva.out j hlt)
        have hsu2 := hid (hsu.out j)
        have cw := hid (CW.out j hlt)
        generalize r[16 + j]?.getD 0 = x at hcr hx hva2
        generalize vs[j]?.getD 0 = v at hva2 hsu2
        generalize (fillAt zs 0 vs j)[j]?.getD 0 = y at hcv
        go_wp2_with fail
        refine (placeWord t p s j _).mono ?_
        rw [cw.out]
        rintro e wA ⟨rfl, hbA⟩
        have zA : wr.heap.size ≤ wA.heap.size := hbA.size
        have hOA := hO.kept hbA (Nat.le_refl _)
        have hRA := hR.kept hbA (Nat.le_refl _)
        have hBA : Below w1.heap.size w1 wA := hB.trans (hbA.mono (by omega))
        have hcrA : wA.cell? ⟨g, 16 + j, none⟩ = some (.int .u64 (x : Int)) := (hbA.cell (p := ⟨g, 16 + j, none⟩) (World.block_lt_of_cell? wr _ hcr)).trans hcr
        have hcvA : wA.cell? ⟨w2.heap.size, j, none⟩ = some (.int .u32 (y : Int)) := (hbA.cell (p := ⟨w2.heap.size, j, none⟩) zr).trans hcv
        have hfzA := hOA.unfrozen lfl.out j
        clear hbA hO hR hB hcr hcv hfz q0 q1 q2
        go_wp2_with fail
        refine (markVal x _ (by omega) (by omega)).mono ?_
        rintro e wB ⟨rfl, rfl⟩
        go_wp2_with fail
        go_roundw
        case rel =>
          refine ⟨j + 1, by omega, by go_num, ?_, hRA.otherNe hgne _ _, hBA.setCell (by show w1.heap.size ≤ w2.heap.size; omega) _, by simp; omega⟩
          have h1 := hOA.stored lfl.out j v
          rw [hsu2.out, Nat.zero_add]
          have e : ((v : Nat) : Int) = (x : Int) % 4294967296 := by have := hva2.out; omega
          rw [e] at h1
          exact h1
        case measure => simp [intOf]; omega
      · obtain rfl : j = N := by omega
        rw [hff.out] at hO
        go_wp2_with fail
        go_ret2
        exact .inl ⟨_, HT.out, _, _, _, rfl, hO.rebase (by omega), hB1.trans (hB.mono (by omega))⟩
  · have HT := hid (show settleO t p ws = none by rcases hno with h | h; cases h; rw [settleO, h]; rfl)
    clear hno hs
    go_wp2_with fail
    go_ret2
    exact .inr ⟨HT.out, rfl, bel⟩
end Go.Proofs.Ytkkhoiahjmfibaa
