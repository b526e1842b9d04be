/- The walk of the reference's Last, of layer 27. -/
import Derived.Test.YtkkhoiahjmfibaaRefLog
import Derived.Test.YtkkhoiahjmfibaaSettle2
namespace Go.Proofs.Ytkkhoiahjmfibaa
open Go.RowKit
set_option linter.unusedVariables false
set_option linter.unusedSimpArgs false

/-- The entries that the last change has still to lay. -/
def todoX (t p : Int) (ws : List Nat) : List Nat := if openX (noteX t p (tipU ws) ws) (tipS ws) = true then logXs t p (tipU ws) ws else []
def lastOk (t p : Int) (ws : List Nat) : Bool := (settledO t p ws).isSome
theorem settled_todo {t p : Int} {ws : List Nat} (h1 : (tipU ws : Int) ≤ t) (h2 : stampsB (cellsN t p).toNat ws = true) (h3 : openX (noteX t p (tipU ws) ws) (tipS ws) = true → entsB t p (logXs t p (tipU ws) ws) = true) :
    ∃ n, settledO t p ws = some (applyX (tipS ws) (todoX t p ws) ws, n) := by
  cases ho : openX (noteX t p (tipU ws) ws) (tipS ws)
  · refine ⟨-1, ?_⟩
    rw [settledO, if_pos ⟨h1, h2⟩, if_neg (by rw [ho]; decide), todoX, if_neg (by rw [ho]; decide)]; rfl
  · refine ⟨(noteI t p (tipU ws) : Nat), ?_⟩
    rw [settledO, if_pos ⟨h1, h2⟩, if_pos ho, if_pos (h3 ho), todoX, if_pos ho]
def Last27 (w : World) (t p : Int) (ws : List Nat) (e : Ending) (w' : World) : Prop :=
  (settledO t p ws ≠ none ∧ (tipU ws : Int) ≤ t ∧ ∃ v, e = .returned (.tuple #[.int .u32 (tipS ws : Int), .int .i64 (tipU ws : Int), v, .bool true]) ∧ OwnP w' w.heap.size v (todoX t p ws) ∧ Below w.heap.size w w') ∨
  (settledO t p ws = none ∧ ∃ a b c, e = .returned (.tuple #[.int .u32 a, .int .i64 b, c, .bool false]) ∧ Below w.heap.size w w')

set_option maxRecDepth 100000 in
set_option maxHeartbeats 3200000 in
theorem refLast27Tip (t p s : Int) (w : World) (a : Option Addr) (len cap : Nat) (ws : List Nat) (hs : Seen .u64 w a len cap ws) (hf : Fit 18446744073709551616 ws) (ho : okW t p s len) (hn : ¬ (tipU ws : Int) ≤ t) :
    Calls Try.prog 74 #[.agg #[.int .i64 t, .int .i64 p, .int .i64 s], .slice a len cap] w (Last27 w t p ws) := by
  have hlc := hs.2.1
  have hlm : cap ≤ maxLen := hs.2.2.1
  obtain ⟨ew, hl1, hl2⟩ := okW_words ho
  have HS := hid hs
  have HF := hid hf
  have HO := hid ho
  have hx8 : ws[8]?.getD 0 < 18446744073709551616 := hf.getD (by omega) _
  obtain ⟨_, _, _, h4⟩ := id hs
  rcases h4 with ⟨h4, _⟩ | ⟨b0, off, rfl, hc⟩
  · omega
  have c8 : w.cell? ⟨b0, off + 8, none⟩ = some (.int .u64 ((ws[8]?.getD 0 : Nat) : Int)) := hc 8 (by omega)
  have hb0 : b0 < w.heap.size := World.block_lt_of_cell? w _ c8
  have eS : (tipS ws : Int) = ((ws[8]?.getD 0 : Nat) : Int) / 4294967296 := by unfold tipS; omega
  have eU : (tipU ws : Int) = ((ws[8]?.getD 0 : Nat) : Int) % 4294967296 := by unfold tipU; omega
  have NO := hid (show settledO t p ws = none by rw [settledO, if_neg (fun h => hn h.1)])
  clear hs hf ho hc ew
  generalize ws[8]?.getD 0 = x at *
  by_cases hx : (x : Int) % 4294967296 ≤ 16
  · have TV := hid (show ofTipV (x : Int) = .tuple #[.int .u32 ((x : Int) / 4294967296), .int .i64 ((x : Int) % 4294967296), .bool true] by rw [ofTipV, if_pos hx])
    have hg : t < (x : Int) % 4294967296 := by omega
    go_enter Try.func74, Try.ntmps74
    go_wp2_with fail
    refine (refRight27Yes t p s _ _ len cap HO.out).mono ?_
    rintro e w1 ⟨rfl, hb1⟩
    have z1 : w.heap.size < w1.heap.size := by have := hb1.size; simp at this; omega
    have hB1 : Below w.heap.size w w1 := bel
    have q0 : w1.cell? ⟨w.heap.size, 0, none⟩ = some (.int .i64 t) := (hb1.cell (p := ⟨w.heap.size, 0, none⟩) (by simp)).trans (cellNew rfl rfl)
    have q1 : w1.cell? ⟨w.heap.size, 1, none⟩ = some (.int .i64 p) := (hb1.cell (p := ⟨w.heap.size, 1, none⟩) (by simp)).trans (cellNew rfl rfl)
    have q2 : w1.cell? ⟨w.heap.size, 2, none⟩ = some (.int .i64 s) := (hb1.cell (p := ⟨w.heap.size, 2, none⟩) (by simp)).trans (cellNew rfl rfl)
    clear hb1
    have c81 := (hB1.cell (p := ⟨b0, off + 8, none⟩) hb0).trans c8
    go_wp2_with fail
    refine (refOfTip _ _ (by omega) (by omega)).mono ?_
    rw [TV.out]
    rintro e _ ⟨rfl, rfl⟩
    
    go_wp2_with fail
    exact bodyPost_ret (v := .tuple #[.int .u32 0, .int .i64 0, .slice none 0 0, .bool false]) (by simp [results, Try.results74, go_sem]) rfl (.inr ⟨NO.out, _, _, _, rfl, bel⟩)
  · have TV := hid (show ofTipV (x : Int) = .tuple #[.int .u32 0, .int .i64 0, .bool false] by rw [ofTipV, if_neg hx])
    go_enter Try.func74, Try.ntmps74
    go_wp2_with fail
    refine (refRight27Yes t p s _ _ len cap HO.out).mono ?_
    rintro e w1 ⟨rfl, hb1⟩
    have z1 : w.heap.size < w1.heap.size := by have := hb1.size; simp at this; omega
    have hB1 : Below w.heap.size w w1 := bel
    have q0 : w1.cell? ⟨w.heap.size, 0, none⟩ = some (.int .i64 t) := (hb1.cell (p := ⟨w.heap.size, 0, none⟩) (by simp)).trans (cellNew rfl rfl)
    have q1 : w1.cell? ⟨w.heap.size, 1, none⟩ = some (.int .i64 p) := (hb1.cell (p := ⟨w.heap.size, 1, none⟩) (by simp)).trans (cellNew rfl rfl)
    have q2 : w1.cell? ⟨w.heap.size, 2, none⟩ = some (.int .i64 s) := (hb1.cell (p := ⟨w.heap.size, 2, none⟩) (by simp)).trans (cellNew rfl rfl)
    clear hb1
    have c81 := (hB1.cell (p := ⟨b0, off + 8, none⟩) hb0).trans c8
    go_wp2_with fail
    refine (refOfTip _ _ (by omega) (by omega)).mono ?_
    rw [TV.out]
    rintro e _ ⟨rfl, rfl⟩
    
    go_wp2_with fail
    exact bodyPost_ret (v := .tuple #[.int .u32 0, .int .i64 0, .slice none 0 0, .bool false]) (by simp [results, Try.results74, go_sem]) rfl (.inr ⟨NO.out, _, _, _, rfl, bel⟩)

set_option maxRecDepth 100000 in
set_option maxHeartbeats 6400000 in
theorem refLast27Yes (t p s : Int) (w : World) (a : Option Addr) (len cap : Nat) (ws : List Nat) (hs : Seen .u64 w a len cap ws) (hf : Fit 18446744073709551616 ws) (ho : okW t p s len) (hn : (tipU ws : Int) ≤ t) :
    Calls Try.prog 74 #[.agg #[.int .i64 t, .int .i64 p, .int .i64 s], .slice a len cap] w (Last27 w t p ws) := by
  obtain ⟨⟨g1, g2⟩, ⟨g3, g4⟩, g5, g6⟩ := rightC_of ho.1
  have mb := makers_bd ⟨⟨g1, g2⟩, g3, g4⟩
  obtain ⟨N, hN⟩ := Int.eq_ofNat_of_zero_le (show 0 ≤ cellsN t p by unfold cellsN; omega)
  have hwl := ho.2
  have hN16 : 16 + N ≤ len := by omega
  have PC := hidAll fun w => by have h := refCells t p s w; rw [show cellsC t p s = (N : Int) by rw [cellsC, ho.1, ← hN]; rfl] at h; exact h
  have NN : (cellsN t p).toNat = N := by omega
  have SN := hidAll fun k => @stampsB_no N ws k
  have SY := hid (@stampsB_yes N ws)
  have hlc := hs.2.1
  have hlm : cap ≤ maxLen := hs.2.2.1
  obtain ⟨ew, hl1, hl2⟩ := okW_words ho
  have HS := hid hs
  have HF := hid hf
  have HO := hid ho
  have hx8 : ws[8]?.getD 0 < 18446744073709551616 := hf.getD (by omega) _
  obtain ⟨_, _, _, h4⟩ := id hs
  rcases h4 with ⟨h4, _⟩ | ⟨b0, off, rfl, hc⟩
  · omega
  have c8 : w.cell? ⟨b0, off + 8, none⟩ = some (.int .u64 ((ws[8]?.getD 0 : Nat) : Int)) := hc 8 (by omega)
  have hb0 : b0 < w.heap.size := World.block_lt_of_cell? w _ c8
  have eS : (tipS ws : Int) = ((ws[8]?.getD 0 : Nat) : Int) / 4294967296 := by unfold tipS; omega
  have eU : (tipU ws : Int) = ((ws[8]?.getD 0 : Nat) : Int) % 4294967296 := by unfold tipU; omega
  obtain ⟨i1, i2, i3, i4⟩ := noteI_bd (u := (tipU ws : Int)) ho (by omega) hn
  have NW := hid (show noteW t p s (tipU ws : Int) = ((noteI t p (tipU ws) : Nat) : Int) by rw [noteW, if_pos ⟨ho.1, by omega, hn⟩, i1])
  have cx : w.cell? ⟨b0, off + noteI t p (tipU ws), none⟩ = some (.int .u64 ((noteX t p (tipU ws) ws : Nat) : Int)) := hc _ i3
  have hx : noteX t p (tipU ws) ws < 18446744073709551616 := hf.getD (by omega) _
  have CA := hidAll fun (k : Nat) (hk : k < N) => (show w.cell? ⟨b0, off + (16 + k), none⟩ = some (.int .u64 ((ws[16 + k]?.getD 0 : Nat) : Int)) from hc (16 + k) (by omega))
  have HN := hid hn
  have NOS := hid (show stampsB N ws = false → settledO t p ws = none from fun h => by rw [settledO, if_neg (fun g => by rw [NN, h] at g; exact absurd g.2 (by decide))])
  have hUx : tipU ws ≤ 16 := by omega
  have TV := hid (show ofTipV ((ws[8]?.getD 0 : Nat) : Int) = .tuple #[.int .u32 (tipS ws : Int), .int .i64 (tipU ws : Int), .bool true] by rw [ofTipV, if_pos (by omega), eS, eU])
  have hS0 : tipS ws < 4294967296 := by unfold tipS; omega
  have OPN := hid (show stampsB N ws = true → openX (noteX t p (tipU ws) ws) (tipS ws) = false → settledO t p ws ≠ none ∧ todoX t p ws = [] from fun h g => by
    obtain ⟨n, hn'⟩ := settled_todo hn (by rw [NN]; exact h) (fun g' => by rw [g] at g'; cases g')
    exact ⟨by (rw [hn']; intro h; cases h), by rw [todoX, if_neg (by rw [g]; decide)]⟩)
  have OPY := hid (show stampsB N ws = true → openX (noteX t p (tipU ws) ws) (tipS ws) = true → entsB t p (logXs t p (tipU ws) ws) = true → settledO t p ws ≠ none ∧ todoX t p ws = logXs t p (tipU ws) ws from fun h g g2 => by
    obtain ⟨n, hn'⟩ := settled_todo hn (by rw [NN]; exact h) (fun _ => g2)
    exact ⟨by (rw [hn']; intro h; cases h), by rw [todoX, if_pos g]⟩)
  have OPB := hid (show stampsB N ws = true → openX (noteX t p (tipU ws) ws) (tipS ws) = true → entsB t p (logXs t p (tipU ws) ws) = false → settledO t p ws = none from fun h g g2 => by
    rw [settledO, if_pos ⟨hn, by rw [NN]; exact h⟩, if_pos g, if_neg (by rw [g2]; decide)])
  have OV1 := hid (show openX (noteX t p (tipU ws) ws) (tipS ws) = true → openV ((noteX t p (tipU ws) ws : Nat) : Int) (tipS ws : Int) = .tuple #[.int .i64 (((noteX t p (tipU ws) ws : Nat) : Int) % 2147483648), .bool true] ∧ cntX (noteX t p (tipU ws) ws) ≤ 96 from fun h => by
    unfold openX at h
    simp only [Bool.and_eq_true, decide_eq_true_eq, beq_iff_eq] at h
    refine ⟨?_, by unfold cntX; omega⟩
    rw [openV, if_pos ⟨by omega, by omega, by omega⟩])
  have OV0 := hid (show openX (noteX t p (tipU ws) ws) (tipS ws) = false → openV ((noteX t p (tipU ws) ws : Nat) : Int) (tipS ws : Int) = .tuple #[.int .i64 0, .bool false] from fun h => by
    rw [openV, if_neg]
    rintro ⟨h1, h2, h3⟩
    have : openX (noteX t p (tipU ws) ws) (tipS ws) = true := by
      unfold openX
      simp only [Bool.and_eq_true, decide_eq_true_eq, beq_iff_eq]
      refine ⟨⟨by omega, by omega⟩, by omega⟩
    rw [this] at h; cases h)
  have LG := hidAll fun w' (hb : Below w.heap.size w w') => refLog t p s (tipU ws : Int) w' (some ⟨b0, off, none⟩) len cap ws (hs.below hb) hf true ⟨fun _ => ⟨ho, by omega, hn⟩, fun _ => rfl⟩
  have LB := hid (show (true && logB t p (tipU ws) ws) = true ↔ cntX (noteX t p (tipU ws) ws) ≤ 96 ∧ entsB t p (logXs t p (tipU ws) ws) = true by simp [logB])
  have dU : decide (t < (tipU ws : Int)) = false := by simp; omega
  clear hs hf hc ew eS eU i1 i2 i4 hwl mb g1 g2 g3 g4 g5 g6 hN NN ho
  generalize noteX t p (tipU ws) ws = nx at *
  generalize noteI t p (tipU ws) = ni at *
  generalize hT : tipS ws = S at *
  have HT := hid hT
  clear hT
  go_enter Try.func74, Try.ntmps74
  go_wp2_with fail
  refine (refRight27Yes t p s _ _ len cap HO.out).mono ?_
  rintro e w1 ⟨rfl, hb1⟩
  have z1 : w.heap.size < w1.heap.size := by have := hb1.size; simp at this; omega
  have hB1 : Below w.heap.size w w1 := bel
  have q0 : w1.cell? ⟨w.heap.size, 0, none⟩ = some (.int .i64 t) := (hb1.cell (p := ⟨w.heap.size, 0, none⟩) (by simp)).trans (cellNew rfl rfl)
  have q1 : w1.cell? ⟨w.heap.size, 1, none⟩ = some (.int .i64 p) := (hb1.cell (p := ⟨w.heap.size, 1, none⟩) (by simp)).trans (cellNew rfl rfl)
  have q2 : w1.cell? ⟨w.heap.size, 2, none⟩ = some (.int .i64 s) := (hb1.cell (p := ⟨w.heap.size, 2, none⟩) (by simp)).trans (cellNew rfl rfl)
  clear hb1
  have c81 := (hB1.cell (p := ⟨b0, off + 8, none⟩) hb0).trans c8
  go_wp2_with fail
  refine (refOfTip _ _ (by omega) (by omega)).mono ?_
  rw [TV.out]
  rintro e _ ⟨rfl, rfl⟩
  
  go_wp2_with fail
  go_loopw [11] (fun i wr => ∃ k : Nat, k ≤ N ∧ i = .int .i64 k ∧ RowKit.Hid (∀ j, j < k → stampAt ws j ≤ S) ∧ Below w1.heap.size w1 wr) (fun i _ => N - (intOf i).toNat)
  case atStart => exact ⟨0, by omega, rfl, hid (fun j hj => by omega), Below.refl _ _⟩
  case round =>
    obtain ⟨k, hk, rfl, hA, hB⟩ := hrel
    have zr : w.heap.size < wr.heap.size := by have := hB.size; omega
    have hBr : Below w.heap.size w wr := hB1.trans (hB.mono (by omega))
    have q0 := (hB.cell (p := ⟨w.heap.size, 0, none⟩) z1).trans q0
    have q1 := (hB.cell (p := ⟨w.heap.size, 1, none⟩) z1).trans q1
    have q2 := (hB.cell (p := ⟨w.heap.size, 2, none⟩) z1).trans q2
    clear hB1
    by_cases hlt : k < N
    · have ck := CA.out k hlt
      have hA2 := hid (show stampAt ws k ≤ S → ∀ j, j < k + 1 → stampAt ws j ≤ S from fun h j hj => by
        by_cases hjk : j = k
        · rw [hjk]; exact h
        · exact hA.out j (by omega))
      have sn := hid (SN.out k hlt)
      have hxk : ws[16 + k]?.getD 0 < 18446744073709551616 := HF.out.getD (by omega) _
      have es := hid (show stampAt ws k = (ws[16 + k]?.getD 0) / 4294967296 from rfl)
      have i0 : (0 : Int) ≤ 16 + (k : Int) := by omega
      have i1 : 16 + (k : Int) < (len : Int) := by omega
      have tn : (16 + (k : Int)).toNat = 16 + k := by omega
      have wp : IntKind.i64.wrap (16 + (k : Int)) = 16 + (k : Int) := IntWalk.i64_in _ (by omega)
      clear hA
      generalize ws[16 + k]?.getD 0 = x at ck hxk es
      go_wp2_with fail
      refine (PC.out _).mono ?_
      rintro e wA ⟨rfl, hbA⟩
      have hBA := hB.trans (hbA.mono (by have := hB.size; omega))
      have hBwA : Below w.heap.size w wA := hBr.trans (hbA.mono (by omega))
      have ckA := (hBwA.cell (p := ⟨b0, off + (16 + k), none⟩) hb0).trans ck
      clear hbA q0 q1 q2 hB hBr
      by_cases hst : x / 4294967296 ≤ S
      · have d : decide ((S : Int) < (x : Int) / 4294967296) = false := by simp; omega
        have hA3 := hid (hA2.out (by rw [es.out]; exact hst))
        go_wp2_with fail
        refine (refHi x _ (by omega) (by omega)).mono ?_
        rintro e _ ⟨rfl, rfl⟩
        go_wp2_with fail
        go_roundw
        case rel => exact ⟨k + 1, by omega, by go_num, hA3, hBA⟩
        case measure => simp [intOf]; omega
      · have d : decide ((S : Int) < (x : Int) / 4294967296) = true := by simp; omega
        have hno := hid (NOS.out (sn.out (by rw [es.out]; omega)))
        go_wp2_with fail
        refine (refHi x _ (by omega) (by omega)).mono ?_
        rintro e _ ⟨rfl, rfl⟩
        go_wp2_with fail
        exact bodyPost_ret (v := .tuple #[.int .u32 0, .int .i64 0, .slice none 0 0, .bool false]) (by simp [results, Try.results74, go_sem]) rfl (.inr ⟨hno.out, _, _, _, rfl, hBwA⟩)
    · obtain rfl : k = N := by omega
      have hst := hid (SY.out (fun j hj => hA.out j hj))
      obtain ⟨wo, rfl⟩ : ∃ x : World, x = wr := ⟨_, rfl⟩
      clear hA
      go_wp2_with fail
      refine (PC.out _).mono ?_
      rintro e wA ⟨rfl, hbA⟩
      have zA : w.heap.size < wA.heap.size := by have := hbA.size; omega
      have hBA : Below w.heap.size w wA := hBr.trans (hbA.mono (by omega))
      have q0 := (hbA.cell (p := ⟨w.heap.size, 0, none⟩) zr).trans q0
      have q1 := (hbA.cell (p := ⟨w.heap.size, 1, none⟩) zr).trans q1
      have q2 := (hbA.cell (p := ⟨w.heap.size, 2, none⟩) zr).trans q2
      clear hbA hB hBr
      go_wp2_with fail
      refine (refNoteW t p s _ _).mono ?_
      rw [NW.out]
      rintro e wC ⟨rfl, hbC⟩
      have zC : w.heap.size < wC.heap.size := by have := hbC.size; omega
      have hBC : Below w.heap.size w wC := hBA.trans (hbC.mono (by omega))
      have q0 := (hbC.cell (p := ⟨w.heap.size, 0, none⟩) zA).trans q0
      have q1 := (hbC.cell (p := ⟨w.heap.size, 1, none⟩) zA).trans q1
      have q2 := (hbC.cell (p := ⟨w.heap.size, 2, none⟩) zA).trans q2
      have cxC := (hBC.cell (p := ⟨b0, off + ni, none⟩) hb0).trans cx
      clear hbC hBA
      cases hop : openX nx S
      · obtain ⟨nn, td⟩ := OPN.out hst.out hop
        have ov := hid (OV0.out hop)
        have ND := hid nn
        have TD := hid td
        clear nn td hop
        go_wp2_with fail
        refine (refOpen nx S _ (by omega) (by omega)).mono ?_
        rw [ov.out]
        rintro e wD ⟨rfl, hbD⟩
        have hBD : Below w.heap.size w wD := hBC.trans (hbD.mono (by omega))
        clear hbD hBC
        go_wp2_with fail
        exact bodyPost_ret (v := .tuple #[.int .u32 (S : Int), .int .i64 (tipU ws : Int), .slice none 0 0, .bool true]) (by simp [results, Try.results74, go_sem]) rfl (.inl ⟨ND.out, HN.out, _, by rw [HT.out], by rw [TD.out]; exact OwnP.nil _ _, hBD⟩)
      · obtain ⟨ov1, ov2⟩ := OV1.out hop
        have ov := hid ov1
        have cn := hid ov2
        have hop2 := hid hop
        clear ov1 ov2 hop
        go_wp2_with fail
        refine (refOpen nx S _ (by omega) (by omega)).mono ?_
        rw [ov.out]
        rintro e wD ⟨rfl, hbD⟩
        have zD : w.heap.size < wD.heap.size := by have := hbD.size; omega
        have hBD : Below w.heap.size w wD := hBC.trans (hbD.mono (by omega))
        have q0 := (hbD.cell (p := ⟨w.heap.size, 0, none⟩) zC).trans q0
        have q1 := (hbD.cell (p := ⟨w.heap.size, 1, none⟩) zC).trans q1
        have q2 := (hbD.cell (p := ⟨w.heap.size, 2, none⟩) zC).trans q2
        clear hbD hBC
        go_wp2_with fail
        refine (LG.out _ hBD).mono ?_
        rintro e wE (⟨hg, v, rfl, hoE, hbE⟩ | ⟨hg, rfl, hbE⟩)
        · obtain ⟨nn, td⟩ := OPY.out hst.out hop2.out (LB.out.1 hg).2
          have ND := hid nn
          have TD := hid td
          have hBE : Below w.heap.size w wE := hBD.trans (hbE.mono (by omega))
          have zE : w.heap.size < wE.heap.size := by have := hbE.size; omega
          have hoF := (hoE.rebase (base' := w.heap.size) (by omega)).kept (B := wE.heap.size) ((Below.refl _ _).alloc (Nat.le_refl _) (.cells #[.int .u32 ((noteX t p (tipU ws) ws : Int) / 4294967296), .bool ((noteX t p (tipU ws) ws : Int) / 2147483648 % 2 == 1), .int .i64 ((noteX t p (tipU ws) ws : Int) % 2147483648)] 32)) (Nat.le_refl _)
          clear hbE hBD nn td hg hoE
          go_wp2_with fail
          exact bodyPost_ret (v := .tuple #[.int .u32 (S : Int), .int .i64 (tipU ws : Int), v, .bool true]) (by simp [results, Try.results74, go_sem]) rfl (.inl ⟨ND.out, HN.out, _, by rw [HT.out], by rw [TD.out]; exact hoF, bel⟩)
        · have hE : entsB t p (logXs t p (tipU ws) ws) = false := by
            cases hE : entsB t p (logXs t p (tipU ws) ws)
            · rfl
            · rw [LB.out.2 ⟨cn.out, hE⟩] at hg; cases hg
          have hno := hid (OPB.out hst.out hop2.out hE)
          have hBE : Below w.heap.size w wE := hBD.trans (hbE.mono (by omega))
          have zE : w.heap.size < wE.heap.size := by have := hbE.size; omega
          clear hbE hBD hg hE
          go_wp2_with fail
          exact bodyPost_ret (v := .tuple #[.int .u32 (S : Int), .int .i64 (tipU ws : Int), .slice none 0 0, .bool false]) (by simp [results, Try.results74, go_sem]) rfl (.inr ⟨hno.out, _, _, _, rfl, bel⟩)

theorem refLast27No (t p s : Int) (w : World) (a : Option Addr) (len cap : Nat) (h : ¬ okW t p s len) :
    Calls Try.prog 74 #[.agg #[.int .i64 t, .int .i64 p, .int .i64 s], .slice a len cap] w fun e w' => e = .returned (.tuple #[.int .u32 0, .int .i64 0, .slice none 0 0, .bool false]) ∧ Below w.heap.size w w' := by
  have HO := hid h
  clear h
  go_enter Try.func74, Try.ntmps74
  go_wp2_with fail
  refine (refRight27No t p s _ a len cap HO.out).mono ?_
  rintro e w1 ⟨rfl, hb1⟩
  go_wp2_with fail
  exact bodyPost_ret (v := .tuple #[.int .u32 0, .int .i64 0, .slice none 0 0, .bool false]) (by simp [results, Try.results74, go_sem]) rfl (⟨rfl, bel⟩)

theorem refLast27 (t p s : Int) (w : World) (a : Option Addr) (len cap : Nat) (ws : List Nat) (hs : Seen .u64 w a len cap ws) (hf : Fit 18446744073709551616 ws) (ho : okW t p s len) :
    Calls Try.prog 74 #[.agg #[.int .i64 t, .int .i64 p, .int .i64 s], .slice a len cap] w (Last27 w t p ws) := by
  by_cases hn : (tipU ws : Int) ≤ t
  · exact refLast27Yes t p s w a len cap ws hs hf ho hn
  · exact refLast27Tip t p s w a len cap ws hs hf ho hn
end Go.Proofs.Ytkkhoiahjmfibaa
