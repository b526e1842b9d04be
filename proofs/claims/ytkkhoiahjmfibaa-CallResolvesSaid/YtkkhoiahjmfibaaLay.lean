/- The walk of package redo's Lay, of words that are right. -/
import Derived.Test.YtkkhoiahjmfibaaSettle2
namespace Go.Proofs.Ytkkhoiahjmfibaa
open Go.RowKit
set_option linter.unusedVariables false
set_option linter.unusedSimpArgs false

/-- A row of pairs that is seen. -/
def SeenP (w : World) (a : Option Addr) (len cap : Nat) (ps : List (Int × Nat)) : Prop :=
  ps.length = len ∧ len ≤ cap ∧ cap ≤ maxLen ∧ (len = 0 ∨ ∃ b off, a = some ⟨b, off, none⟩ ∧ ∀ j, j < len → w.cell? ⟨b, off + j * 2, none⟩ = some (.int .i64 (ps[j]?.getD (0, 0)).1) ∧ w.cell? ⟨b, off + j * 2 + 1, none⟩ = some (.int .u32 ((ps[j]?.getD (0, 0)).2 : Int)))
theorem SeenP.below {w w' : World} {a : Option Addr} {len cap : Nat} {ps : List (Int × Nat)} (h : SeenP w a len cap ps) (hb : Below w.heap.size w w') : SeenP w' a len cap ps := by
  obtain ⟨h1, h2, h3, h4⟩ := h
  refine ⟨h1, h2, h3, ?_⟩
  rcases h4 with h4 | ⟨b, off, rfl, hc⟩
  · exact .inl h4
  · refine .inr ⟨b, off, rfl, fun j hj => ?_⟩
    obtain ⟨c0, c1⟩ := hc j hj
    exact ⟨(hb.cell (p := ⟨b, off + j * 2, none⟩) (World.block_lt_of_cell? w _ c0)).trans c0, (hb.cell (p := ⟨b, off + j * 2 + 1, none⟩) (World.block_lt_of_cell? w _ c1)).trans c1⟩
/-- An entry's word. -/
def entN (e : Int × Nat) : Nat := e.1.toNat * 4294967296 + e.2
def layFold (L : Nat) (ps : List (Int × Nat)) (ys : List Nat) : Nat → List Nat
  | 0 => ys
  | k + 1 => (layFold L ps ys k).set (L + k) (entN (ps[k]?.getD (0, 0)))
theorem layFold_length (L : Nat) (ps : List (Int × Nat)) (ys : List Nat) (k : Nat) : (layFold L ps ys k).length = ys.length := by
  induction k with
  | zero => rfl
  | succ k ih => rw [layFold, List.length_set, ih]
def pairB (t p : Int) (e : Int × Nat) : Bool := decide (0 ≤ e.1 ∧ e.1 < cellsN t p)
def pairsB (t p : Int) (ps : List (Int × Nat)) : Bool := ps.all (pairB t p)
theorem pairsB_no {t p : Int} {ps : List (Int × Nat)} {k : Nat} (hk : k < ps.length) (h : ¬ (0 ≤ (ps[k]?.getD (0, 0)).1 ∧ (ps[k]?.getD (0, 0)).1 < cellsN t p)) : pairsB t p ps = false := by
  rw [List.getElem?_eq_getElem hk] at h
  rw [pairsB, List.all_eq_false]
  exact ⟨ps[k], List.getElem_mem hk, by simpa [pairB] using h⟩
theorem pairsB_yes {t p : Int} {ps : List (Int × Nat)} (h : ∀ k, k < ps.length → 0 ≤ (ps[k]?.getD (0, 0)).1 ∧ (ps[k]?.getD (0, 0)).1 < cellsN t p) : pairsB t p ps = true := by
  rw [pairsB, List.all_eq_true]
  intro x hx
  obtain ⟨k, hk, rfl⟩ := List.getElem_of_mem hx
  have := h k hk
  rw [List.getElem?_eq_getElem hk] at this
  simpa [pairB] using this
def layO (t p u : Int) (S : Nat) (ps : List (Int × Nat)) (ws : List Nat) : Option (List Nat) :=
  if pairsB t p ps = true then some (layFold (logI t p u) ps (ws.set (noteI t p u) (S * 4294967296 + ps.length + 2147483648)) ps.length) else none

set_option maxRecDepth 100000 in
set_option maxHeartbeats 3200000 in
theorem redoLay (t p s u : Int) (S : Nat) (w : World) (a al : Option Addr) (len cap n cl : Nat) (ws : List Nat) (ps : List (Int × Nat)) (hs : Seen .u64 w a len cap ws) (ho : okW t p s len) (h0 : 0 ≤ u) (h1 : u ≤ t) (hS : S < 4294967296) (hp : SeenP w al n cl ps) (hn : n ≤ 96) (hv : ∀ k, k < n → (ps[k]?.getD (0, 0)).2 < 4294967296) :
    Calls Try.prog 14 #[.agg #[.int .i64 t, .int .i64 p, .int .i64 s], .slice a len cap, .int .i64 u, .int .u32 (S : Int), .slice al n cl] w (OptPost 46 .u64 w (layO t p u S ps ws)) := by
  have hlen := hs.1
  have hlc := hs.2.1
  have hlm := hs.2.2.1
  obtain ⟨i1, i2, i3, i4⟩ := noteI_bd ho h0 h1
  have hbd := (okW_words ho).2
  have M := hid (makerYes ho.1 h0 h1)
  have NW := hid (show noteW t p s u = ((noteI t p u : Nat) : Int) by rw [noteW, if_pos ⟨ho.1, h0, h1⟩, i1])
  have LW := hidAll fun (j : Nat) (hj : j < 96) => (show logW t p s u (j : Int) = ((logI t p u + j : Nat) : Int) by rw [logW, if_pos ⟨ho.1, ⟨h0, h1⟩, by omega, by omega⟩]; omega)
  have HO := hid ho
  have C := hid (show cellsC t p s = cellsN t p by rw [cellsC, ho.1]; rfl)
  obtain ⟨⟨h1', h2⟩, ⟨h3, h4⟩, h5, h6⟩ := rightC_of ho.1
  have cb : 58 ≤ cellsN t p ∧ cellsN t p ≤ 6238 := by unfold cellsN; omega
  have PC := hidAll fun w => by have h := placeCells t p s w; rw [C.out] at h; exact h
  have HS := hid hs
  have HP := hid hp
  have HV := hid hv
  have HPL := hid hp.1
  have PN := hidAll fun k => @pairsB_no t p ps k
  have PY := hid (@pairsB_yes t p ps)
  have NV := hid (show noteV (S : Int) (n : Int) true = .tuple #[.int .u64 ((S * 4294967296 + n + 2147483648 : Nat) : Int), .bool true] by
    rw [noteV, if_pos ⟨by omega, by omega⟩]; simp)
  have LY := hid (show pairsB t p ps = true → layO t p u S ps ws = some (layFold (logI t p u) ps (ws.set (noteI t p u) (S * 4294967296 + n + 2147483648)) n) from fun h => by rw [layO, if_pos h, hp.1])
  have LN := hid (show pairsB t p ps = false → layO t p u S ps ws = none from fun h => by rw [layO, if_neg (by rw [h]; decide)])
  have hq := extCell
  clear hs ho hp hv i1 i2 h1' h2 h3 h4 h5 h6 C
  generalize noteI t p u = ni at NW i3 LY
  generalize logI t p u = L at LW i4 LY
  generalize cellsN t p = N at *
  generalize hNt : S * 4294967296 + n + 2147483648 = nt at *
  have LF := hidAll fun k => layFold_length L ps (ws.set ni nt) k
  have LZ := hid (show layFold L ps (ws.set ni nt) 0 = ws.set ni nt from rfl)
  have LS := hidAll fun k => (show layFold L ps (ws.set ni nt) (k + 1) = (layFold L ps (ws.set ni nt) k).set (L + k) (entN (ps[k]?.getD (0, 0))) from rfl)
  go_enter Try.func14, Try.ntmps14
  go_wp2_with fail
  refine (markNote S n true _ (by omega) (by omega)).mono ?_
  rw [NV.out]
  rintro e w0 ⟨rfl, hb0⟩
  have z0 : w.heap.size < w0.heap.size := by have := hb0.size; simp at this; omega
  have hC0 : Below (w.heap.size + 1) (w.alloc (.cells #[.int .i64 t, .int .i64 p, .int .i64 s] 23)) w0 := hb0.mono (by simp)
  have q0 : w0.cell? ⟨w.heap.size, 0, none⟩ = some (.int .i64 t) := (hC0.cell (p := ⟨w.heap.size, 0, none⟩) (Nat.lt_succ_self _)).trans (cellNew rfl rfl)
  have q1 : w0.cell? ⟨w.heap.size, 1, none⟩ = some (.int .i64 p) := (hC0.cell (p := ⟨w.heap.size, 1, none⟩) (Nat.lt_succ_self _)).trans (cellNew rfl rfl)
  have q2 : w0.cell? ⟨w.heap.size, 2, none⟩ = some (.int .i64 s) := (hC0.cell (p := ⟨w.heap.size, 2, none⟩) (Nat.lt_succ_self _)).trans (cellNew rfl rfl)
  clear hb0
  go_wp2_with fail
  refine (redoRightYes t p s _ _ len cap HO.out).mono ?_
  rintro e w1 ⟨rfl, hb1⟩
  have z1 : w.heap.size < w1.heap.size := by have := hb1.size; omega
  have hC1 : Below (w.heap.size + 1) (w.alloc (.cells #[.int .i64 t, .int .i64 p, .int .i64 s] 23)) w1 := hC0.trans (hb1.mono (by omega))
  have q0 := (hb1.cell (p := ⟨w.heap.size, 0, none⟩) z0).trans q0
  have q1 := (hb1.cell (p := ⟨w.heap.size, 1, none⟩) z0).trans q1
  have q2 := (hb1.cell (p := ⟨w.heap.size, 2, none⟩) z0).trans q2
  clear hb1
  go_wp2_with fail
  refine (redoMaker t p s u _ true M).mono ?_
  rintro e w2 ⟨rfl, hb2⟩
  have z2 : w.heap.size < w2.heap.size := by have := hb2.size; omega
  have hC2 : Below (w.heap.size + 1) (w.alloc (.cells #[.int .i64 t, .int .i64 p, .int .i64 s] 23)) w2 := hC1.trans (hb2.mono (by omega))
  have hB2 : Below w.heap.size w w2 := ((Below.refl _ _).alloc (Nat.le_refl _) _).trans (hC2.mono (by omega))
  have q0 := (hb2.cell (p := ⟨w.heap.size, 0, none⟩) z1).trans q0
  have q1 := (hb2.cell (p := ⟨w.heap.size, 1, none⟩) z1).trans q1
  have q2 := (hb2.cell (p := ⟨w.heap.size, 2, none⟩) z1).trans q2
  clear hb2
  have hs2 := HS.out.below hB2
  go_wp2_with fail
  refine (cloneWords _ _ len cap ws hs2 (by omega)).mono ?_
  rintro e w3 ⟨a3, m3, cap3, rfl, ho3, hb3⟩
  obtain ⟨g3, hca⟩ : ∃ g3, .slice a3 m3 cap3 = Value.slice (some ⟨g3, 0, none⟩) len cap3 ∧ w2.heap.size ≤ g3 ∧ g3 < w3.heap.size := by
    obtain ⟨g, c', h1, h2, h3, _⟩ := ho3.form (by rw [HS.out.1]; omega)
    rw [HS.out.1] at h1
    cases h1
    exact ⟨g, rfl, h2, h3⟩
  obtain ⟨hv3, hg3, hg3'⟩ := hca
  rw [hv3] at ho3 ⊢
  clear hv3 hs2
  have z3 : w.heap.size < w3.heap.size := by omega
  have hC3 : Below (w.heap.size + 1) (w.alloc (.cells #[.int .i64 t, .int .i64 p, .int .i64 s] 23)) w3 := hC2.trans (hb3.mono (by omega))
  have q0 := (hb3.cell (p := ⟨w.heap.size, 0, none⟩) z2).trans q0
  have q1 := (hb3.cell (p := ⟨w.heap.size, 1, none⟩) z2).trans q1
  have q2 := (hb3.cell (p := ⟨w.heap.size, 2, none⟩) z2).trans q2
  clear hb3
  go_wp2_with fail
  refine (placeNote t p s u _).mono ?_
  rw [NW.out]
  rintro e w4 ⟨rfl, hb4⟩
  have z4 : w.heap.size < w4.heap.size := by have := hb4.size; omega
  have z4g : g3 < w4.heap.size := by have := hb4.size; omega
  have hC4 : Below (w.heap.size + 1) (w.alloc (.cells #[.int .i64 t, .int .i64 p, .int .i64 s] 23)) w4 := hC3.trans (hb4.mono (by omega))
  have q0 := (hb4.cell (p := ⟨w.heap.size, 0, none⟩) z3).trans q0
  have q1 := (hb4.cell (p := ⟨w.heap.size, 1, none⟩) z3).trans q1
  have q2 := (hb4.cell (p := ⟨w.heap.size, 2, none⟩) z3).trans q2
  have ho4 := ho3.kept hb4 (Nat.le_refl _)
  have WL := hid hlen
  have hcn := ho4.cell WL.out ni (by omega)
  have hfn := ho4.unfrozen WL.out ni
  have ho5 := ho4.stored WL.out ni nt
  rw [← LZ.out] at ho5
  have hC5 := hC4.setCell (p := ⟨g3, ni, none⟩) (by show w.heap.size + 1 ≤ g3; omega) (.int .u64 (nt : Int))
  have z5 : g3 < (w4.setCell ⟨g3, ni, none⟩ (.int .u64 (nt : Int))).heap.size := by simpa using z4g
  generalize ws[ni]?.getD 0 = y at hcn
  clear hb4 ho3 ho4
  go_wp2_with fail
  have hLen : ∀ k, (layFold L ps (ws.set ni nt) k).length = len := fun k => by rw [LF.out, List.length_set, WL.out]
  have HLen := hid hLen
  clear hLen hcn hfn q0 q1 q2
  go_loopw [51] (fun i wr => ∃ j : Nat, j ≤ n ∧ i = .int .i64 j ∧ Own 46 .u64 wr (w2.heap.size) (.slice (some ⟨g3, 0, none⟩) len cap3) (layFold L ps (ws.set ni nt) j) ∧ RowKit.Hid (∀ k, k < j → 0 ≤ (ps[k]?.getD (0, 0)).1 ∧ (ps[k]?.getD (0, 0)).1 < N) ∧ Below (w.heap.size + 1) (w.alloc (.cells #[.int .i64 t, .int .i64 p, .int .i64 s] 23)) wr ∧ g3 < wr.heap.size) (fun i _ => n - (intOf i).toNat)
  case atStart => exact ⟨0, by omega, rfl, ho5, hid (fun k hk => by omega), hC5, z5⟩
  case round =>
    clear ho5 hC5 z5 LZ
    obtain ⟨j, hj, rfl, hO, hA, hC, hgr⟩ := hrel
    have zr : w.heap.size < wr.heap.size := by have := hC.size; simp at this; omega
    have hB : Below w.heap.size w wr := ((Below.refl _ _).alloc (Nat.le_refl _) _).trans (hC.mono (by omega))
    have q0 : wr.cell? ⟨w.heap.size, 0, none⟩ = some (.int .i64 t) := (hC.cell (p := ⟨w.heap.size, 0, none⟩) (Nat.lt_succ_self _)).trans (cellNew rfl rfl)
    have q1 : wr.cell? ⟨w.heap.size, 1, none⟩ = some (.int .i64 p) := (hC.cell (p := ⟨w.heap.size, 1, none⟩) (Nat.lt_succ_self _)).trans (cellNew rfl rfl)
    have q2 : wr.cell? ⟨w.heap.size, 2, none⟩ = some (.int .i64 s) := (hC.cell (p := ⟨w.heap.size, 2, none⟩) (Nat.lt_succ_self _)).trans (cellNew rfl rfl)
    by_cases hlt : j < n
    · obtain ⟨_, hncl, hclm, h4⟩ := HP.out.below hB
      rcases h4 with h4 | ⟨b0, off, rfl, hcr⟩
      · omega
      obtain ⟨ce0, ce1⟩ := hcr j hlt
      have hve := HV.out j hlt
      have pn := hid (PN.out j (by rw [HPL.out]; exact hlt))
      have ls := hid (LS.out j)
      have en := hid (show entN (ps[j]?.getD (0, 0)) = (ps[j]?.getD (0, 0)).1.toNat * 4294967296 + (ps[j]?.getD (0, 0)).2 from rfl)
      have hA2 := hid (show 0 ≤ (ps[j]?.getD (0, 0)).1 ∧ (ps[j]?.getD (0, 0)).1 < N → ∀ k, k < j + 1 → 0 ≤ (ps[k]?.getD (0, 0)).1 ∧ (ps[k]?.getD (0, 0)).1 < N from fun h k hk => by
        by_cases hkj : k = j
        · rw [hkj]; exact h
        · exact hA.out k (by omega))
      clear hcr hA
      have lw := hid (LW.out j (by omega))
      generalize entN (ps[j]?.getD (0, 0)) = ew at ls en
      generalize (ps[j]?.getD (0, 0)).1 = ce at ce0 pn en hA2
      generalize (ps[j]?.getD (0, 0)).2 = ve at ce1 hve en
      have ll := hid (HLen.out j)
      generalize layFold L ps (ws.set ni nt) j = cur at hO ls ll
      by_cases hbig : 0 ≤ ce ∧ ce ≤ 65535
      · have O := hid (show entryV ce ve = .tuple #[.int .u64 (ce * 4294967296 + ve), .bool true] by rw [entryV, if_pos hbig])
        have hO2 := hid (hO.kept (B := wr.heap.size) ((Below.refl _ _).alloc (Nat.le_refl _) (.cells #[.int .i64 ce, .int .u32 (ve : Int)] 75)) (Nat.le_refl _))
        go_wp2_with fail
        refine (markEntry ce ve _ (by omega) (by omega)).mono ?_
        rw [O.out]
        rintro e wA ⟨rfl, hbA⟩
        have zA : wr.heap.size < wA.heap.size := by have := hbA.size; simp at this; omega
        have zA2 : w.heap.size < wA.heap.size := by omega
        have hOA := hO2.out.kept hbA (Nat.le_refl _)
        have hCA : Below (w.heap.size + 1) (w.alloc (.cells #[.int .i64 t, .int .i64 p, .int .i64 s] 23)) wA := (hC.alloc (by omega) _).trans (hbA.mono (by simp; omega))
        have p0 : wA.cell? ⟨wr.heap.size, 0, none⟩ = some (.int .i64 ce) := (hbA.cell (p := ⟨wr.heap.size, 0, none⟩) (by simp)).trans (cellNew rfl rfl)
        have q0 : wA.cell? ⟨w.heap.size, 0, none⟩ = some (.int .i64 t) := (hCA.cell (p := ⟨w.heap.size, 0, none⟩) (Nat.lt_succ_self _)).trans (cellNew rfl rfl)
        have q1 : wA.cell? ⟨w.heap.size, 1, none⟩ = some (.int .i64 p) := (hCA.cell (p := ⟨w.heap.size, 1, none⟩) (Nat.lt_succ_self _)).trans (cellNew rfl rfl)
        have q2 : wA.cell? ⟨w.heap.size, 2, none⟩ = some (.int .i64 s) := (hCA.cell (p := ⟨w.heap.size, 2, none⟩) (Nat.lt_succ_self _)).trans (cellNew rfl rfl)
        clear hbA hO hC ce0 ce1 hB
        by_cases hin : ce < N
        · have d : decide (N ≤ ce) = false := by simp; omega
          have hA3 := hid (hA2.out ⟨hbig.1, hin⟩)
          go_wp2_with fail
          refine regionBelow (by kernel_rfl) (by kernel_rfl) ?_
          repeat (go_big_quiet_step ((go_at_call 51; exact quietBelow (PC.out _))))
          refine wpQuiet_nil ?_
          intro _ hw'
          obtain ⟨nq, hw''⟩ := hw'
          subst hw''
          have hn2 := nq.below
          have hz2 := hn2.size
          (try simp at hz2)
          have hOB := hOA.kept hn2 (Nat.le_refl _)
          have hCB := hCA.trans (hn2.mono (by omega))
          have zB : w.heap.size < nq.to.heap.size := by omega
          have zBg : g3 < nq.to.heap.size := by omega
          have q0 := (hn2.cell (p := ⟨w.heap.size, 0, none⟩) zA2).trans q0
          have q1 := (hn2.cell (p := ⟨w.heap.size, 1, none⟩) zA2).trans q1
          have q2 := (hn2.cell (p := ⟨w.heap.size, 2, none⟩) zA2).trans q2
          clear hOA hCA
          go_wp2_with fail
          refine (placeLog t p s u j _).mono ?_
          rw [lw.out]
          rintro e wC ⟨rfl, hbC⟩
          have hOC := hOB.kept hbC (Nat.le_refl _)
          have hCC := hCB.trans (hbC.mono (by omega))
          have zC := hbC.size
          have hcy := hOC.cell ll.out (L + j) (by omega)
          have hfy := hOC.unfrozen ll.out (L + j)
          generalize cur[L + j]?.getD 0 = y2 at hcy
          have hOD := hOC.stored ll.out (L + j) ew
          have hew : ((ew : Nat) : Int) = ce * 4294967296 + ve := by have := en.out; omega
          rw [hew] at hOD
          rw [← ls.out] at hOD
          clear hbC hOB hCB hOC
          go_wp2_with fail
          go_roundw
          case rel => exact ⟨j + 1, by omega, by go_num, hOD, hA3, hCC.setCell (by show w.heap.size + 1 ≤ g3; omega) _, by simp; omega⟩
          case measure => simp [intOf]; omega
        · have d : decide (N ≤ ce) = true := by simp; omega
          have hno := hid (LN.out (pn.out (by omega)))
          go_wp2_with fail
          refine regionBelow (by kernel_rfl) (by kernel_rfl) ?_
          repeat (go_big_quiet_step ((go_at_call 51; exact quietBelow (PC.out _))))
          refine wpQuiet_nil ?_
          intro _ hw'
          obtain ⟨nq, hw''⟩ := hw'
          subst hw''
          have hn2 := nq.below
          have hB9 : Below w.heap.size w nq.to := ((Below.refl _ _).alloc (Nat.le_refl _) _).trans ((hCA.trans (hn2.mono (by omega))).mono (by omega))
          go_wp2_with fail
          go_ret2
          exact .inr ⟨hno.out, rfl, hB9⟩
      · have O := hid (show entryV ce ve = .tuple #[.int .u64 0, .bool false] by rw [entryV, if_neg hbig])
        have hno := hid (LN.out (pn.out (by omega)))
        go_wp2_with fail
        refine (markEntry ce ve _ (by omega) (by omega)).mono ?_
        rw [O.out]
        rintro e wA ⟨rfl, hbA⟩
        have zA : wr.heap.size < wA.heap.size := by have := hbA.size; simp at this; omega
        have zA2 : w.heap.size < wA.heap.size := by omega
        have hCA : Below (w.heap.size + 1) (w.alloc (.cells #[.int .i64 t, .int .i64 p, .int .i64 s] 23)) wA := (hC.alloc (by omega) _).trans (hbA.mono (by simp; omega))
        have p0 : wA.cell? ⟨wr.heap.size, 0, none⟩ = some (.int .i64 ce) := (hbA.cell (p := ⟨wr.heap.size, 0, none⟩) (by simp)).trans (cellNew rfl rfl)
        have q0 : wA.cell? ⟨w.heap.size, 0, none⟩ = some (.int .i64 t) := (hCA.cell (p := ⟨w.heap.size, 0, none⟩) (Nat.lt_succ_self _)).trans (cellNew rfl rfl)
        have q1 : wA.cell? ⟨w.heap.size, 1, none⟩ = some (.int .i64 p) := (hCA.cell (p := ⟨w.heap.size, 1, none⟩) (Nat.lt_succ_self _)).trans (cellNew rfl rfl)
        have q2 : wA.cell? ⟨w.heap.size, 2, none⟩ = some (.int .i64 s) := (hCA.cell (p := ⟨w.heap.size, 2, none⟩) (Nat.lt_succ_self _)).trans (cellNew rfl rfl)
        clear hbA hO hC ce0 ce1 hB
        go_wp2_with fail
        refine regionBelow (by kernel_rfl) (by kernel_rfl) ?_
        repeat (go_big_quiet_step ((go_at_call 51; exact quietBelow (PC.out _))))
        refine wpQuiet_nil ?_
        intro _ hw'
        obtain ⟨nq, hw''⟩ := hw'
        subst hw''
        have hn2 := nq.below
        have hB9 : Below w.heap.size w nq.to := ((Below.refl _ _).alloc (Nat.le_refl _) _).trans ((hCA.trans (hn2.mono (by omega))).mono (by omega))
        go_wp2_with fail
        go_ret2
        exact .inr ⟨hno.out, rfl, hB9⟩
    · obtain rfl : j = n := by omega
      have hyes := hid (LY.out (PY.out (fun k hk => hA.out k (by rw [HPL.out] at hk; exact hk))))
      clear hA
      go_wp2_with fail
      go_ret2
      exact .inl ⟨_, hyes.out, _, _, _, rfl, hO.rebase (by have := hC2.size; simp at this; omega), hB⟩
end Go.Proofs.Ytkkhoiahjmfibaa
