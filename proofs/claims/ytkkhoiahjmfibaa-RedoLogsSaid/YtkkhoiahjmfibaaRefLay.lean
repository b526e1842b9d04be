/- The walk of the reference's Lay, and the failing ways of the program's. -/
import Derived.Test.YtkkhoiahjmfibaaLay
import Derived.Test.YtkkhoiahjmfibaaRefLog
import Derived.Deep.RegionHeld3
import Derived.Deep.DeepCutAuto
namespace Go.Proofs.Ytkkhoiahjmfibaa
open Go.RowKit
set_option linter.unusedVariables false
set_option linter.unusedSimpArgs false

theorem layFold_set (L : Nat) (ps : List (Int × Nat)) (ws : List Nat) (ni nt : Nat) (h : ni < L) (n : Nat) : (layFold L ps ws n).set ni nt = layFold L ps (ws.set ni nt) n := by
  induction n with
  | zero => rfl
  | succ n ih => rw [layFold, layFold, ← ih, List.set_comm _ _ (by omega)]

set_option maxHeartbeats 1600000 in
theorem refLayNo (t p s u : Int) (S : Nat) (w : World) (a al : Option Addr) (len cap n cl : Nat) (hcl : n ≤ cl ∧ cl ≤ maxLen) (h : ¬ (okW t p s len ∧ (0 ≤ u ∧ u ≤ t) ∧ n ≤ 96)) :
    Calls Try.prog 15 #[.agg #[.int .i64 t, .int .i64 p, .int .i64 s], .slice a len cap, .int .i64 u, .int .u32 (S : Int), .slice al n cl] w (OptPost 46 .u64 w none) := by
  obtain ⟨hcl, hcm⟩ := hcl
  by_cases ho : okW t p s len
  · by_cases h0 : 0 ≤ u
    · by_cases h1 : u ≤ t
      · have h2 : 96 < n := by
          by_cases h2 : n ≤ 96
          · exact absurd ⟨ho, ⟨h0, h1⟩, h2⟩ h
          · omega
        have HO := hid ho
        clear h ho
        go_enter Try.func15, Try.ntmps15
        go_wp2_with fail
        refine (refRight27Yes t p s _ a len cap HO.out).mono ?_
        rintro e w1 ⟨rfl, hb1⟩
        have hC1 : Below (w.heap.size + 1) (w.alloc (.cells #[.int .i64 t, .int .i64 p, .int .i64 s] 23)) w1 := hb1.mono (by simp)
        have z1 : w.heap.size < w1.heap.size := by have := hb1.size; simp at this; omega
        have hB1 : Below w.heap.size w w1 := bel
        have q0 : w1.cell? ⟨w.heap.size, 0, none⟩ = some (.int .i64 t) := (hC1.cell (p := ⟨w.heap.size, 0, none⟩) (Nat.lt_succ_self _)).trans (cellNew rfl rfl)
        have q1 : w1.cell? ⟨w.heap.size, 1, none⟩ = some (.int .i64 p) := (hC1.cell (p := ⟨w.heap.size, 1, none⟩) (Nat.lt_succ_self _)).trans (cellNew rfl rfl)
        have q2 : w1.cell? ⟨w.heap.size, 2, none⟩ = some (.int .i64 s) := (hC1.cell (p := ⟨w.heap.size, 2, none⟩) (Nat.lt_succ_self _)).trans (cellNew rfl rfl)
        clear hb1
        go_wp2_with fail
        go_ret2
        exact .inr ⟨rfl, rfl, bel⟩
      · have h2 : t < u := by omega
        have HO := hid ho
        clear h ho h1
        go_enter Try.func15, Try.ntmps15
        go_wp2_with fail
        refine (refRight27Yes t p s _ a len cap HO.out).mono ?_
        rintro e w1 ⟨rfl, hb1⟩
        have hC1 : Below (w.heap.size + 1) (w.alloc (.cells #[.int .i64 t, .int .i64 p, .int .i64 s] 23)) w1 := hb1.mono (by simp)
        have z1 : w.heap.size < w1.heap.size := by have := hb1.size; simp at this; omega
        have hB1 : Below w.heap.size w w1 := bel
        have q0 : w1.cell? ⟨w.heap.size, 0, none⟩ = some (.int .i64 t) := (hC1.cell (p := ⟨w.heap.size, 0, none⟩) (Nat.lt_succ_self _)).trans (cellNew rfl rfl)
        have q1 : w1.cell? ⟨w.heap.size, 1, none⟩ = some (.int .i64 p) := (hC1.cell (p := ⟨w.heap.size, 1, none⟩) (Nat.lt_succ_self _)).trans (cellNew rfl rfl)
        have q2 : w1.cell? ⟨w.heap.size, 2, none⟩ = some (.int .i64 s) := (hC1.cell (p := ⟨w.heap.size, 2, none⟩) (Nat.lt_succ_self _)).trans (cellNew rfl rfl)
        clear hb1
        go_wp2_with fail
        go_ret2
        exact .inr ⟨rfl, rfl, bel⟩
    · have h1 : u < 0 := by omega
      have HO := hid ho
      clear h ho h0
      go_enter Try.func15, Try.ntmps15
      go_wp2_with fail
      refine (refRight27Yes t p s _ a len cap HO.out).mono ?_
      rintro e w1 ⟨rfl, hb1⟩
      have hC1 : Below (w.heap.size + 1) (w.alloc (.cells #[.int .i64 t, .int .i64 p, .int .i64 s] 23)) w1 := hb1.mono (by simp)
      have z1 : w.heap.size < w1.heap.size := by have := hb1.size; simp at this; omega
      have hB1 : Below w.heap.size w w1 := bel
      have q0 : w1.cell? ⟨w.heap.size, 0, none⟩ = some (.int .i64 t) := (hC1.cell (p := ⟨w.heap.size, 0, none⟩) (Nat.lt_succ_self _)).trans (cellNew rfl rfl)
      have q1 : w1.cell? ⟨w.heap.size, 1, none⟩ = some (.int .i64 p) := (hC1.cell (p := ⟨w.heap.size, 1, none⟩) (Nat.lt_succ_self _)).trans (cellNew rfl rfl)
      have q2 : w1.cell? ⟨w.heap.size, 2, none⟩ = some (.int .i64 s) := (hC1.cell (p := ⟨w.heap.size, 2, none⟩) (Nat.lt_succ_self _)).trans (cellNew rfl rfl)
      clear hb1
      go_wp2_with fail
      go_ret2
      exact .inr ⟨rfl, rfl, bel⟩
  · have HO := hid ho
    clear h ho
    go_enter Try.func15, Try.ntmps15
    go_wp2_with fail
    refine (refRight27No t p s _ a len cap HO.out).mono ?_
    rintro e w1 ⟨rfl, hb1⟩
    have hC1 : Below (w.heap.size + 1) (w.alloc (.cells #[.int .i64 t, .int .i64 p, .int .i64 s] 23)) w1 := hb1.mono (by simp)
    have z1 : w.heap.size < w1.heap.size := by have := hb1.size; simp at this; omega
    have hB1 : Below w.heap.size w w1 := bel
    have q0 : w1.cell? ⟨w.heap.size, 0, none⟩ = some (.int .i64 t) := (hC1.cell (p := ⟨w.heap.size, 0, none⟩) (Nat.lt_succ_self _)).trans (cellNew rfl rfl)
    have q1 : w1.cell? ⟨w.heap.size, 1, none⟩ = some (.int .i64 p) := (hC1.cell (p := ⟨w.heap.size, 1, none⟩) (Nat.lt_succ_self _)).trans (cellNew rfl rfl)
    have q2 : w1.cell? ⟨w.heap.size, 2, none⟩ = some (.int .i64 s) := (hC1.cell (p := ⟨w.heap.size, 2, none⟩) (Nat.lt_succ_self _)).trans (cellNew rfl rfl)
    clear hb1
    go_wp2_with fail
    go_ret2
    exact .inr ⟨rfl, rfl, bel⟩

set_option maxHeartbeats 1600000 in
theorem redoLayNo (t p s u : Int) (S : Nat) (w : World) (a al : Option Addr) (len cap n cl : Nat) (hS : S < 4294967296) (hcl : n ≤ cl ∧ cl ≤ maxLen) (h : ¬ (okW t p s len ∧ (0 ≤ u ∧ u ≤ t) ∧ n ≤ 96)) :
    Calls Try.prog 14 #[.agg #[.int .i64 t, .int .i64 p, .int .i64 s], .slice a len cap, .int .i64 u, .int .u32 (S : Int), .slice al n cl] w (OptPost 46 .u64 w none) := by
  obtain ⟨hcl, hcm⟩ := hcl
  obtain ⟨nx, nb, hnv⟩ : ∃ nx nb, noteV (S : Int) (n : Int) true = .tuple #[.int .u64 nx, .bool nb] := by
    unfold noteV
    split
    · exact ⟨_, _, rfl⟩
    · exact ⟨_, _, rfl⟩
  by_cases ho : okW t p s len
  · by_cases hu : 0 ≤ u ∧ u ≤ t
    · have h2 : 96 < n := by
        by_cases h2 : n ≤ 96
        · exact absurd ⟨ho, hu, h2⟩ h
        · omega
      have M := hid (makerYes ho.1 hu.1 hu.2)
      have NV := hid (show noteV (S : Int) (n : Int) true = .tuple #[.int .u64 0, .bool false] by rw [noteV, if_neg (by omega)])
      have HO := hid ho
      clear h ho hnv
      go_enter Try.func14, Try.ntmps14
      go_wp2_with fail
      refine (markNote S n true _ (by omega) (by omega)).mono ?_
      rw [NV.out]
      rintro e w1 ⟨rfl, hb1⟩
      have hC1 : Below (w.heap.size + 1) (w.alloc (.cells #[.int .i64 t, .int .i64 p, .int .i64 s] 23)) w1 := hb1.mono (by simp)
      have z1 : w.heap.size < w1.heap.size := by have := hb1.size; simp at this; omega
      have hB1 : Below w.heap.size w w1 := bel
      have q0 : w1.cell? ⟨w.heap.size, 0, none⟩ = some (.int .i64 t) := (hC1.cell (p := ⟨w.heap.size, 0, none⟩) (Nat.lt_succ_self _)).trans (cellNew rfl rfl)
      have q1 : w1.cell? ⟨w.heap.size, 1, none⟩ = some (.int .i64 p) := (hC1.cell (p := ⟨w.heap.size, 1, none⟩) (Nat.lt_succ_self _)).trans (cellNew rfl rfl)
      have q2 : w1.cell? ⟨w.heap.size, 2, none⟩ = some (.int .i64 s) := (hC1.cell (p := ⟨w.heap.size, 2, none⟩) (Nat.lt_succ_self _)).trans (cellNew rfl rfl)
      clear hb1
      go_wp2_with fail
      refine (redoRightYes t p s _ _ len cap HO.out).mono ?_
      rintro e w2 ⟨rfl, hb2⟩
      have hB2 : Below w.heap.size w w2 := hB1.trans (hb2.mono (by omega))
      have z2 : w.heap.size < w2.heap.size := by have := hb2.size; omega
      have q0 := (hb2.cell (p := ⟨w.heap.size, 0, none⟩) z1).trans q0
      have q1 := (hb2.cell (p := ⟨w.heap.size, 1, none⟩) z1).trans q1
      have q2 := (hb2.cell (p := ⟨w.heap.size, 2, none⟩) z1).trans q2
      clear hb2
      go_wp2_with fail
      refine (redoMaker t p s u _ true M).mono ?_
      rintro e w3 ⟨rfl, hb3⟩
      have hB3 : Below w.heap.size w w3 := hB2.trans (hb3.mono (by omega))
      clear hb3
      go_wp2_with fail
      go_ret2
      exact .inr ⟨rfl, rfl, bel⟩
    · have M := hid (makerNo (t := t) (p := p) (s := s) (u := u) hu)
      have NV := hid hnv
      have HO := hid ho
      clear h ho hnv hu
      go_enter Try.func14, Try.ntmps14
      go_wp2_with fail
      refine (markNote S n true _ (by omega) (by omega)).mono ?_
      rw [NV.out]
      rintro e w1 ⟨rfl, hb1⟩
      have hC1 : Below (w.heap.size + 1) (w.alloc (.cells #[.int .i64 t, .int .i64 p, .int .i64 s] 23)) w1 := hb1.mono (by simp)
      have z1 : w.heap.size < w1.heap.size := by have := hb1.size; simp at this; omega
      have hB1 : Below w.heap.size w w1 := bel
      have q0 : w1.cell? ⟨w.heap.size, 0, none⟩ = some (.int .i64 t) := (hC1.cell (p := ⟨w.heap.size, 0, none⟩) (Nat.lt_succ_self _)).trans (cellNew rfl rfl)
      have q1 : w1.cell? ⟨w.heap.size, 1, none⟩ = some (.int .i64 p) := (hC1.cell (p := ⟨w.heap.size, 1, none⟩) (Nat.lt_succ_self _)).trans (cellNew rfl rfl)
      have q2 : w1.cell? ⟨w.heap.size, 2, none⟩ = some (.int .i64 s) := (hC1.cell (p := ⟨w.heap.size, 2, none⟩) (Nat.lt_succ_self _)).trans (cellNew rfl rfl)
      clear hb1
      go_wp2_with fail
      refine (redoRightYes t p s _ _ len cap HO.out).mono ?_
      rintro e w2 ⟨rfl, hb2⟩
      have hB2 : Below w.heap.size w w2 := hB1.trans (hb2.mono (by omega))
      have z2 : w.heap.size < w2.heap.size := by have := hb2.size; omega
      have q0 := (hb2.cell (p := ⟨w.heap.size, 0, none⟩) z1).trans q0
      have q1 := (hb2.cell (p := ⟨w.heap.size, 1, none⟩) z1).trans q1
      have q2 := (hb2.cell (p := ⟨w.heap.size, 2, none⟩) z1).trans q2
      clear hb2
      go_wp2_with fail
      refine (redoMaker t p s u _ false M).mono ?_
      rintro e w3 ⟨rfl, hb3⟩
      have hB3 : Below w.heap.size w w3 := hB2.trans (hb3.mono (by omega))
      clear hb3
      go_wp2_with fail
      go_ret2
      exact .inr ⟨rfl, rfl, bel⟩
  · have HO := hid ho
    have NV := hid hnv
    clear h ho hnv
    go_enter Try.func14, Try.ntmps14
    go_wp2_with fail
    refine (markNote S n true _ (by omega) (by omega)).mono ?_
    rw [NV.out]
    rintro e w1 ⟨rfl, hb1⟩
    have hC1 : Below (w.heap.size + 1) (w.alloc (.cells #[.int .i64 t, .int .i64 p, .int .i64 s] 23)) w1 := hb1.mono (by simp)
    have z1 : w.heap.size < w1.heap.size := by have := hb1.size; simp at this; omega
    have hB1 : Below w.heap.size w w1 := bel
    have q0 : w1.cell? ⟨w.heap.size, 0, none⟩ = some (.int .i64 t) := (hC1.cell (p := ⟨w.heap.size, 0, none⟩) (Nat.lt_succ_self _)).trans (cellNew rfl rfl)
    have q1 : w1.cell? ⟨w.heap.size, 1, none⟩ = some (.int .i64 p) := (hC1.cell (p := ⟨w.heap.size, 1, none⟩) (Nat.lt_succ_self _)).trans (cellNew rfl rfl)
    have q2 : w1.cell? ⟨w.heap.size, 2, none⟩ = some (.int .i64 s) := (hC1.cell (p := ⟨w.heap.size, 2, none⟩) (Nat.lt_succ_self _)).trans (cellNew rfl rfl)
    clear hb1
    go_wp2_with fail
    refine (redoRightNo t p s _ _ len cap HO.out).mono ?_
    rintro e w2 ⟨rfl, hb2⟩
    have hB2 : Below w.heap.size w w2 := hB1.trans (hb2.mono (by omega))
    have z2 : w.heap.size < w2.heap.size := by have := hb2.size; omega
    have q0 := (hb2.cell (p := ⟨w.heap.size, 0, none⟩) z1).trans q0
    have q1 := (hb2.cell (p := ⟨w.heap.size, 1, none⟩) z1).trans q1
    have q2 := (hb2.cell (p := ⟨w.heap.size, 2, none⟩) z1).trans q2
    clear hb2
    go_wp2_with fail
    go_ret2
    exact .inr ⟨rfl, rfl, bel⟩

set_option maxRecDepth 100000 in
set_option maxHeartbeats 6400000 in
theorem refLayYes (t p s u : Int) (S : Nat) (w : World) (a al : Option Addr) (len cap n cl : Nat) (ws : List Nat) (ps : List (Int × Nat)) (hs : Seen .u64 w a len cap ws) (ho : okW t p s len) (h0 : 0 ≤ u) (h1 : u ≤ t) (hS : S < 4294967296) (hp : SeenP w al n cl ps) (hn : n ≤ 96) (hv : ∀ k, k < n → (ps[k]?.getD (0, 0)).2 < 4294967296) :
    Calls Try.prog 15 #[.agg #[.int .i64 t, .int .i64 p, .int .i64 s], .slice a len cap, .int .i64 u, .int .u32 (S : Int), .slice al n cl] w (OptPost 46 .u64 w (layO t p u S ps ws)) := by
  have hlen := hs.1
  have hlc := hs.2.1
  have hlm := hs.2.2.1
  obtain ⟨i1, i2, i3, i4⟩ := noteI_bd ho h0 h1
  have hbd := (okW_words ho).2
  have NW := hid (show noteW t p s u = ((noteI t p u : Nat) : Int) by rw [noteW, if_pos ⟨ho.1, h0, h1⟩, i1])
  have LW := hidAll fun (j : Nat) (hj : j < 96) => (show logW t p s u (j : Int) = ((logI t p u + j : Nat) : Int) by rw [logW, if_pos ⟨ho.1, ⟨h0, h1⟩, by omega, by omega⟩]; omega)
  have HO := hid ho
  have C := hid (show cellsC t p s = cellsN t p by rw [cellsC, ho.1]; rfl)
  obtain ⟨⟨h1', h2⟩, ⟨h3, h4⟩, h5, h6⟩ := rightC_of ho.1
  have cb : 58 ≤ cellsN t p ∧ cellsN t p ≤ 6238 := by unfold cellsN; omega
  have PC := hidAll fun w => by have h := refCells t p s w; rw [C.out] at h; exact h
  have HS := hid hs
  have HP := hid hp
  have HV := hid hv
  have HPL := hid hp.1
  have hncl := hp.2.1
  have hclm := hp.2.2.1
  have PN := hidAll fun k => @pairsB_no t p ps k
  have PY := hid (@pairsB_yes t p ps)
  have NV := hid (show noteV (S : Int) (n : Int) true = .tuple #[.int .u64 ((S * 4294967296 + n + 2147483648 : Nat) : Int), .bool true] by
    rw [noteV, if_pos ⟨by omega, by omega⟩]; simp)
  have ii : noteI t p u < logI t p u := by omega
  have LX := hidAll fun k => layFold_set (logI t p u) ps ws (noteI t p u) (S * 4294967296 + n + 2147483648) ii k
  have LY := hid (show pairsB t p ps = true → layO t p u S ps ws = some (layFold (logI t p u) ps (ws.set (noteI t p u) (S * 4294967296 + n + 2147483648)) n) from fun h => by rw [layO, if_pos h, hp.1])
  have LN := hid (show pairsB t p ps = false → layO t p u S ps ws = none from fun h => by rw [layO, if_neg (by rw [h]; decide)])
  have hq := extCell
  clear hs ho hp hv i1 i2 h1' h2 h3 h4 h5 h6 C
  generalize noteI t p u = ni at NW i3 LY LX ii
  generalize logI t p u = L at LW i4 LY LX ii
  generalize cellsN t p = N at *
  generalize hNt : S * 4294967296 + n + 2147483648 = nt at *
  have LF := hidAll fun k => layFold_length L ps ws k
  have LZ := hid (show layFold L ps ws 0 = ws from rfl)
  have LS := hidAll fun k => (show layFold L ps ws (k + 1) = (layFold L ps ws k).set (L + k) (entN (ps[k]?.getD (0, 0))) from rfl)
  go_enter Try.func15, Try.ntmps15
  go_wp2_with fail
  refine (refRight27Yes t p s _ _ len cap HO.out).mono ?_
  rintro e w1 ⟨rfl, hb1⟩
  have hC1 : Below (w.heap.size + 1) (w.alloc (.cells #[.int .i64 t, .int .i64 p, .int .i64 s] 23)) w1 := hb1.mono (by simp)
  have z1 : w.heap.size < w1.heap.size := by have := hb1.size; simp at this; omega
  have hB1 : Below w.heap.size w w1 := bel
  have q0 : w1.cell? ⟨w.heap.size, 0, none⟩ = some (.int .i64 t) := (hC1.cell (p := ⟨w.heap.size, 0, none⟩) (Nat.lt_succ_self _)).trans (cellNew rfl rfl)
  have q1 : w1.cell? ⟨w.heap.size, 1, none⟩ = some (.int .i64 p) := (hC1.cell (p := ⟨w.heap.size, 1, none⟩) (Nat.lt_succ_self _)).trans (cellNew rfl rfl)
  have q2 : w1.cell? ⟨w.heap.size, 2, none⟩ = some (.int .i64 s) := (hC1.cell (p := ⟨w.heap.size, 2, none⟩) (Nat.lt_succ_self _)).trans (cellNew rfl rfl)
  clear hb1
  have hs1 := HS.out.below hB1
  go_wp2_with (at_builtin; refine wpAppend rfl (.tmp 33) (.tmp 34) 24 46 rfl .u64 (.int .u64 0) 8 Try.underlying24 infoU64 rfl _ w1.heap.size _ [] rfl (Own.built _ _ _ _ [] _ 0 (Nat.le_refl _) rfl (by decide) rfl) _ _ _ ws rfl (hs1.below ((Below.refl _ _).alloc (Nat.le_refl _) _)) (by simp [maxLen]; omega) (by simp; omega) (by simp) ?_; intro v' w3 hown3 hgrow3; have hb3 : Below w1.heap.size w1 w3 := ((Below.refl _ _).alloc (Nat.le_refl _) _).grown hgrow3 (by simp) (by intro k hk; cases hk; exact Nat.le_refl _); clear hgrow3)
  have hown3 : Own 46 .u64 w3 w1.heap.size v' ws := by simpa using hown3
  obtain ⟨g3, hca⟩ : ∃ g3 cap3, v' = Value.slice (some ⟨g3, 0, none⟩) len cap3 ∧ w1.heap.size ≤ g3 ∧ g3 < w3.heap.size := by
    obtain ⟨g, c', h1, h2, h3, _⟩ := hown3.form (by rw [HS.out.1]; omega)
    rw [HS.out.1] at h1
    exact ⟨g, c', h1, h2, h3⟩
  obtain ⟨cap3, rfl, hg3, hg3'⟩ := hca
  have hC3 : Below (w.heap.size + 1) (w.alloc (.cells #[.int .i64 t, .int .i64 p, .int .i64 s] 23)) w3 := hC1.trans (hb3.mono (by omega))
  have WL := hid hlen
  have HLen := hidAll (fun k => show (layFold L ps ws k).length = len by rw [LF.out, WL.out])
  clear hs1 hb3 q0 q1 q2
  rw [← LZ.out] at hown3
  go_wp2_with fail
  go_loopw [13] (fun i wr => ∃ j : Nat, j ≤ n ∧ i = .int .i64 j ∧ Own 46 .u64 wr w1.heap.size (.slice (some ⟨g3, 0, none⟩) len cap3) (layFold L ps ws j) ∧ RowKit.Hid (∀ k, k < j → 0 ≤ (ps[k]?.getD (0, 0)).1 ∧ (ps[k]?.getD (0, 0)).1 < N) ∧ Below (w.heap.size + 1) (w.alloc (.cells #[.int .i64 t, .int .i64 p, .int .i64 s] 23)) wr ∧ g3 < wr.heap.size) (fun i _ => n - (intOf i).toNat)
  case atStart => exact ⟨0, by omega, rfl, hown3, hid (fun k hk => by omega), hC3, hg3'⟩
  case round =>
    clear hown3 hC3 hg3' LZ
    obtain ⟨j, hj, rfl, hO, hA, hC, hgr⟩ := hrel
    have zr : w.heap.size < wr.heap.size := by have := hC.size; simp at this; omega
    have hB : Below w.heap.size w wr := ((Below.refl _ _).alloc (Nat.le_refl _) _).trans (hC.mono (by omega))
    have q0 : wr.cell? ⟨w.heap.size, 0, none⟩ = some (.int .i64 t) := (hC.cell (p := ⟨w.heap.size, 0, none⟩) (Nat.lt_succ_self _)).trans (cellNew rfl rfl)
    have q1 : wr.cell? ⟨w.heap.size, 1, none⟩ = some (.int .i64 p) := (hC.cell (p := ⟨w.heap.size, 1, none⟩) (Nat.lt_succ_self _)).trans (cellNew rfl rfl)
    have q2 : wr.cell? ⟨w.heap.size, 2, none⟩ = some (.int .i64 s) := (hC.cell (p := ⟨w.heap.size, 2, none⟩) (Nat.lt_succ_self _)).trans (cellNew rfl rfl)
    by_cases hlt : j < n
    · obtain ⟨_, _, _, h4⟩ := HP.out
      rcases h4 with h4 | ⟨b1, off1, rfl, hcr⟩
      · omega
      obtain ⟨ce0, ce1⟩ := hcr j hlt
      have zb0 : b1 < w.heap.size := World.block_lt_of_cell? w _ ce0
      have ce0 := (hB.cell (p := ⟨b1, off1 + j * 2, none⟩) zb0).trans ce0
      have ce1 := (hB.cell (p := ⟨b1, off1 + j * 2 + 1, none⟩) zb0).trans ce1
      have hve := HV.out j hlt
      have pn := hid (PN.out j (by rw [HPL.out]; exact hlt))
      have ls := hid (LS.out j)
      have en := hid (show entN (ps[j]?.getD (0, 0)) = (ps[j]?.getD (0, 0)).1.toNat * 4294967296 + (ps[j]?.getD (0, 0)).2 from rfl)
      have hA2 := hid (show 0 ≤ (ps[j]?.getD (0, 0)).1 ∧ (ps[j]?.getD (0, 0)).1 < N → ∀ k, k < j + 1 → 0 ≤ (ps[k]?.getD (0, 0)).1 ∧ (ps[k]?.getD (0, 0)).1 < N from fun h k hk => by
        by_cases hkj : k = j
        · rw [hkj]; exact h
        · exact hA.out k (by omega))
      clear hcr hA
      have lw := hid (LW.out j (by omega))
      generalize entN (ps[j]?.getD (0, 0)) = ew at ls en
      generalize (ps[j]?.getD (0, 0)).1 = ce at ce0 pn en hA2
      generalize (ps[j]?.getD (0, 0)).2 = ve at ce1 hve en
      have ll := hid (HLen.out j)
      generalize layFold L ps ws j = cur at hO ls ll
      have zb : b1 < wr.heap.size := World.block_lt_of_cell? wr _ ce0
      by_cases hneg : ce < 0
      · have d : decide (ce < 0) = true := by simpa using hneg
        have hno := hid (LN.out (pn.out (by omega)))
        go_wp2_with fail
        refine regionBelow (by kernel_rfl) (by kernel_rfl) ?_
        repeat (go_big_quiet_step ((go_at_call 20; exact quietBelow (PC.out _))))
        refine wpQuiet_nil ?_
        intro _ hw'
        obtain ⟨nq, hw''⟩ := hw'
        subst hw''
        have hn2 := nq.below
        have hz2 := hn2.size
        (try simp at hz2)
        have hB9 : Below w.heap.size w nq.to := hB.trans (hn2.mono (by omega))
        go_wp2_with fail
        go_ret2
        exact .inr ⟨hno.out, rfl, hB9⟩
      · have d : decide (ce < 0) = false := by simp; omega
        by_cases hin : ce < N
        · have d2 : decide (N ≤ ce) = false := by simp; omega
          have hA3 := hid (hA2.out ⟨by omega, hin⟩)
          go_wp2_with fail
          refine regionBelow (by kernel_rfl) (by kernel_rfl) ?_
          repeat (go_big_quiet_step ((go_at_call 20; exact quietBelow (PC.out _))))
          refine wpQuiet_nil ?_
          intro _ hw'
          obtain ⟨nq, hw''⟩ := hw'
          subst hw''
          have hn2 := nq.below
          have hz2 := hn2.size
          (try simp at hz2)
          have hOB := hO.kept hn2 (Nat.le_refl _)
          have hCB := hC.trans (hn2.mono (by omega))
          have zB : w.heap.size < nq.to.heap.size := by omega
          have zBg : g3 < nq.to.heap.size := by omega
          have zBb : b1 < nq.to.heap.size := by omega
          have q0 := (hn2.cell (p := ⟨w.heap.size, 0, none⟩) zr).trans q0
          have q1 := (hn2.cell (p := ⟨w.heap.size, 1, none⟩) zr).trans q1
          have q2 := (hn2.cell (p := ⟨w.heap.size, 2, none⟩) zr).trans q2
          have ce0 := (hn2.cell (p := ⟨b1, off1 + j * 2, none⟩) zb).trans ce0
          have ce1 := (hn2.cell (p := ⟨b1, off1 + j * 2 + 1, none⟩) zb).trans ce1
          clear hO hC hB hn2 hz2
          have cv : IntKind.u32.wrap ce = ce := IntWalk.u32_in _ (by omega)
          have hcy := hOB.cell ll.out (L + j) (by omega)
          have hfy := hOB.unfrozen ll.out (L + j)
          generalize cur[L + j]?.getD 0 = yv at hcy
          have ne0 : ¬ g3 = w.heap.size := by omega
          have ne1 : ¬ g3 = b1 := by omega
          have i0 : (0 : Int) ≤ (L : Int) + (j : Int) := by omega
          have i1 : (L : Int) + (j : Int) < (len : Int) := by omega
          have tn : ((L : Int) + (j : Int)).toNat = L + j := by omega
          go_upto_region 9 with (fail)
          go_region_held3 (fun w' => (((w'.cell? ⟨w.heap.size, 0, none⟩ = some (.int .i64 t) ∧ w'.cell? ⟨w.heap.size, 1, none⟩ = some (.int .i64 p) ∧ w'.cell? ⟨w.heap.size, 2, none⟩ = some (.int .i64 s)) ∧ w'.cell? ⟨b1, off1 + j * 2, none⟩ = some (.int .i64 ce) ∧ w'.cell? ⟨b1, off1 + j * 2 + 1, none⟩ = some (.int .u32 (ve : Int))) ∧ w.heap.size < w'.heap.size ∧ b1 < w'.heap.size) ∧ g3 < w'.heap.size)
            (((go_split_ands); (try dsimp only); (repeat' apply And.intro); (all_goals first | assumption | omega | (simp; omega) | go_keep)))
            (first
              | (go_at_call 47; refine (refLogW t p s u j _).mono ?_; rw [lw.out]; rintro e wx ⟨rfl, hbx⟩; (try go_split_ands); obtain ⟨hcx, hfx, hzx⟩ := after hbx; have zx : w.heap.size < wx.heap.size := (by omega); have zx1 : b1 < wx.heap.size := (by omega); have y0 : wx.cell? ⟨w.heap.size, 0, none⟩ = some (.int .i64 t) := (hcx _ _ (by first | assumption | omega)).trans (by first | assumption | go_keep); have y1 : wx.cell? ⟨w.heap.size, 1, none⟩ = some (.int .i64 p) := (hcx _ _ (by first | assumption | omega)).trans (by first | assumption | go_keep); have y2 : wx.cell? ⟨w.heap.size, 2, none⟩ = some (.int .i64 s) := (hcx _ _ (by first | assumption | omega)).trans (by first | assumption | go_keep); have y3 : wx.cell? ⟨b1, off1 + j * 2, none⟩ = some (.int .i64 ce) := (hcx _ _ (by first | assumption | omega)).trans (by first | assumption | go_keep); have y4 : wx.cell? ⟨b1, off1 + j * 2 + 1, none⟩ = some (.int .u32 (ve : Int)) := (hcx _ _ (by first | assumption | omega)).trans (by first | assumption | go_keep); have zx2 : g3 < wx.heap.size := (by omega); have y5 : wx.cell? ⟨g3, L + j, none⟩ = some (.int .u64 (yv : Int)) := (hcx _ _ (by first | assumption | omega)).trans (by first | assumption | go_keep); have y6 : wx.frozen? ⟨g3, L + j, none⟩ = false := (hfx _ _ (by first | assumption | omega)).trans (by first | assumption | go_keep))
              | (go_at_call 52; refine (refJoin ce ve _ (by omega) (by omega) (by omega) (by omega)).mono ?_; rintro e _ ⟨rfl, rfl⟩))
          all_goals
            have hOC := hOB.kept (B := nq.to.heap.size) (w' := wx) bel (Nat.le_refl _)
            have hOD := hOC.stored ll.out (L + j) ew
            have hew : ((ew : Nat) : Int) = ce * 4294967296 + ve := by have := en.out; omega
            rw [hew] at hOD
            rw [← ls.out] at hOD
            have hCC : Below (w.heap.size + 1) (w.alloc (.cells #[.int .i64 t, .int .i64 p, .int .i64 s] 23)) wx := hCB.trans (Below.mono (B := nq.to.heap.size) bel (by omega))
            clear hbx hOB hCB hOC
            go_wp2_with fail
            go_roundw
            case rel => exact ⟨j + 1, by omega, by go_num, hOD, hA3, hCC.setCell (by show w.heap.size + 1 ≤ g3; omega) _, by simp; omega⟩
            case measure => simp [intOf]; omega
        · have d2 : decide (N ≤ ce) = true := by simp; omega
          have hno := hid (LN.out (pn.out (by omega)))
          go_wp2_with fail
          refine regionBelow (by kernel_rfl) (by kernel_rfl) ?_
          repeat (go_big_quiet_step ((go_at_call 20; exact quietBelow (PC.out _))))
          refine wpQuiet_nil ?_
          intro _ hw'
          obtain ⟨nq, hw''⟩ := hw'
          subst hw''
          have hn2 := nq.below
          have hz2 := hn2.size
          (try simp at hz2)
          have hB9 : Below w.heap.size w nq.to := hB.trans (hn2.mono (by omega))
          go_wp2_with fail
          go_ret2
          exact .inr ⟨hno.out, rfl, hB9⟩
    · obtain rfl : j = n := by omega
      have hyes := hid (LY.out (PY.out (fun k hk => hA.out k (by rw [HPL.out] at hk; exact hk))))
      have lx := hid (LX.out j)
      have ll := hid (HLen.out j)
      clear hA LS LF LX HLen
      generalize layFold L ps ws j = cur at hO ll lx
      go_wp2_with fail
      refine (refNoteW t p s u _).mono ?_
      rw [NW.out]
      rintro e wA ⟨rfl, hbA⟩
      have hOA := hO.kept hbA (Nat.le_refl _)
      have hCA := hC.trans (hbA.mono (by omega))
      have zA := hbA.size
      clear hbA hO hC
      go_wp2_with fail
      refine (refNote S j true _ (by omega) (by omega)).mono ?_
      rw [NV.out]
      rintro e wC ⟨rfl, hbC⟩
      have hOC := hOA.kept hbC (Nat.le_refl _)
      have hCC := hCA.trans (hbC.mono (by omega))
      have zC := hbC.size
      have hcy := hOC.cell ll.out ni (by omega)
      have hfy := hOC.unfrozen ll.out ni
      generalize cur[ni]?.getD 0 = y2 at hcy
      have hOD := hOC.stored ll.out ni nt
      rw [lx.out] at hOD
      have hBC : Below w.heap.size w wC := ((Below.refl _ _).alloc (Nat.le_refl _) _).trans (hCC.mono (by omega))
      clear hbC hOC hOA hCA
      go_wp2_with fail
      go_ret2
      exact .inl ⟨_, hyes.out, _, _, _, rfl, hOD.rebase (by have := hB1.size; omega), hBC.setCell (by show w.heap.size ≤ g3; omega) _⟩
end Go.Proofs.Ytkkhoiahjmfibaa
