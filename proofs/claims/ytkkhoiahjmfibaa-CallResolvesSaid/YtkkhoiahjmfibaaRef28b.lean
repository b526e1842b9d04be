/- The walk of the reference's Said, of layer 28. -/
import Derived.Test.YtkkhoiahjmfibaaRef28
import Derived.Test.YtkkhoiahjmfibaaCall3
namespace Go.Proofs.Ytkkhoiahjmfibaa
open Go.RowKit
set_option linter.unusedVariables false
set_option linter.unusedSimpArgs false

/-- Three words, as they are filled in. -/
def row3 (a b c : Nat) : Nat → List Nat
  | 0 => [0, 0, 0]
  | 1 => [a, 0, 0]
  | 2 => [a, b, 0]
  | _ => [a, b, c]
theorem row3_length (a b c k : Nat) : (row3 a b c k).length = 3 := by
  match k with
  | 0 => rfl
  | 1 => rfl
  | 2 => rfl
  | k + 3 => rfl

theorem refSaidNo (t p s u : Int) (w : World) (a : Option Addr) (len cap : Nat) (ws : List Nat) (num : Int) (hl : len ≤ cap ∧ cap ≤ maxLen) (h : ¬ (okW t p s len ∧ 0 ≤ u ∧ u < t)) :
    Calls Try.prog 28 #[.agg #[.int .i64 t, .int .i64 p, .int .i64 s], .slice a len cap, .int .i64 u, .int .i64 num] w fun e w' => e = .returned (.tuple #[.agg #[.int .i64 0, .int .i64 0, .int .i64 0], .bool false]) ∧ Below w.heap.size w w' := by
  have H := hid h
  have HL := hid hl
  clear h hl
  go_enter Try.func28, Try.ntmps28
  go_wp2_with fail
  refine (refThereNo t p s u _ a len cap ws HL.out H.out).mono ?_
  rintro e w1 ⟨rfl, hb1⟩
  have hC1 : Below (w.heap.size + 2) ((w.alloc (.cells #[.int .i64 t, .int .i64 p, .int .i64 s] 23)).alloc (.cells #[.int .i64 0, .int .i64 0, .int .i64 0] 55)) w1 := hb1.mono (by simp)
  have z1 : w.heap.size < w1.heap.size := by have := hb1.size; simp at this; omega
  have z1' : w.heap.size + 1 < w1.heap.size := by have := hb1.size; simp at this; omega
  have hB1 : Below w.heap.size w w1 := bel
  have q0 : w1.cell? ⟨w.heap.size, 0, none⟩ = some (.int .i64 t) := (hC1.cell (p := ⟨w.heap.size, 0, none⟩) (by first | omega | (simp; done) | (simp; omega))).trans (cellOld (by simp) (cellNew rfl rfl))
  have q1 : w1.cell? ⟨w.heap.size, 1, none⟩ = some (.int .i64 p) := (hC1.cell (p := ⟨w.heap.size, 1, none⟩) (by first | omega | (simp; done) | (simp; omega))).trans (cellOld (by simp) (cellNew rfl rfl))
  have q2 : w1.cell? ⟨w.heap.size, 2, none⟩ = some (.int .i64 s) := (hC1.cell (p := ⟨w.heap.size, 2, none⟩) (by first | omega | (simp; done) | (simp; omega))).trans (cellOld (by simp) (cellNew rfl rfl))
  have k0 : w1.cell? ⟨w.heap.size + 1, 0, none⟩ = some (.int .i64 0) := (hC1.cell (p := ⟨w.heap.size + 1, 0, none⟩) (by first | omega | (simp; done) | (simp; omega))).trans (cellNew (by simp) rfl)
  have k1 : w1.cell? ⟨w.heap.size + 1, 1, none⟩ = some (.int .i64 0) := (hC1.cell (p := ⟨w.heap.size + 1, 1, none⟩) (by first | omega | (simp; done) | (simp; omega))).trans (cellNew (by simp) rfl)
  have k2 : w1.cell? ⟨w.heap.size + 1, 2, none⟩ = some (.int .i64 0) := (hC1.cell (p := ⟨w.heap.size + 1, 2, none⟩) (by first | omega | (simp; done) | (simp; omega))).trans (cellNew (by simp) rfl)
  have m1 : ∀ o, w1.frozen? ⟨w.heap.size + 1, o, none⟩ = false := by intro o; rw [hC1.frozen (p := ⟨w.heap.size + 1, o, none⟩) (by first | omega | (simp; done) | (simp; omega)), frozen?_alloc_cells, frozen?_alloc_cells]; simp [World.frozen?]
  clear hb1 hC1
  go_wp2_with fail
  exact bodyPost_ret (v := .tuple #[.agg #[.int .i64 0, .int .i64 0, .int .i64 0], .bool false]) (by simp [results, Try.results28, go_sem, k0, k1, k2, z1, z1']) rfl ⟨rfl, bel⟩

set_option maxRecDepth 100000 in
set_option maxHeartbeats 3200000 in
theorem refSaidYes (t p s u : Int) (w : World) (a : Option Addr) (len cap : Nat) (ws : List Nat) (num : Int) (hs : Seen .u64 w a len cap ws) (hf : Fit 18446744073709551616 ws) (ho : okW t p s len) (h0 : 0 ≤ u) (h1 : u < t) :
    Calls Try.prog 28 #[.agg #[.int .i64 t, .int .i64 p, .int .i64 s], .slice a len cap, .int .i64 u, .int .i64 num] w fun e w' => e = .returned (saidV t p u ws num) ∧ Below w.heap.size w w' := by
  have HL := hid (show len ≤ cap ∧ cap ≤ maxLen from ⟨hs.2.1, hs.2.2.1⟩)
  have HS := hid hs
  have HF := hid hf
  have HO := hid ho
  clear hs ho hf
  by_cases hn : num < 1
  · have SV := hid (show saidV t p u ws num = .tuple #[.agg #[.int .i64 0, .int .i64 0, .int .i64 0], .bool false] by rw [saidV, if_pos hn])
    go_enter Try.func28, Try.ntmps28
    go_wp2_with fail
    refine (refThereYes t p s u _ _ len cap ws HL.out HO.out h0 h1).mono ?_
    rintro e w1 ⟨rfl, hb1⟩
    have hC1 : Below (w.heap.size + 2) ((w.alloc (.cells #[.int .i64 t, .int .i64 p, .int .i64 s] 23)).alloc (.cells #[.int .i64 0, .int .i64 0, .int .i64 0] 55)) w1 := hb1.mono (by simp)
    have z1 : w.heap.size < w1.heap.size := by have := hb1.size; simp at this; omega
    have z1' : w.heap.size + 1 < w1.heap.size := by have := hb1.size; simp at this; omega
    have hB1 : Below w.heap.size w w1 := bel
    have q0 : w1.cell? ⟨w.heap.size, 0, none⟩ = some (.int .i64 t) := (hC1.cell (p := ⟨w.heap.size, 0, none⟩) (by first | omega | (simp; done) | (simp; omega))).trans (cellOld (by simp) (cellNew rfl rfl))
    have q1 : w1.cell? ⟨w.heap.size, 1, none⟩ = some (.int .i64 p) := (hC1.cell (p := ⟨w.heap.size, 1, none⟩) (by first | omega | (simp; done) | (simp; omega))).trans (cellOld (by simp) (cellNew rfl rfl))
    have q2 : w1.cell? ⟨w.heap.size, 2, none⟩ = some (.int .i64 s) := (hC1.cell (p := ⟨w.heap.size, 2, none⟩) (by first | omega | (simp; done) | (simp; omega))).trans (cellOld (by simp) (cellNew rfl rfl))
    have k0 : w1.cell? ⟨w.heap.size + 1, 0, none⟩ = some (.int .i64 0) := (hC1.cell (p := ⟨w.heap.size + 1, 0, none⟩) (by first | omega | (simp; done) | (simp; omega))).trans (cellNew (by simp) rfl)
    have k1 : w1.cell? ⟨w.heap.size + 1, 1, none⟩ = some (.int .i64 0) := (hC1.cell (p := ⟨w.heap.size + 1, 1, none⟩) (by first | omega | (simp; done) | (simp; omega))).trans (cellNew (by simp) rfl)
    have k2 : w1.cell? ⟨w.heap.size + 1, 2, none⟩ = some (.int .i64 0) := (hC1.cell (p := ⟨w.heap.size + 1, 2, none⟩) (by first | omega | (simp; done) | (simp; omega))).trans (cellNew (by simp) rfl)
    have m1 : ∀ o, w1.frozen? ⟨w.heap.size + 1, o, none⟩ = false := by intro o; rw [hC1.frozen (p := ⟨w.heap.size + 1, o, none⟩) (by first | omega | (simp; done) | (simp; omega)), frozen?_alloc_cells, frozen?_alloc_cells]; simp [World.frozen?]
    clear hb1 hC1
    go_wp2_with fail
    exact bodyPost_ret (v := .tuple #[.agg #[.int .i64 0, .int .i64 0, .int .i64 0], .bool false]) (by simp [results, Try.results28, go_sem, k0, k1, k2, z1, z1']) rfl ⟨by rw [SV.out], bel⟩
  have dn : decide (num < 1) = false := by simp; omega
  by_cases g1 : (n1N t p u ws : Int) = num
  · have SV := hid (show saidV t p u ws num = ofWords (cwN t p u ws 9) (cwN t p u ws 10) (cwN t p u ws 11) by rw [saidV, if_neg hn, if_pos g1])
    obtain ⟨ok, oa, ob, oc, hO⟩ := ofForm3 (cwN t p u ws 9) (cwN t p u ws 10) (cwN t p u ws 11)
    rw [hO] at SV
    have O := hid hO
    have dy : (((numX (cwN t p u ws 8) : Nat) : Int) != num) = false := by rw [bne_eq_false_iff_eq]; exact g1
    clear hO hn g1
    obtain ⟨m1', m2, m3⟩ := mkI_bd HO.out h0 h1
    have CW := hid (show callW t p s u 1 = ((mkI t p u + 8 : Nat) : Int) by rw [callW, if_pos ⟨HO.out.1, ⟨h0, by omega⟩, by omega, by omega⟩]; omega)
    obtain ⟨_, hlc, hlm, h4⟩ := id HS.out
    obtain ⟨_, hb3, hb4⟩ := okW_words HO.out
    rcases h4 with ⟨h4, _⟩ | ⟨b0, off, rfl, hc⟩
    · omega
    have CX0 := hid (show w.cell? ⟨b0, off + (mkI t p u + 8 + 1 + 0), none⟩ = some (.int .u64 (cwN t p u ws 9 : Int)) from hc (mkI t p u + 9) (by omega))
    have CX1 := hid (show w.cell? ⟨b0, off + (mkI t p u + 8 + 1 + 1), none⟩ = some (.int .u64 (cwN t p u ws 10 : Int)) from hc (mkI t p u + 10) (by omega))
    have CX2 := hid (show w.cell? ⟨b0, off + (mkI t p u + 8 + 1 + 2), none⟩ = some (.int .u64 (cwN t p u ws 11 : Int)) from hc (mkI t p u + 11) (by omega))
    have hb0 : b0 < w.heap.size := World.block_lt_of_cell? w _ CX0.out
    have hf0 : cwN t p u ws 9 < 18446744073709551616 := HF.out.getD (by omega) _
    have mc : mkI t p u + 8 + 4 ≤ len := by omega
    clear hc m1' m2 m3
    generalize cwN t p u ws 9 = v0 at CX0 O hf0
    generalize cwN t p u ws 10 = v1 at CX1 O
    generalize cwN t p u ws 11 = v2 at CX2 O
    generalize mkI t p u + 8 = c at *
    go_enter Try.func28, Try.ntmps28
    go_wp2_with fail
    refine (refThereYes t p s u _ _ len cap ws HL.out HO.out h0 h1).mono ?_
    rintro e w1 ⟨rfl, hb1⟩
    have hC1 : Below (w.heap.size + 2) ((w.alloc (.cells #[.int .i64 t, .int .i64 p, .int .i64 s] 23)).alloc (.cells #[.int .i64 0, .int .i64 0, .int .i64 0] 55)) w1 := hb1.mono (by simp)
    have z1 : w.heap.size < w1.heap.size := by have := hb1.size; simp at this; omega
    have z1' : w.heap.size + 1 < w1.heap.size := by have := hb1.size; simp at this; omega
    have hB1 : Below w.heap.size w w1 := bel
    have q0 : w1.cell? ⟨w.heap.size, 0, none⟩ = some (.int .i64 t) := (hC1.cell (p := ⟨w.heap.size, 0, none⟩) (by first | omega | (simp; done) | (simp; omega))).trans (cellOld (by simp) (cellNew rfl rfl))
    have q1 : w1.cell? ⟨w.heap.size, 1, none⟩ = some (.int .i64 p) := (hC1.cell (p := ⟨w.heap.size, 1, none⟩) (by first | omega | (simp; done) | (simp; omega))).trans (cellOld (by simp) (cellNew rfl rfl))
    have q2 : w1.cell? ⟨w.heap.size, 2, none⟩ = some (.int .i64 s) := (hC1.cell (p := ⟨w.heap.size, 2, none⟩) (by first | omega | (simp; done) | (simp; omega))).trans (cellOld (by simp) (cellNew rfl rfl))
    have k0 : w1.cell? ⟨w.heap.size + 1, 0, none⟩ = some (.int .i64 0) := (hC1.cell (p := ⟨w.heap.size + 1, 0, none⟩) (by first | omega | (simp; done) | (simp; omega))).trans (cellNew (by simp) rfl)
    have k1 : w1.cell? ⟨w.heap.size + 1, 1, none⟩ = some (.int .i64 0) := (hC1.cell (p := ⟨w.heap.size + 1, 1, none⟩) (by first | omega | (simp; done) | (simp; omega))).trans (cellNew (by simp) rfl)
    have k2 : w1.cell? ⟨w.heap.size + 1, 2, none⟩ = some (.int .i64 0) := (hC1.cell (p := ⟨w.heap.size + 1, 2, none⟩) (by first | omega | (simp; done) | (simp; omega))).trans (cellNew (by simp) rfl)
    have m1 : ∀ o, w1.frozen? ⟨w.heap.size + 1, o, none⟩ = false := by intro o; rw [hC1.frozen (p := ⟨w.heap.size + 1, o, none⟩) (by first | omega | (simp; done) | (simp; omega)), frozen?_alloc_cells, frozen?_alloc_cells]; simp [World.frozen?]
    clear hb1 hC1
    have hs1 := HS.out.below hB1
    go_wp2_with fail
    refine (refNumber1 t p s u _ _ len cap ws hs1 HO.out h0 h1).mono ?_
    rintro e w2 ⟨rfl, hb2⟩
    have z2 : w.heap.size < w2.heap.size := by have := hb2.size; omega
    have z2' : w.heap.size + 1 < w2.heap.size := by have := hb2.size; omega
    have hB2 : Below w.heap.size w w2 := hB1.trans (hb2.mono (by omega))
    have q0 := (hb2.cell (p := ⟨w.heap.size, 0, none⟩) z1).trans q0
    have q1 := (hb2.cell (p := ⟨w.heap.size, 1, none⟩) z1).trans q1
    have q2 := (hb2.cell (p := ⟨w.heap.size, 2, none⟩) z1).trans q2
    have k0 := (hb2.cell (p := ⟨w.heap.size + 1, 0, none⟩) z1').trans k0
    have k1 := (hb2.cell (p := ⟨w.heap.size + 1, 1, none⟩) z1').trans k1
    have k2 := (hb2.cell (p := ⟨w.heap.size + 1, 2, none⟩) z1').trans k2
    have m1 := fun o => (hb2.frozen (p := ⟨w.heap.size + 1, o, none⟩) z1').trans (m1 o)
    clear hb2 hB1 hs1
    have hs2 := HS.out.below hB2
    go_wp2_with fail
    refine (refNumber1 t p s u _ _ len cap ws hs2 HO.out h0 h1).mono ?_
    rintro e w3 ⟨rfl, hb3⟩
    have z3 : w.heap.size < w3.heap.size := by have := hb3.size; omega
    have z3' : w.heap.size + 1 < w3.heap.size := by have := hb3.size; omega
    have hB3 : Below w.heap.size w w3 := hB2.trans (hb3.mono (by omega))
    have q0 := (hb3.cell (p := ⟨w.heap.size, 0, none⟩) z2).trans q0
    have q1 := (hb3.cell (p := ⟨w.heap.size, 1, none⟩) z2).trans q1
    have q2 := (hb3.cell (p := ⟨w.heap.size, 2, none⟩) z2).trans q2
    have k0 := (hb3.cell (p := ⟨w.heap.size + 1, 0, none⟩) z2').trans k0
    have k1 := (hb3.cell (p := ⟨w.heap.size + 1, 1, none⟩) z2').trans k1
    have k2 := (hb3.cell (p := ⟨w.heap.size + 1, 2, none⟩) z2').trans k2
    have m1 := fun o => (hb3.frozen (p := ⟨w.heap.size + 1, o, none⟩) z2').trans (m1 o)
    clear hb3 hB2 hs2
    go_upto_region 9 with (fail)
    have hG : Own 103 .u64 (w3.alloc (.cells #[.int .u64 0, .int .u64 0, .int .u64 0] 103)) w3.heap.size (.slice (some ⟨w3.heap.size, 0, none⟩) 3 3) (row3 v0 v1 v2 0) := Own.built _ _ _ _ [0, 0, 0] _ 3 (Nat.le_refl _) rfl (by decide) rfl
    have hBX : Below w3.heap.size w3 (w3.alloc (.cells #[.int .u64 0, .int .u64 0, .int .u64 0] 103)) := (Below.refl _ _).alloc (Nat.le_refl _) _
    have zg : w3.heap.size < (w3.alloc (.cells #[.int .u64 0, .int .u64 0, .int .u64 0] 103)).heap.size := by simp
    go_wp2_with fail
    generalize hgx : w3.heap.size = gx at hG hBX zg z3 z3' ⊢
    have HGX := hid hgx
    go_loopw [12] (fun i wr => ∃ k : Nat, k ≤ 3 ∧ i = .int .i64 k ∧ Own 103 .u64 wr gx (.slice (some ⟨gx, 0, none⟩) 3 3) (row3 v0 v1 v2 k) ∧ Below gx w3 wr ∧ gx < wr.heap.size) (fun i _ => 3 - (intOf i).toNat)
    case atStart => exact ⟨0, by omega, rfl, hG, hBX, zg⟩
    case round =>
      obtain ⟨k, hk, rfl, hO, hB, hgr⟩ := hrel
      have zr : w.heap.size < wr.heap.size := by omega
      have zr' : w.heap.size + 1 < wr.heap.size := by omega
      have hBr : Below w.heap.size w wr := hB3.trans (hB.mono (by omega))
      have q0 := (hB.cell (p := ⟨w.heap.size, 0, none⟩) (show w.heap.size < gx by omega)).trans q0
      have q1 := (hB.cell (p := ⟨w.heap.size, 1, none⟩) (show w.heap.size < gx by omega)).trans q1
      have q2 := (hB.cell (p := ⟨w.heap.size, 2, none⟩) (show w.heap.size < gx by omega)).trans q2
      have k0 := (hB.cell (p := ⟨w.heap.size + 1, 0, none⟩) (show w.heap.size + 1 < gx by omega)).trans k0
      have k1 := (hB.cell (p := ⟨w.heap.size + 1, 1, none⟩) (show w.heap.size + 1 < gx by omega)).trans k1
      have k2 := (hB.cell (p := ⟨w.heap.size + 1, 2, none⟩) (show w.heap.size + 1 < gx by omega)).trans k2
      have m1 := fun o => (hB.frozen (p := ⟨w.heap.size + 1, o, none⟩) (show w.heap.size + 1 < gx by omega)).trans (m1 o)
      clear hG hBX zg
      have hk3 : k = 0 ∨ k = 1 ∨ k = 2 ∨ k = 3 := by omega
      rcases hk3 with rfl | rfl | rfl | rfl
      · clear hB3
        have hsr := HS.out.below hBr
        have cxk : w.cell? ⟨b0, off + (c + 1 + 0), none⟩ = some (.int .u64 (v0 : Int)) := CX0.out
        have i0 : (0 : Int) ≤ (c : Int) + 1 + 0 := by omega
        have i1 : (c : Int) + 1 + 0 < (len : Int) := by omega
        have wr1 : IntKind.i64.wrap ((c : Int) + 1) = (c : Int) + 1 := IntWalk.i64_in _ (by omega)
        have wr2 : IntKind.i64.wrap ((c : Int) + 1 + 0) = (c : Int) + 1 + 0 := IntWalk.i64_in _ (by omega)
        have tn : ((c : Int) + 1 + 0).toNat = c + 1 + 0 := by omega
        go_wp2_with fail
        refine (refCallW t p s u 1 _).mono ?_
        rw [CW.out]
        rintro e wA ⟨rfl, hbA⟩
        have hOA := hO.kept hbA (Nat.le_refl _)
        have hBA := hB.trans (hbA.mono (by omega))
        have zA : w.heap.size < wA.heap.size := by have := hbA.size; omega
        have zgA : gx < wA.heap.size := by have := hbA.size; omega
        have cxA := (Below.cell (hBr.trans (hbA.mono (by omega))) (p := ⟨b0, off + (c + 1 + 0), none⟩) hb0).trans cxk
        have hcy := hOA.cell (row3_length _ _ _ _) 0 (by omega)
        have hfy := hOA.unfrozen (row3_length _ _ _ _) 0
        have hOB := hOA.stored (row3_length _ _ _ _) 0 v0
        have q0 := (hbA.cell (p := ⟨w.heap.size, 0, none⟩) zr).trans q0
        have q1 := (hbA.cell (p := ⟨w.heap.size, 1, none⟩) zr).trans q1
        have q2 := (hbA.cell (p := ⟨w.heap.size, 2, none⟩) zr).trans q2
        have k0 := (hbA.cell (p := ⟨w.heap.size + 1, 0, none⟩) zr').trans k0
        have k1 := (hbA.cell (p := ⟨w.heap.size + 1, 1, none⟩) zr').trans k1
        have k2 := (hbA.cell (p := ⟨w.heap.size + 1, 2, none⟩) zr').trans k2
        have m1 := fun o => (hbA.frozen (p := ⟨w.heap.size + 1, o, none⟩) zr').trans (m1 o)
        clear hbA hOA hO cxk hsr hBr
        go_wp2_with fail
        go_roundw
        case rel => exact ⟨1, by omega, by go_num, hOB, hBA.setCell (Nat.le_refl _) _, by simpa using zgA⟩
        case measure => simp [intOf]
      · clear hB3
        have hsr := HS.out.below hBr
        have cxk : w.cell? ⟨b0, off + (c + 1 + 1), none⟩ = some (.int .u64 (v1 : Int)) := CX1.out
        have i0 : (0 : Int) ≤ (c : Int) + 1 + 1 := by omega
        have i1 : (c : Int) + 1 + 1 < (len : Int) := by omega
        have wr1 : IntKind.i64.wrap ((c : Int) + 1) = (c : Int) + 1 := IntWalk.i64_in _ (by omega)
        have wr2 : IntKind.i64.wrap ((c : Int) + 1 + 1) = (c : Int) + 1 + 1 := IntWalk.i64_in _ (by omega)
        have tn : ((c : Int) + 1 + 1).toNat = c + 1 + 1 := by omega
        go_wp2_with fail
        refine (refCallW t p s u 1 _).mono ?_
        rw [CW.out]
        rintro e wA ⟨rfl, hbA⟩
        have hOA := hO.kept hbA (Nat.le_refl _)
        have hBA := hB.trans (hbA.mono (by omega))
        have zA : w.heap.size < wA.heap.size := by have := hbA.size; omega
        have zgA : gx < wA.heap.size := by have := hbA.size; omega
        have cxA := (Below.cell (hBr.trans (hbA.mono (by omega))) (p := ⟨b0, off + (c + 1 + 1), none⟩) hb0).trans cxk
        have hcy := hOA.cell (row3_length _ _ _ _) 1 (by omega)
        have hfy := hOA.unfrozen (row3_length _ _ _ _) 1
        have hOB := hOA.stored (row3_length _ _ _ _) 1 v1
        have q0 := (hbA.cell (p := ⟨w.heap.size, 0, none⟩) zr).trans q0
        have q1 := (hbA.cell (p := ⟨w.heap.size, 1, none⟩) zr).trans q1
        have q2 := (hbA.cell (p := ⟨w.heap.size, 2, none⟩) zr).trans q2
        have k0 := (hbA.cell (p := ⟨w.heap.size + 1, 0, none⟩) zr').trans k0
        have k1 := (hbA.cell (p := ⟨w.heap.size + 1, 1, none⟩) zr').trans k1
        have k2 := (hbA.cell (p := ⟨w.heap.size + 1, 2, none⟩) zr').trans k2
        have m1 := fun o => (hbA.frozen (p := ⟨w.heap.size + 1, o, none⟩) zr').trans (m1 o)
        clear hbA hOA hO cxk hsr hBr
        go_wp2_with fail
        go_roundw
        case rel => exact ⟨2, by omega, by go_num, hOB, hBA.setCell (Nat.le_refl _) _, by simpa using zgA⟩
        case measure => simp [intOf]
      · clear hB3
        have hsr := HS.out.below hBr
        have cxk : w.cell? ⟨b0, off + (c + 1 + 2), none⟩ = some (.int .u64 (v2 : Int)) := CX2.out
        have i0 : (0 : Int) ≤ (c : Int) + 1 + 2 := by omega
        have i1 : (c : Int) + 1 + 2 < (len : Int) := by omega
        have wr1 : IntKind.i64.wrap ((c : Int) + 1) = (c : Int) + 1 := IntWalk.i64_in _ (by omega)
        have wr2 : IntKind.i64.wrap ((c : Int) + 1 + 2) = (c : Int) + 1 + 2 := IntWalk.i64_in _ (by omega)
        have tn : ((c : Int) + 1 + 2).toNat = c + 1 + 2 := by omega
        go_wp2_with fail
        refine (refCallW t p s u 1 _).mono ?_
        rw [CW.out]
        rintro e wA ⟨rfl, hbA⟩
        have hOA := hO.kept hbA (Nat.le_refl _)
        have hBA := hB.trans (hbA.mono (by omega))
        have zA : w.heap.size < wA.heap.size := by have := hbA.size; omega
        have zgA : gx < wA.heap.size := by have := hbA.size; omega
        have cxA := (Below.cell (hBr.trans (hbA.mono (by omega))) (p := ⟨b0, off + (c + 1 + 2), none⟩) hb0).trans cxk
        have hcy := hOA.cell (row3_length _ _ _ _) 2 (by omega)
        have hfy := hOA.unfrozen (row3_length _ _ _ _) 2
        have hOB := hOA.stored (row3_length _ _ _ _) 2 v2
        have q0 := (hbA.cell (p := ⟨w.heap.size, 0, none⟩) zr).trans q0
        have q1 := (hbA.cell (p := ⟨w.heap.size, 1, none⟩) zr).trans q1
        have q2 := (hbA.cell (p := ⟨w.heap.size, 2, none⟩) zr).trans q2
        have k0 := (hbA.cell (p := ⟨w.heap.size + 1, 0, none⟩) zr').trans k0
        have k1 := (hbA.cell (p := ⟨w.heap.size + 1, 1, none⟩) zr').trans k1
        have k2 := (hbA.cell (p := ⟨w.heap.size + 1, 2, none⟩) zr').trans k2
        have m1 := fun o => (hbA.frozen (p := ⟨w.heap.size + 1, o, none⟩) zr').trans (m1 o)
        clear hbA hOA hO cxk hsr hBr
        go_wp2_with fail
        go_roundw
        case rel => exact ⟨3, by omega, by go_num, hOB, hBA.setCell (Nat.le_refl _) _, by simpa using zgA⟩
        case measure => simp [intOf]
      · have e0 := hO.cell (row3_length _ _ _ _) 0 (by omega)
        have e1 := hO.cell (row3_length _ _ _ _) 1 (by omega)
        have e2 := hO.cell (row3_length _ _ _ _) 2 (by omega)
        have e0 : wr.cell? ⟨gx, 0, none⟩ = some (.int .u64 (v0 : Int)) := e0
        have e1 : wr.cell? ⟨gx, 1, none⟩ = some (.int .u64 (v1 : Int)) := e1
        have e2 : wr.cell? ⟨gx, 2, none⟩ = some (.int .u64 (v2 : Int)) := e2
        clear hO hB3
        go_wp2_with fail
        refine (refOfWords v0 v1 v2 _ (by omega) (by omega)).mono ?_
        rw [O.out]
        rintro e wO ⟨rfl, hbO⟩
        have vO' : w.heap.size + 1 < wO.heap.size := by have := hbO.size; omega
        have vO : w.heap.size < wO.heap.size := by omega
        have q0 := (hbO.cell (p := ⟨w.heap.size, 0, none⟩) zr).trans q0
        have q1 := (hbO.cell (p := ⟨w.heap.size, 1, none⟩) zr).trans q1
        have q2 := (hbO.cell (p := ⟨w.heap.size, 2, none⟩) zr).trans q2
        have k0 := (hbO.cell (p := ⟨w.heap.size + 1, 0, none⟩) zr').trans k0
        have k1 := (hbO.cell (p := ⟨w.heap.size + 1, 1, none⟩) zr').trans k1
        have k2 := (hbO.cell (p := ⟨w.heap.size + 1, 2, none⟩) zr').trans k2
        have m1 := fun o => (hbO.frozen (p := ⟨w.heap.size + 1, o, none⟩) zr').trans (m1 o)
        have hBO : Below w.heap.size w wO := hBr.trans (hbO.mono (by omega))
        clear hbO hBr
        go_wp2_with fail
        exact bodyPost_ret (v := .tuple #[.agg #[.int .i64 ok, .int .i64 oa, .int .i64 ob], .bool oc]) (by simp [results, Try.results28, go_sem, k0, k1, k2, vO, vO']) rfl ⟨by rw [SV.out], bel⟩
  by_cases g0 : (n0N t p u ws : Int) = num
  · have SV := hid (show saidV t p u ws num = ofWords (cwN t p u ws 1) (cwN t p u ws 2) (cwN t p u ws 3) by rw [saidV, if_neg hn, if_neg g1, if_pos g0])
    obtain ⟨ok, oa, ob, oc, hO⟩ := ofForm3 (cwN t p u ws 1) (cwN t p u ws 2) (cwN t p u ws 3)
    rw [hO] at SV
    have O := hid hO
    have dy : (((numX (cwN t p u ws 8) : Nat) : Int) != num) = true := by rw [bne_iff_ne]; exact g1
    have dx : (((numX (cwN t p u ws 0) : Nat) : Int) != num) = false := by rw [bne_eq_false_iff_eq]; exact g0
    clear hO hn g1 g0
    obtain ⟨m1', m2, m3⟩ := mkI_bd HO.out h0 h1
    have CW := hid (show callW t p s u 0 = ((mkI t p u : Nat) : Int) by rw [callW, if_pos ⟨HO.out.1, ⟨h0, by omega⟩, by omega, by omega⟩]; omega)
    obtain ⟨_, hlc, hlm, h4⟩ := id HS.out
    obtain ⟨_, hb3, hb4⟩ := okW_words HO.out
    rcases h4 with ⟨h4, _⟩ | ⟨b0, off, rfl, hc⟩
    · omega
    have CX0 := hid (show w.cell? ⟨b0, off + (mkI t p u + 1 + 0), none⟩ = some (.int .u64 (cwN t p u ws 1 : Int)) from hc (mkI t p u + 1) (by omega))
    have CX1 := hid (show w.cell? ⟨b0, off + (mkI t p u + 1 + 1), none⟩ = some (.int .u64 (cwN t p u ws 2 : Int)) from hc (mkI t p u + 2) (by omega))
    have CX2 := hid (show w.cell? ⟨b0, off + (mkI t p u + 1 + 2), none⟩ = some (.int .u64 (cwN t p u ws 3 : Int)) from hc (mkI t p u + 3) (by omega))
    have hb0 : b0 < w.heap.size := World.block_lt_of_cell? w _ CX0.out
    have hf0 : cwN t p u ws 1 < 18446744073709551616 := HF.out.getD (by omega) _
    have mc : mkI t p u + 4 ≤ len := by omega
    clear hc m1' m2 m3
    generalize cwN t p u ws 1 = v0 at CX0 O hf0
    generalize cwN t p u ws 2 = v1 at CX1 O
    generalize cwN t p u ws 3 = v2 at CX2 O
    generalize mkI t p u = c at *
    go_enter Try.func28, Try.ntmps28
    go_wp2_with fail
    refine (refThereYes t p s u _ _ len cap ws HL.out HO.out h0 h1).mono ?_
    rintro e w1 ⟨rfl, hb1⟩
    have hC1 : Below (w.heap.size + 2) ((w.alloc (.cells #[.int .i64 t, .int .i64 p, .int .i64 s] 23)).alloc (.cells #[.int .i64 0, .int .i64 0, .int .i64 0] 55)) w1 := hb1.mono (by simp)
    have z1 : w.heap.size < w1.heap.size := by have := hb1.size; simp at this; omega
    have z1' : w.heap.size + 1 < w1.heap.size := by have := hb1.size; simp at this; omega
    have hB1 : Below w.heap.size w w1 := bel
    have q0 : w1.cell? ⟨w.heap.size, 0, none⟩ = some (.int .i64 t) := (hC1.cell (p := ⟨w.heap.size, 0, none⟩) (by first | omega | (simp; done) | (simp; omega))).trans (cellOld (by simp) (cellNew rfl rfl))
    have q1 : w1.cell? ⟨w.heap.size, 1, none⟩ = some (.int .i64 p) := (hC1.cell (p := ⟨w.heap.size, 1, none⟩) (by first | omega | (simp; done) | (simp; omega))).trans (cellOld (by simp) (cellNew rfl rfl))
    have q2 : w1.cell? ⟨w.heap.size, 2, none⟩ = some (.int .i64 s) := (hC1.cell (p := ⟨w.heap.size, 2, none⟩) (by first | omega | (simp; done) | (simp; omega))).trans (cellOld (by simp) (cellNew rfl rfl))
    have k0 : w1.cell? ⟨w.heap.size + 1, 0, none⟩ = some (.int .i64 0) := (hC1.cell (p := ⟨w.heap.size + 1, 0, none⟩) (by first | omega | (simp; done) | (simp; omega))).trans (cellNew (by simp) rfl)
    have k1 : w1.cell? ⟨w.heap.size + 1, 1, none⟩ = some (.int .i64 0) := (hC1.cell (p := ⟨w.heap.size + 1, 1, none⟩) (by first | omega | (simp; done) | (simp; omega))).trans (cellNew (by simp) rfl)
    have k2 : w1.cell? ⟨w.heap.size + 1, 2, none⟩ = some (.int .i64 0) := (hC1.cell (p := ⟨w.heap.size + 1, 2, none⟩) (by first | omega | (simp; done) | (simp; omega))).trans (cellNew (by simp) rfl)
    have m1 : ∀ o, w1.frozen? ⟨w.heap.size + 1, o, none⟩ = false := by intro o; rw [hC1.frozen (p := ⟨w.heap.size + 1, o, none⟩) (by first | omega | (simp; done) | (simp; omega)), frozen?_alloc_cells, frozen?_alloc_cells]; simp [World.frozen?]
    clear hb1 hC1
    have hs1 := HS.out.below hB1
    go_wp2_with fail
    refine (refNumber1 t p s u _ _ len cap ws hs1 HO.out h0 h1).mono ?_
    rintro e w2 ⟨rfl, hb2⟩
    have z2 : w.heap.size < w2.heap.size := by have := hb2.size; omega
    have z2' : w.heap.size + 1 < w2.heap.size := by have := hb2.size; omega
    have hB2 : Below w.heap.size w w2 := hB1.trans (hb2.mono (by omega))
    have q0 := (hb2.cell (p := ⟨w.heap.size, 0, none⟩) z1).trans q0
    have q1 := (hb2.cell (p := ⟨w.heap.size, 1, none⟩) z1).trans q1
    have q2 := (hb2.cell (p := ⟨w.heap.size, 2, none⟩) z1).trans q2
    have k0 := (hb2.cell (p := ⟨w.heap.size + 1, 0, none⟩) z1').trans k0
    have k1 := (hb2.cell (p := ⟨w.heap.size + 1, 1, none⟩) z1').trans k1
    have k2 := (hb2.cell (p := ⟨w.heap.size + 1, 2, none⟩) z1').trans k2
    have m1 := fun o => (hb2.frozen (p := ⟨w.heap.size + 1, o, none⟩) z1').trans (m1 o)
    clear hb2 hB1 hs1
    have hs2 := HS.out.below hB2
    go_wp2_with fail
    refine (refNumber0 t p s u _ _ len cap ws hs2 HO.out h0 h1).mono ?_
    rintro e w3 ⟨rfl, hb3⟩
    have z3 : w.heap.size < w3.heap.size := by have := hb3.size; omega
    have z3' : w.heap.size + 1 < w3.heap.size := by have := hb3.size; omega
    have hB3 : Below w.heap.size w w3 := hB2.trans (hb3.mono (by omega))
    have q0 := (hb3.cell (p := ⟨w.heap.size, 0, none⟩) z2).trans q0
    have q1 := (hb3.cell (p := ⟨w.heap.size, 1, none⟩) z2).trans q1
    have q2 := (hb3.cell (p := ⟨w.heap.size, 2, none⟩) z2).trans q2
    have k0 := (hb3.cell (p := ⟨w.heap.size + 1, 0, none⟩) z2').trans k0
    have k1 := (hb3.cell (p := ⟨w.heap.size + 1, 1, none⟩) z2').trans k1
    have k2 := (hb3.cell (p := ⟨w.heap.size + 1, 2, none⟩) z2').trans k2
    have m1 := fun o => (hb3.frozen (p := ⟨w.heap.size + 1, o, none⟩) z2').trans (m1 o)
    clear hb3 hB2 hs2
    go_upto_region 9 with (fail)
    have hG : Own 103 .u64 (w3.alloc (.cells #[.int .u64 0, .int .u64 0, .int .u64 0] 103)) w3.heap.size (.slice (some ⟨w3.heap.size, 0, none⟩) 3 3) (row3 v0 v1 v2 0) := Own.built _ _ _ _ [0, 0, 0] _ 3 (Nat.le_refl _) rfl (by decide) rfl
    have hBX : Below w3.heap.size w3 (w3.alloc (.cells #[.int .u64 0, .int .u64 0, .int .u64 0] 103)) := (Below.refl _ _).alloc (Nat.le_refl _) _
    have zg : w3.heap.size < (w3.alloc (.cells #[.int .u64 0, .int .u64 0, .int .u64 0] 103)).heap.size := by simp
    go_wp2_with fail
    generalize hgx : w3.heap.size = gx at hG hBX zg z3 z3' ⊢
    have HGX := hid hgx
    go_loopw [12] (fun i wr => ∃ k : Nat, k ≤ 3 ∧ i = .int .i64 k ∧ Own 103 .u64 wr gx (.slice (some ⟨gx, 0, none⟩) 3 3) (row3 v0 v1 v2 k) ∧ Below gx w3 wr ∧ gx < wr.heap.size) (fun i _ => 3 - (intOf i).toNat)
    case atStart => exact ⟨0, by omega, rfl, hG, hBX, zg⟩
    case round =>
      obtain ⟨k, hk, rfl, hO, hB, hgr⟩ := hrel
      have zr : w.heap.size < wr.heap.size := by omega
      have zr' : w.heap.size + 1 < wr.heap.size := by omega
      have hBr : Below w.heap.size w wr := hB3.trans (hB.mono (by omega))
      have q0 := (hB.cell (p := ⟨w.heap.size, 0, none⟩) (show w.heap.size < gx by omega)).trans q0
      have q1 := (hB.cell (p := ⟨w.heap.size, 1, none⟩) (show w.heap.size < gx by omega)).trans q1
      have q2 := (hB.cell (p := ⟨w.heap.size, 2, none⟩) (show w.heap.size < gx by omega)).trans q2
      have k0 := (hB.cell (p := ⟨w.heap.size + 1, 0, none⟩) (show w.heap.size + 1 < gx by omega)).trans k0
      have k1 := (hB.cell (p := ⟨w.heap.size + 1, 1, none⟩) (show w.heap.size + 1 < gx by omega)).trans k1
      have k2 := (hB.cell (p := ⟨w.heap.size + 1, 2, none⟩) (show w.heap.size + 1 < gx by omega)).trans k2
      have m1 := fun o => (hB.frozen (p := ⟨w.heap.size + 1, o, none⟩) (show w.heap.size + 1 < gx by omega)).trans (m1 o)
      clear hG hBX zg
      have hk3 : k = 0 ∨ k = 1 ∨ k = 2 ∨ k = 3 := by omega
      rcases hk3 with rfl | rfl | rfl | rfl
      · clear hB3
        have hsr := HS.out.below hBr
        have cxk : w.cell? ⟨b0, off + (c + 1 + 0), none⟩ = some (.int .u64 (v0 : Int)) := CX0.out
        have i0 : (0 : Int) ≤ (c : Int) + 1 + 0 := by omega
        have i1 : (c : Int) + 1 + 0 < (len : Int) := by omega
        have wr1 : IntKind.i64.wrap ((c : Int) + 1) = (c : Int) + 1 := IntWalk.i64_in _ (by omega)
        have wr2 : IntKind.i64.wrap ((c : Int) + 1 + 0) = (c : Int) + 1 + 0 := IntWalk.i64_in _ (by omega)
        have tn : ((c : Int) + 1 + 0).toNat = c + 1 + 0 := by omega
        go_wp2_with fail
        refine (refCallW t p s u 0 _).mono ?_
        rw [CW.out]
        rintro e wA ⟨rfl, hbA⟩
        have hOA := hO.kept hbA (Nat.le_refl _)
        have hBA := hB.trans (hbA.mono (by omega))
        have zA : w.heap.size < wA.heap.size := by have := hbA.size; omega
        have zgA : gx < wA.heap.size := by have := hbA.size; omega
        have cxA := (Below.cell (hBr.trans (hbA.mono (by omega))) (p := ⟨b0, off + (c + 1 + 0), none⟩) hb0).trans cxk
        have hcy := hOA.cell (row3_length _ _ _ _) 0 (by omega)
        have hfy := hOA.unfrozen (row3_length _ _ _ _) 0
        have hOB := hOA.stored (row3_length _ _ _ _) 0 v0
        have q0 := (hbA.cell (p := ⟨w.heap.size, 0, none⟩) zr).trans q0
        have q1 := (hbA.cell (p := ⟨w.heap.size, 1, none⟩) zr).trans q1
        have q2 := (hbA.cell (p := ⟨w.heap.size, 2, none⟩) zr).trans q2
        have k0 := (hbA.cell (p := ⟨w.heap.size + 1, 0, none⟩) zr').trans k0
        have k1 := (hbA.cell (p := ⟨w.heap.size + 1, 1, none⟩) zr').trans k1
        have k2 := (hbA.cell (p := ⟨w.heap.size + 1, 2, none⟩) zr').trans k2
        have m1 := fun o => (hbA.frozen (p := ⟨w.heap.size + 1, o, none⟩) zr').trans (m1 o)
        clear hbA hOA hO cxk hsr hBr
        go_wp2_with fail
        go_roundw
        case rel => exact ⟨1, by omega, by go_num, hOB, hBA.setCell (Nat.le_refl _) _, by simpa using zgA⟩
        case measure => simp [intOf]
      · clear hB3
        have hsr := HS.out.below hBr
        have cxk : w.cell? ⟨b0, off + (c + 1 + 1), none⟩ = some (.int .u64 (v1 : Int)) := CX1.out
        have i0 : (0 : Int) ≤ (c : Int) + 1 + 1 := by omega
        have i1 : (c : Int) + 1 + 1 < (len : Int) := by omega
        have wr1 : IntKind.i64.wrap ((c : Int) + 1) = (c : Int) + 1 := IntWalk.i64_in _ (by omega)
        have wr2 : IntKind.i64.wrap ((c : Int) + 1 + 1) = (c : Int) + 1 + 1 := IntWalk.i64_in _ (by omega)
        have tn : ((c : Int) + 1 + 1).toNat = c + 1 + 1 := by omega
        go_wp2_with fail
        refine (refCallW t p s u 0 _).mono ?_
        rw [CW.out]
        rintro e wA ⟨rfl, hbA⟩
        have hOA := hO.kept hbA (Nat.le_refl _)
        have hBA := hB.trans (hbA.mono (by omega))
        have zA : w.heap.size < wA.heap.size := by have := hbA.size; omega
        have zgA : gx < wA.heap.size := by have := hbA.size; omega
        have cxA := (Below.cell (hBr.trans (hbA.mono (by omega))) (p := ⟨b0, off + (c + 1 + 1), none⟩) hb0).trans cxk
        have hcy := hOA.cell (row3_length _ _ _ _) 1 (by omega)
        have hfy := hOA.unfrozen (row3_length _ _ _ _) 1
        have hOB := hOA.stored (row3_length _ _ _ _) 1 v1
        have q0 := (hbA.cell (p := ⟨w.heap.size, 0, none⟩) zr).trans q0
        have q1 := (hbA.cell (p := ⟨w.heap.size, 1, none⟩) zr).trans q1
        have q2 := (hbA.cell (p := ⟨w.heap.size, 2, none⟩) zr).trans q2
        have k0 := (hbA.cell (p := ⟨w.heap.size + 1, 0, none⟩) zr').trans k0
        have k1 := (hbA.cell (p := ⟨w.heap.size + 1, 1, none⟩) zr').trans k1
        have k2 := (hbA.cell (p := ⟨w.heap.size + 1, 2, none⟩) zr').trans k2
        have m1 := fun o => (hbA.frozen (p := ⟨w.heap.size + 1, o, none⟩) zr').trans (m1 o)
        clear hbA hOA hO cxk hsr hBr
        go_wp2_with fail
        go_roundw
        case rel => exact ⟨2, by omega, by go_num, hOB, hBA.setCell (Nat.le_refl _) _, by simpa using zgA⟩
        case measure => simp [intOf]
      · clear hB3
        have hsr := HS.out.below hBr
        have cxk : w.cell? ⟨b0, off + (c + 1 + 2), none⟩ = some (.int .u64 (v2 : Int)) := CX2.out
        have i0 : (0 : Int) ≤ (c : Int) + 1 + 2 := by omega
        have i1 : (c : Int) + 1 + 2 < (len : Int) := by omega
        have wr1 : IntKind.i64.wrap ((c : Int) + 1) = (c : Int) + 1 := IntWalk.i64_in _ (by omega)
        have wr2 : IntKind.i64.wrap ((c : Int) + 1 + 2) = (c : Int) + 1 + 2 := IntWalk.i64_in _ (by omega)
        have tn : ((c : Int) + 1 + 2).toNat = c + 1 + 2 := by omega
        go_wp2_with fail
        refine (refCallW t p s u 0 _).mono ?_
        rw [CW.out]
        rintro e wA ⟨rfl, hbA⟩
        have hOA := hO.kept hbA (Nat.le_refl _)
        have hBA := hB.trans (hbA.mono (by omega))
        have zA : w.heap.size < wA.heap.size := by have := hbA.size; omega
        have zgA : gx < wA.heap.size := by have := hbA.size; omega
        have cxA := (Below.cell (hBr.trans (hbA.mono (by omega))) (p := ⟨b0, off + (c + 1 + 2), none⟩) hb0).trans cxk
        have hcy := hOA.cell (row3_length _ _ _ _) 2 (by omega)
        have hfy := hOA.unfrozen (row3_length _ _ _ _) 2
        have hOB := hOA.stored (row3_length _ _ _ _) 2 v2
        have q0 := (hbA.cell (p := ⟨w.heap.size, 0, none⟩) zr).trans q0
        have q1 := (hbA.cell (p := ⟨w.heap.size, 1, none⟩) zr).trans q1
        have q2 := (hbA.cell (p := ⟨w.heap.size, 2, none⟩) zr).trans q2
        have k0 := (hbA.cell (p := ⟨w.heap.size + 1, 0, none⟩) zr').trans k0
        have k1 := (hbA.cell (p := ⟨w.heap.size + 1, 1, none⟩) zr').trans k1
        have k2 := (hbA.cell (p := ⟨w.heap.size + 1, 2, none⟩) zr').trans k2
        have m1 := fun o => (hbA.frozen (p := ⟨w.heap.size + 1, o, none⟩) zr').trans (m1 o)
        clear hbA hOA hO cxk hsr hBr
        go_wp2_with fail
        go_roundw
        case rel => exact ⟨3, by omega, by go_num, hOB, hBA.setCell (Nat.le_refl _) _, by simpa using zgA⟩
        case measure => simp [intOf]
      · have e0 := hO.cell (row3_length _ _ _ _) 0 (by omega)
        have e1 := hO.cell (row3_length _ _ _ _) 1 (by omega)
        have e2 := hO.cell (row3_length _ _ _ _) 2 (by omega)
        have e0 : wr.cell? ⟨gx, 0, none⟩ = some (.int .u64 (v0 : Int)) := e0
        have e1 : wr.cell? ⟨gx, 1, none⟩ = some (.int .u64 (v1 : Int)) := e1
        have e2 : wr.cell? ⟨gx, 2, none⟩ = some (.int .u64 (v2 : Int)) := e2
        clear hO hB3
        go_wp2_with fail
        refine (refOfWords v0 v1 v2 _ (by omega) (by omega)).mono ?_
        rw [O.out]
        rintro e wO ⟨rfl, hbO⟩
        have vO' : w.heap.size + 1 < wO.heap.size := by have := hbO.size; omega
        have vO : w.heap.size < wO.heap.size := by omega
        have q0 := (hbO.cell (p := ⟨w.heap.size, 0, none⟩) zr).trans q0
        have q1 := (hbO.cell (p := ⟨w.heap.size, 1, none⟩) zr).trans q1
        have q2 := (hbO.cell (p := ⟨w.heap.size, 2, none⟩) zr).trans q2
        have k0 := (hbO.cell (p := ⟨w.heap.size + 1, 0, none⟩) zr').trans k0
        have k1 := (hbO.cell (p := ⟨w.heap.size + 1, 1, none⟩) zr').trans k1
        have k2 := (hbO.cell (p := ⟨w.heap.size + 1, 2, none⟩) zr').trans k2
        have m1 := fun o => (hbO.frozen (p := ⟨w.heap.size + 1, o, none⟩) zr').trans (m1 o)
        have hBO : Below w.heap.size w wO := hBr.trans (hbO.mono (by omega))
        clear hbO hBr
        go_wp2_with fail
        exact bodyPost_ret (v := .tuple #[.agg #[.int .i64 ok, .int .i64 oa, .int .i64 ob], .bool oc]) (by simp [results, Try.results28, go_sem, k0, k1, k2, vO, vO']) rfl ⟨by rw [SV.out], bel⟩
  · have SV := hid (show saidV t p u ws num = .tuple #[.agg #[.int .i64 0, .int .i64 0, .int .i64 0], .bool false] by rw [saidV, if_neg hn, if_neg g1, if_neg g0])
    have dy : (((numX (cwN t p u ws 8) : Nat) : Int) != num) = true := by rw [bne_iff_ne]; exact g1
    have dx : (((numX (cwN t p u ws 0) : Nat) : Int) != num) = true := by rw [bne_iff_ne]; exact g0
    clear hn g1 g0
    go_enter Try.func28, Try.ntmps28
    go_wp2_with fail
    refine (refThereYes t p s u _ _ len cap ws HL.out HO.out h0 h1).mono ?_
    rintro e w1 ⟨rfl, hb1⟩
    have hC1 : Below (w.heap.size + 2) ((w.alloc (.cells #[.int .i64 t, .int .i64 p, .int .i64 s] 23)).alloc (.cells #[.int .i64 0, .int .i64 0, .int .i64 0] 55)) w1 := hb1.mono (by simp)
    have z1 : w.heap.size < w1.heap.size := by have := hb1.size; simp at this; omega
    have z1' : w.heap.size + 1 < w1.heap.size := by have := hb1.size; simp at this; omega
    have hB1 : Below w.heap.size w w1 := bel
    have q0 : w1.cell? ⟨w.heap.size, 0, none⟩ = some (.int .i64 t) := (hC1.cell (p := ⟨w.heap.size, 0, none⟩) (by first | omega | (simp; done) | (simp; omega))).trans (cellOld (by simp) (cellNew rfl rfl))
    have q1 : w1.cell? ⟨w.heap.size, 1, none⟩ = some (.int .i64 p) := (hC1.cell (p := ⟨w.heap.size, 1, none⟩) (by first | omega | (simp; done) | (simp; omega))).trans (cellOld (by simp) (cellNew rfl rfl))
    have q2 : w1.cell? ⟨w.heap.size, 2, none⟩ = some (.int .i64 s) := (hC1.cell (p := ⟨w.heap.size, 2, none⟩) (by first | omega | (simp; done) | (simp; omega))).trans (cellOld (by simp) (cellNew rfl rfl))
    have k0 : w1.cell? ⟨w.heap.size + 1, 0, none⟩ = some (.int .i64 0) := (hC1.cell (p := ⟨w.heap.size + 1, 0, none⟩) (by first | omega | (simp; done) | (simp; omega))).trans (cellNew (by simp) rfl)
    have k1 : w1.cell? ⟨w.heap.size + 1, 1, none⟩ = some (.int .i64 0) := (hC1.cell (p := ⟨w.heap.size + 1, 1, none⟩) (by first | omega | (simp; done) | (simp; omega))).trans (cellNew (by simp) rfl)
    have k2 : w1.cell? ⟨w.heap.size + 1, 2, none⟩ = some (.int .i64 0) := (hC1.cell (p := ⟨w.heap.size + 1, 2, none⟩) (by first | omega | (simp; done) | (simp; omega))).trans (cellNew (by simp) rfl)
    have m1 : ∀ o, w1.frozen? ⟨w.heap.size + 1, o, none⟩ = false := by intro o; rw [hC1.frozen (p := ⟨w.heap.size + 1, o, none⟩) (by first | omega | (simp; done) | (simp; omega)), frozen?_alloc_cells, frozen?_alloc_cells]; simp [World.frozen?]
    clear hb1 hC1
    have hs1 := HS.out.below hB1
    go_wp2_with fail
    refine (refNumber1 t p s u _ _ len cap ws hs1 HO.out h0 h1).mono ?_
    rintro e w2 ⟨rfl, hb2⟩
    have z2 : w.heap.size < w2.heap.size := by have := hb2.size; omega
    have z2' : w.heap.size + 1 < w2.heap.size := by have := hb2.size; omega
    have hB2 : Below w.heap.size w w2 := hB1.trans (hb2.mono (by omega))
    have q0 := (hb2.cell (p := ⟨w.heap.size, 0, none⟩) z1).trans q0
    have q1 := (hb2.cell (p := ⟨w.heap.size, 1, none⟩) z1).trans q1
    have q2 := (hb2.cell (p := ⟨w.heap.size, 2, none⟩) z1).trans q2
    have k0 := (hb2.cell (p := ⟨w.heap.size + 1, 0, none⟩) z1').trans k0
    have k1 := (hb2.cell (p := ⟨w.heap.size + 1, 1, none⟩) z1').trans k1
    have k2 := (hb2.cell (p := ⟨w.heap.size + 1, 2, none⟩) z1').trans k2
    have m1 := fun o => (hb2.frozen (p := ⟨w.heap.size + 1, o, none⟩) z1').trans (m1 o)
    clear hb2 hB1 hs1
    have hs2 := HS.out.below hB2
    go_wp2_with fail
    refine (refNumber0 t p s u _ _ len cap ws hs2 HO.out h0 h1).mono ?_
    rintro e w3 ⟨rfl, hb3⟩
    have z3 : w.heap.size < w3.heap.size := by have := hb3.size; omega
    have z3' : w.heap.size + 1 < w3.heap.size := by have := hb3.size; omega
    have hB3 : Below w.heap.size w w3 := hB2.trans (hb3.mono (by omega))
    have q0 := (hb3.cell (p := ⟨w.heap.size, 0, none⟩) z2).trans q0
    have q1 := (hb3.cell (p := ⟨w.heap.size, 1, none⟩) z2).trans q1
    have q2 := (hb3.cell (p := ⟨w.heap.size, 2, none⟩) z2).trans q2
    have k0 := (hb3.cell (p := ⟨w.heap.size + 1, 0, none⟩) z2').trans k0
    have k1 := (hb3.cell (p := ⟨w.heap.size + 1, 1, none⟩) z2').trans k1
    have k2 := (hb3.cell (p := ⟨w.heap.size + 1, 2, none⟩) z2').trans k2
    have m1 := fun o => (hb3.frozen (p := ⟨w.heap.size + 1, o, none⟩) z2').trans (m1 o)
    clear hb3 hB2 hs2
    go_wp2_with fail
    exact bodyPost_ret (v := .tuple #[.agg #[.int .i64 0, .int .i64 0, .int .i64 0], .bool false]) (by simp [results, Try.results28, go_sem, k0, k1, k2, z3, z3']) rfl ⟨by rw [SV.out], bel⟩
end Go.Proofs.Ytkkhoiahjmfibaa
