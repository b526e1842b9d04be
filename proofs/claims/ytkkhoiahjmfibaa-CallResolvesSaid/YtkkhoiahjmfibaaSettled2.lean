/- The walk of package redo's settled, of words that are right: as far as the check of the stamps. -/
import Derived.Test.YtkkhoiahjmfibaaSettled
namespace Go.Proofs.Ytkkhoiahjmfibaa
open Go.RowKit
set_option linter.unusedVariables false
set_option linter.unusedSimpArgs false


set_option maxHeartbeats 1600000 in
theorem redoSettledTip (t p s : Int) (w : World) (a : Option Addr) (len cap : Nat) (ws : List Nat) (hs : Seen .u64 w a len cap ws) (hf : Fit 18446744073709551616 ws) (ho : okW t p s len) (hn : ¬ (tipU ws : Int) ≤ t) : Calls Try.prog 54 #[.agg #[.int .i64 t, .int .i64 p, .int .i64 s], .slice a len cap] w (SettledPost w t p ws true) := by
  have hlen := hs.1
  have hlc := hs.2.1
  have hlm := hs.2.2.1
  have hbd := (okW_words ho).2
  have HO := hid ho
  obtain ⟨_, _, _, h4⟩ := id hs
  rcases h4 with ⟨h4, _⟩ | ⟨b0, off, rfl, hc⟩
  · omega
  have c8 : w.cell? ⟨b0, off + 8, none⟩ = some (.int .u64 ((ws[8]?.getD 0 : Nat) : Int)) := hc 8 (by omega)
  have hx8 : ws[8]?.getD 0 < 18446744073709551616 := hf.getD (by omega) 8
  have hb0 := World.block_lt_of_cell? w _ c8
  have HL := hid hlen
  have G := hid (show settledO t p ws = none by rw [settledO, if_neg (fun h => hn h.1)])
  have TU := hid (show tipU ws = ws[8]?.getD 0 % 4294967296 from rfl)
  clear ho hc hlen
  by_cases h16 : tipU ws ≤ 16
  · have O := hid (show ofTipV ((ws[8]?.getD 0 : Nat) : Int) = .tuple #[.int .u32 (((ws[8]?.getD 0 : Nat) : Int) / 4294967296), .int .i64 (tipU ws : Int), .bool true] by
      have e : ((ws[8]?.getD 0 : Nat) : Int) % 4294967296 = (tipU ws : Int) := by rw [TU.out]; omega
      rw [ofTipV, e, if_pos (by omega)])
    have M := hid (makerNo (t := t) (p := p) (s := s) (u := (tipU ws : Int)) (fun g => hn g.2))
    clear hn h16
    generalize tipU ws = u at O M
    generalize ws[8]?.getD 0 = x at c8 hx8 O
    go_enter Try.func54, Try.ntmps54
    go_wp2_with fail
    refine (redoRightYes t p s _ _ len cap HO.out).mono ?_
    rintro e w1 ⟨rfl, hb1⟩
    obtain ⟨hc1, hf1, hz1⟩ := after hb1
    simp at hz1
    have z1 : w.heap.size < w1.heap.size := by omega
    have hB1 : Below w.heap.size w w1 := bel
    have c8 : w1.cell? ⟨b0, off + 8, none⟩ = some (.int .u64 (x : Int)) := (hB1.cell (p := ⟨b0, off + 8, none⟩) hb0).trans c8
    go_wp2_with fail
    refine (markOfTip x _ (by omega) (by omega)).mono ?_
    rw [O.out]
    rintro e w2 ⟨rfl, rfl⟩
    go_wp2_with fail
    refine (redoMaker t p s u _ false M).mono ?_
    rintro e w3 ⟨rfl, hb3⟩
    go_wp2_with fail
    go_ret3
    exact .inr ⟨.inr G.out, rfl, bel⟩
  · have O := hid (show ofTipV ((ws[8]?.getD 0 : Nat) : Int) = .tuple #[.int .u32 0, .int .i64 0, .bool false] by
      rw [ofTipV, if_neg (by have := TU.out; omega)])
    clear hn h16
    generalize ws[8]?.getD 0 = x at c8 hx8 O
    go_enter Try.func54, Try.ntmps54
    go_wp2_with fail
    refine (redoRightYes t p s _ _ len cap HO.out).mono ?_
    rintro e w1 ⟨rfl, hb1⟩
    obtain ⟨hc1, hf1, hz1⟩ := after hb1
    simp at hz1
    have z1 : w.heap.size < w1.heap.size := by omega
    have hB1 : Below w.heap.size w w1 := bel
    have c8 : w1.cell? ⟨b0, off + 8, none⟩ = some (.int .u64 (x : Int)) := (hB1.cell (p := ⟨b0, off + 8, none⟩) hb0).trans c8
    go_wp2_with fail
    refine (markOfTip x _ (by omega) (by omega)).mono ?_
    rw [O.out]
    rintro e w2 ⟨rfl, rfl⟩
    go_wp2_with fail
    go_ret3
    exact .inr ⟨.inr G.out, rfl, bel⟩
end Go.Proofs.Ytkkhoiahjmfibaa
