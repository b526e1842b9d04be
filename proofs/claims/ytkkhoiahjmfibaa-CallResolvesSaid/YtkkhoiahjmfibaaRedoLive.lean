/- The walk of layer 27's own examples. -/
import Derived.Test.YtkkhoiahjmfibaaRedoPlain
import Derived.Test.YtkkhoiahjmfibaaSameVals
import Derived.Deep.RegionHeld3
import Derived.Deep.DeepCutAuto
namespace Go.Proofs.Ytkkhoiahjmfibaa
open Go.RowKit
set_option linter.unusedVariables false
set_option linter.unusedSimpArgs false

theorem redoSettleSome (t p s : Int) (w : World) (a : Option Addr) (len cap : Nat) (ws r : List Nat) (hs : Seen .u64 w a len cap ws) (hf : Fit 18446744073709551616 ws) (ho : okW t p s len) (hr : settleO t p ws = some r) :
    Calls Try.prog 18 #[.agg #[.int .i64 t, .int .i64 p, .int .i64 s], .slice a len cap] w fun e w' => ∃ a m cap, e = .returned (.tuple #[.slice a m cap, .bool true]) ∧ Own 25 .u32 w' w.heap.size (.slice a m cap) r ∧ Below w.heap.size w w' :=
  (redoSettle t p s w a len cap ws hs hf ho).mono fun e w' h => by
    rw [hr] at h
    rcases h with ⟨_, h, a, m, c, he, ho, hb⟩ | ⟨h, _⟩
    · cases h; exact ⟨a, m, c, he, ho, hb⟩
    · cases h
theorem redoLaySome (t p s u : Int) (S : Nat) (w : World) (a al : Option Addr) (len cap n cl : Nat) (ws r : List Nat) (ps : List (Int × Nat)) (hs : Seen .u64 w a len cap ws) (ho : okW t p s len) (h0 : 0 ≤ u) (h1 : u ≤ t) (hS : S < 4294967296) (hp : SeenP w al n cl ps) (hn : n ≤ 96) (hv : ∀ k, k < n → (ps[k]?.getD (0, 0)).2 < 4294967296) (hr : layO t p u S ps ws = some r) :
    Calls Try.prog 14 #[.agg #[.int .i64 t, .int .i64 p, .int .i64 s], .slice a len cap, .int .i64 u, .int .u32 (S : Int), .slice al n cl] w fun e w' => ∃ a m cap, e = .returned (.tuple #[.slice a m cap, .bool true]) ∧ Own 46 .u64 w' w.heap.size (.slice a m cap) r ∧ Below w.heap.size w w' :=
  (redoLay t p s u S w a al len cap n cl ws ps hs ho h0 h1 hS hp hn hv).mono fun e w' h => by
    rw [hr] at h
    rcases h with ⟨_, h, a, m, c, he, ho, hb⟩ | ⟨h, _⟩
    · cases h; exact ⟨a, m, c, he, ho, hb⟩
    · cases h

theorem seenP1 {w : World} {b : Nat} (h0 : w.cell? ⟨b, 0, none⟩ = some (.int .i64 0)) (h1 : w.cell? ⟨b, 1, none⟩ = some (.int .u32 3)) : SeenP w (some ⟨b, 0, none⟩) 1 1 [(0, 3)] :=
  ⟨rfl, Nat.le_refl _, by decide, .inr ⟨b, 0, rfl, fun j hj => by obtain rfl : j = 0 := by omega
                                                                  exact ⟨h0, h1⟩⟩⟩

set_option maxRecDepth 100000 in
set_option maxHeartbeats 3200000 in
theorem liveRedoOf (w : World) (W0 W1 V0 V1 : List Nat) (FW : RowKit.Hid (∀ w, Calls Try.prog 35 #[.agg #[.int .i64 1, .int .i64 8, .int .i64 10]] w (RowPost 46 .u64 344 w W0)))
    (FV : RowKit.Hid (∀ w, Calls Try.prog 36 #[.agg #[.int .i64 1, .int .i64 8, .int .i64 10]] w (RowPost 25 .u32 82 w V0)))
    (S0 : RowKit.Hid (settleO 1 8 W0 = some V0)) (LA : RowKit.Hid (layO 1 8 0 1 [(0, 3)] W0 = some W1)) (S1 : RowKit.Hid (settleO 1 8 W1 = some V1)) (H3 : RowKit.Hid (V1[0]?.getD 0 = 3)) (VL : RowKit.Hid (V1.length = 82)) (F0 : RowKit.Hid (Fit 18446744073709551616 W0)) (F1 : RowKit.Hid (Fit 18446744073709551616 W1)) (WL : RowKit.Hid (W1.length = 344)) (OK : RowKit.Hid (okW 1 8 10 344)) :
    Calls Try.prog 11 #[] w fun e w' => e = .returned (.bool true) ∧ Below w.heap.size w w' := by
  go_enter Try.func11, Try.ntmps11
  go_upto_region 2 with (fail)
  go_cut [2, 3] (fun v ok wx => ok = .bool true ∧ (∃ a n cap, v = .slice a n cap ∧ Own 25 .u32 wx (w.heap.size + 1) (.slice a n cap) V0) ∧ (wx.cell? ⟨w.heap.size, 0, none⟩ = some (.int .i64 1) ∧ wx.cell? ⟨w.heap.size, 1, none⟩ = some (.int .i64 8) ∧ wx.cell? ⟨w.heap.size, 2, none⟩ = some (.int .i64 10)) ∧ w.heap.size < wx.heap.size ∧ Below w.heap.size w wx)
  case first =>
    have zz : w.heap.size < (w.alloc (.cells #[.int .i64 1, .int .i64 8, .int .i64 10] 23)).drew.heap.size := by simp
    go_region_held3 (fun w' => (w'.cell? ⟨w.heap.size, 0, none⟩ = some (.int .i64 1) ∧ w'.cell? ⟨w.heap.size, 1, none⟩ = some (.int .i64 8) ∧ w'.cell? ⟨w.heap.size, 2, none⟩ = some (.int .i64 10)) ∧ w.heap.size < w'.heap.size)
      (((go_split_ands); (try dsimp only); (repeat' apply And.intro); (all_goals first | assumption | omega | (simp; omega) | go_keep)))
      (first
        | (go_at_call 35; refine (FW.out _).mono ?_; rintro e wx ⟨g, cap, rfl, hg, hgs, hown, hbx⟩; obtain ⟨hcx, hfx, hzx⟩ := after hbx; have zx : w.heap.size < wx.heap.size := (by omega); (try go_split_ands); have y0 : wx.cell? ⟨w.heap.size, 0, none⟩ = some (.int .i64 1) := (hcx _ _ (by first | assumption | omega)).trans (by first | assumption | go_keep); have y1 : wx.cell? ⟨w.heap.size, 1, none⟩ = some (.int .i64 8) := (hcx _ _ (by first | assumption | omega)).trans (by first | assumption | go_keep); have y2 : wx.cell? ⟨w.heap.size, 2, none⟩ = some (.int .i64 10) := (hcx _ _ (by first | assumption | omega)).trans (by first | assumption | go_keep))
        | (go_at_call 18; refine (redoSettleSome 1 8 10 _ _ 344 _ W0 V0 (Own.seen (by assumption)) F0.out OK.out S0.out).mono ?_; rintro e wx ⟨a1, m1, cap1, rfl, hown1, hbx⟩; obtain ⟨hcx, hfx, hzx⟩ := after hbx; have zx : w.heap.size < wx.heap.size := (by omega); (try go_split_ands); have y0 : wx.cell? ⟨w.heap.size, 0, none⟩ = some (.int .i64 1) := (hcx _ _ (by first | assumption | omega)).trans (by first | assumption | go_keep); have y1 : wx.cell? ⟨w.heap.size, 1, none⟩ = some (.int .i64 8) := (hcx _ _ (by first | assumption | omega)).trans (by first | assumption | go_keep); have y2 : wx.cell? ⟨w.heap.size, 2, none⟩ = some (.int .i64 10) := (hcx _ _ (by first | assumption | omega)).trans (by first | assumption | go_keep)))
    go_wp2_with fail
    go_meet
    case rel => exact ⟨rfl, ⟨_, _, _, rfl, Own.rebase (by assumption) (by omega)⟩, ⟨by assumption, by assumption, by assumption⟩, by omega, bel⟩
  case rest =>
    obtain ⟨rfl, ⟨a2, n2, cap2, rfl, hv2⟩, ⟨c0, c1, c2⟩, hz, hB⟩ := hcut
    obtain ⟨wA, rfl⟩ : ∃ x : World, x = wc := ⟨_, rfl⟩
    go_upto_region 3 with (fail)
    go_cut [4, 5] (fun v ok wx => ok = .bool true ∧ (∃ a cap, v = .slice a 344 cap ∧ Own 46 .u64 wx (w.heap.size + 1) (.slice a 344 cap) W1) ∧ Own 25 .u32 wx (w.heap.size + 1) (.slice a2 n2 cap2) V0 ∧ (wx.cell? ⟨w.heap.size, 0, none⟩ = some (.int .i64 1) ∧ wx.cell? ⟨w.heap.size, 1, none⟩ = some (.int .i64 8) ∧ wx.cell? ⟨w.heap.size, 2, none⟩ = some (.int .i64 10)) ∧ w.heap.size < wx.heap.size ∧ Below w.heap.size w wx)
    case first =>
      have zd1 : wA.drew.heap.size = wA.heap.size := by simp
      have zd2 : (wA.alloc (.cells #[.int .i64 0, .int .u32 3] 75)).drew.heap.size = wA.heap.size + 1 := by simp
      go_region_held3 (fun w' => (w'.cell? ⟨w.heap.size, 0, none⟩ = some (.int .i64 1) ∧ w'.cell? ⟨w.heap.size, 1, none⟩ = some (.int .i64 8) ∧ w'.cell? ⟨w.heap.size, 2, none⟩ = some (.int .i64 10)) ∧ w.heap.size < w'.heap.size)
      (((go_split_ands); (try dsimp only); (repeat' apply And.intro); (all_goals first | assumption | omega | (simp; omega) | go_keep)))
      (first
        | (go_at_call 35; refine (FW.out _).mono ?_; rintro e wx ⟨g, cap, rfl, hg, hgs, hown, hbx⟩; obtain ⟨hcx, hfx, hzx⟩ := after hbx; have zx : w.heap.size < wx.heap.size := (by omega); (try go_split_ands); have y0 : wx.cell? ⟨w.heap.size, 0, none⟩ = some (.int .i64 1) := (hcx _ _ (by first | assumption | omega)).trans (by first | assumption | go_keep); have y1 : wx.cell? ⟨w.heap.size, 1, none⟩ = some (.int .i64 8) := (hcx _ _ (by first | assumption | omega)).trans (by first | assumption | go_keep); have y2 : wx.cell? ⟨w.heap.size, 2, none⟩ = some (.int .i64 10) := (hcx _ _ (by first | assumption | omega)).trans (by first | assumption | go_keep))
        | (go_at_call 14; refine (redoLaySome 1 8 10 0 1 _ _ _ 344 _ 1 _ W0 W1 [(0, 3)] (Own.seen (by first | assumption | exact Own.kept (by assumption) ((Below.refl _ _).alloc (Nat.le_refl _) _) (Nat.le_refl _))) OK.out (by decide) (by decide) (by decide) (seenP1 (by first | exact cellNew rfl rfl | exact (hcx _ _ (by simp)).trans (cellNew rfl rfl) | go_keep) (by first | exact cellNew rfl rfl | exact (hcx _ _ (by simp)).trans (cellNew rfl rfl) | go_keep)) (by decide) (by intro k hk; obtain rfl : k = 0 := (by omega); decide) LA.out).mono ?_; rintro e wx ⟨a1, m1, cap1, rfl, hown1, hbx⟩; obtain ⟨hcx, hfx, hzx⟩ := after hbx; have zx : w.heap.size < wx.heap.size := (by omega); (try go_split_ands); have y0 : wx.cell? ⟨w.heap.size, 0, none⟩ = some (.int .i64 1) := (hcx _ _ (by first | assumption | omega)).trans (by first | assumption | go_keep); have y1 : wx.cell? ⟨w.heap.size, 1, none⟩ = some (.int .i64 8) := (hcx _ _ (by first | assumption | omega)).trans (by first | assumption | go_keep); have y2 : wx.cell? ⟨w.heap.size, 2, none⟩ = some (.int .i64 10) := (hcx _ _ (by first | assumption | omega)).trans (by first | assumption | go_keep)))
      all_goals have hm : m1 = 344 := by obtain ⟨a', c', h⟩ := hown1.anyForm; cases h; exact WL.out
      all_goals subst hm
      all_goals go_wp2_with fail
      all_goals go_meet
      all_goals (case rel => exact ⟨rfl, ⟨_, _, rfl, Own.rebase hown1 (by first | omega | (simp; omega))⟩, hv2.kept (B := wA.heap.size) bel (Nat.le_refl _), ⟨by assumption, by assumption, by assumption⟩, by omega, bel⟩)
    case rest =>
      clear c0 c1 c2 hz hB hv2
      obtain ⟨rfl, ⟨a3, cap3, rfl, hl3⟩, hv2, ⟨c0, c1, c2⟩, hz, hB⟩ := hcut
      obtain ⟨wB, rfl⟩ : ∃ x : World, x = wc := ⟨_, rfl⟩
      go_wp2_with fail
      refine (redoSettleSome 1 8 10 _ _ 344 _ W1 V1 hl3.seen F1.out OK.out S1.out).mono ?_
      rintro e wC ⟨a4, m4, cap4, rfl, hown4, hbC⟩
      have hm : m4 = 82 := by obtain ⟨a', c', h⟩ := hown4.anyForm; cases h; exact VL.out
      subst hm
      have zC : w.heap.size < wC.heap.size := by have := hbC.size; omega
      have hv3 := hv2.kept hbC (Nat.le_refl _)
      have c0 := (hbC.cell (p := ⟨w.heap.size, 0, none⟩) hz).trans c0
      have c1 := (hbC.cell (p := ⟨w.heap.size, 1, none⟩) hz).trans c1
      have c2 := (hbC.cell (p := ⟨w.heap.size, 2, none⟩) hz).trans c2
      have hBC : Below w.heap.size w wC := hB.trans (hbC.mono (by omega))
      clear hv2 hl3 hbC
      go_wp2_with fail
      refine (FV.out _).mono ?_
      rintro e wD ⟨gD, capD, rfl, hgD, hgD2, hownD, hbD⟩
      have hv4 := hv3.kept hbD (Nat.le_refl _)
      have hown5 := hown4.kept hbD (Nat.le_refl _)
      have hBD : Below w.heap.size w wD := hBC.trans (hbD.mono (by omega))
      clear hbD hv3 hown4
      go_wp2_with fail
      refine (refSameValsB _ _ _ _ _ _ _ V0 V0 hv4.seen hownD.seen).mono ?_
      rw [beq_self_eq_true]
      rintro e wE ⟨rfl, hbE⟩
      have hown6 := hown5.kept hbE (Nat.le_refl _)
      have hBE : Below w.heap.size w wE := hBD.trans (hbE.mono (by have := hBD.size; omega))
      obtain ⟨gE, cE, hvE, _, _⟩ := hown6.form (by rw [VL.out]; omega)
      rw [VL.out] at hvE
      cases hvE
      have hc := hown6.cell VL.out 0 (by omega)
      rw [H3.out] at hc
      clear hbE hown5 hv4 hownD
      go_wp2_with fail
      go_ret
      exact ⟨rfl, hBE⟩
end Go.Proofs.Ytkkhoiahjmfibaa
