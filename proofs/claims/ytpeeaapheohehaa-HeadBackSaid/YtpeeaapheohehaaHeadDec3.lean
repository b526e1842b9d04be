/- The walks of the reference's decodings of heads. -/
import Derived.Test.YtpeeaapheohehaaHeadDec2
import Derived.Test.YtpeeaapheohehaaHeadLaws
import Derived.Deep.RegionHeld3
namespace Go.Proofs.Ytpeeaapheohehaa
open Go.RowKit Go.Maps
set_option linter.unusedVariables false
set_option linter.unusedSimpArgs false


set_option maxRecDepth 100000 in
set_option maxHeartbeats 3200000 in
theorem refDecNone (w : World) (a : Option Addr) (len cap : Nat) (ws : List Nat) (hs : Seen .u64 w a len cap ws) (hf : Fit 18446744073709551616 ws) (hl : 8 ≤ len) (hok : ¬ (((ws[2]?.getD 0 : Nat) : Int) / 4294967296 ≤ 20 ∧ rightC (((ws[2]?.getD 0 : Nat) : Int) % 65536) (((ws[2]?.getD 0 : Nat) : Int) / 65536 % 65536) (((ws[2]?.getD 0 : Nat) : Int) / 4294967296) = true)) : Calls Try.prog 60 #[.slice a len cap] w fun e w' => e = .returned (decV ws) ∧ Below w.heap.size w w' := by
  obtain ⟨h1, h2, h3, h4⟩ := id hs
  rcases h4 with ⟨h4, _⟩ | ⟨b0, off, rfl, hc⟩
  · omega
  have c2 : w.cell? ⟨b0, off + 2, none⟩ = some (.int .u64 ((ws[2]?.getD 0 : Nat) : Int)) := hc 2 (by omega)
  have hx2 := hf.getD (by omega) 2
  have hlt0 := World.block_lt_of_cell? w _ c2
  have hs8 := hs.take 8 hl
  have O := hid (show ofC ((ws[2]?.getD 0 : Nat) : Int) = .tuple #[.agg #[.int .i64 0, .int .i64 0, .int .i64 0], .bool false] by rw [ofC, if_neg hok])
  have H := hid (show decV ws = .tuple #[.agg #[.int .i64 0, .int .i64 0, .int .i64 0], .int .i64 9] by
    rw [decV, if_neg]
    simp only [decB, Bool.and_eq_true, decide_eq_true_eq, beq_iff_eq]
    exact fun h => hok h.1.2)
  clear hok
  generalize hq2 : ws[2]?.getD 0 = x2 at c2 hx2 O
  clear hq2 hc h1
  go_enter Try.func60, Try.ntmps60
  go_wp2_with fail
  refine (refOfC x2 _ (by omega) (by omega)).mono ?_
  rw [O.out]
  rintro e w1 ⟨rfl, hb1⟩
  obtain ⟨hc1, hf1, hz1⟩ := after hb1
  have z1 : w.heap.size < w1.heap.size := by simp at hz1; omega
  have k0 : w1.cell? ⟨w.heap.size, 0, none⟩ = some (.int .i64 0) := by rw [hc1 _ _ (by simp)]; exact cellNew rfl rfl
  have k1 : w1.cell? ⟨w.heap.size, 1, none⟩ = some (.int .i64 0) := by rw [hc1 _ _ (by simp)]; exact cellNew rfl rfl
  have k2 : w1.cell? ⟨w.heap.size, 2, none⟩ = some (.int .i64 0) := by rw [hc1 _ _ (by simp)]; exact cellNew rfl rfl
  have m0 : w1.frozen? ⟨w.heap.size, 0, none⟩ = false := by rw [hf1 _ _ (by simp)]; simp
  have m1 : w1.frozen? ⟨w.heap.size, 1, none⟩ = false := by rw [hf1 _ _ (by simp)]; simp
  have m2 : w1.frozen? ⟨w.heap.size, 2, none⟩ = false := by rw [hf1 _ _ (by simp)]; simp
  have hB1 : Below w.heap.size w w1 := bel
  clear hc1 hf1
  go_wp2_with fail
  go_quiet (fail)
  go_wp2_with fail
  exact bodyPost_ret (v := .tuple #[.agg #[.int .i64 0, .int .i64 0, .int .i64 0], .int .i64 9]) (by simp [results, Try.results60, go_sem, k0, k1, k2, z1]) rfl ⟨by rw [H.out], bel⟩

set_option maxRecDepth 100000 in
set_option maxHeartbeats 3200000 in
theorem refDecAll (w : World) (a : Option Addr) (len cap : Nat) (ws : List Nat) (hs : Seen .u64 w a len cap ws) (hf : Fit 18446744073709551616 ws) (hl : 8 ≤ len) (hok : ((ws[2]?.getD 0 : Nat) : Int) / 4294967296 ≤ 20 ∧ rightC (((ws[2]?.getD 0 : Nat) : Int) % 65536) (((ws[2]?.getD 0 : Nat) : Int) / 65536 % 65536) (((ws[2]?.getD 0 : Nat) : Int) / 4294967296) = true) (heq : ws.take 8 = headN (cT ws) (cP ws) (cS ws)) : Calls Try.prog 60 #[.slice a len cap] w fun e w' => e = .returned (decV ws) ∧ Below w.heap.size w w' := by
  obtain ⟨h1, h2, h3, h4⟩ := id hs
  rcases h4 with ⟨h4, _⟩ | ⟨b0, off, rfl, hc⟩
  · omega
  have c2 : w.cell? ⟨b0, off + 2, none⟩ = some (.int .u64 ((ws[2]?.getD 0 : Nat) : Int)) := hc 2 (by omega)
  have hx2 := hf.getD (by omega) 2
  have hlt0 := World.block_lt_of_cell? w _ c2
  have hs8 := hs.take 8 hl
  have O := hid (show ofC ((ws[2]?.getD 0 : Nat) : Int) = .tuple #[.agg #[.int .i64 (cT ws), .int .i64 (cP ws), .int .i64 (cS ws)], .bool true] by rw [ofC, if_pos hok]; rfl)
  have R := hid (show rightC (cT ws) (cP ws) (cS ws) = true from hok.2)
  have H := hid (show decV ws = .tuple #[.agg #[.int .i64 (cT ws), .int .i64 (cP ws), .int .i64 (cS ws)], .int .i64 0] by
    rw [decV, if_pos]
    simp only [decB, Bool.and_eq_true, decide_eq_true_eq, beq_iff_eq]
    exact ⟨⟨by omega, hok⟩, heq⟩)
  have S := hid (show (headN (cT ws) (cP ws) (cS ws) == ws.take 8) = true by rw [beq_iff_eq]; exact heq.symm)
  clear heq
  clear hok
  generalize hq2 : ws[2]?.getD 0 = x2 at c2 hx2 O
  clear hq2 hc h1
  go_enter Try.func60, Try.ntmps60
  go_wp2_with fail
  refine (refOfC x2 _ (by omega) (by omega)).mono ?_
  rw [O.out]
  rintro e w1 ⟨rfl, hb1⟩
  obtain ⟨hc1, hf1, hz1⟩ := after hb1
  have z1 : w.heap.size < w1.heap.size := by simp at hz1; omega
  have k0 : w1.cell? ⟨w.heap.size, 0, none⟩ = some (.int .i64 0) := by rw [hc1 _ _ (by simp)]; exact cellNew rfl rfl
  have k1 : w1.cell? ⟨w.heap.size, 1, none⟩ = some (.int .i64 0) := by rw [hc1 _ _ (by simp)]; exact cellNew rfl rfl
  have k2 : w1.cell? ⟨w.heap.size, 2, none⟩ = some (.int .i64 0) := by rw [hc1 _ _ (by simp)]; exact cellNew rfl rfl
  have m0 : w1.frozen? ⟨w.heap.size, 0, none⟩ = false := by rw [hf1 _ _ (by simp)]; simp
  have m1 : w1.frozen? ⟨w.heap.size, 1, none⟩ = false := by rw [hf1 _ _ (by simp)]; simp
  have m2 : w1.frozen? ⟨w.heap.size, 2, none⟩ = false := by rw [hf1 _ _ (by simp)]; simp
  have hB1 : Below w.heap.size w w1 := bel
  clear hc1 hf1
  go_wp2_with fail
  have i1 : (8 : Int) ≤ (len : Int) := by omega
  have i2 : (8 : Int) ≤ (cap : Int) := by omega
  have i3 : (len : Int) ≤ (cap : Int) := by omega
  have zz : w1.heap.size < (w1.alloc (.cells #[.int .i64 (cT ws), .int .i64 (cP ws), .int .i64 (cS ws)] 23)).drew.heap.size := by simp
  have zz' : w.heap.size < (w1.alloc (.cells #[.int .i64 (cT ws), .int .i64 (cP ws), .int .i64 (cS ws)] 23)).drew.heap.size := by simp; omega
  have bb : Below w.heap.size w (w1.alloc (.cells #[.int .i64 (cT ws), .int .i64 (cP ws), .int .i64 (cS ws)] 23)).drew := (hB1.alloc (by omega) _).drew
  have l0 : (w1.alloc (.cells #[.int .i64 (cT ws), .int .i64 (cP ws), .int .i64 (cS ws)] 23)).drew.cell? ⟨w.heap.size, 0, none⟩ = some (.int .i64 0) := cellOld z1 k0
  have l1 : (w1.alloc (.cells #[.int .i64 (cT ws), .int .i64 (cP ws), .int .i64 (cS ws)] 23)).drew.cell? ⟨w.heap.size, 1, none⟩ = some (.int .i64 0) := cellOld z1 k1
  have l2 : (w1.alloc (.cells #[.int .i64 (cT ws), .int .i64 (cP ws), .int .i64 (cS ws)] 23)).drew.cell? ⟨w.heap.size, 2, none⟩ = some (.int .i64 0) := cellOld z1 k2
  have n0 : (w1.alloc (.cells #[.int .i64 (cT ws), .int .i64 (cP ws), .int .i64 (cS ws)] 23)).drew.frozen? ⟨w.heap.size, 0, none⟩ = false := (frozen?_alloc_cells _ _ _ _).trans m0
  have n1 : (w1.alloc (.cells #[.int .i64 (cT ws), .int .i64 (cP ws), .int .i64 (cS ws)] 23)).drew.frozen? ⟨w.heap.size, 1, none⟩ = false := (frozen?_alloc_cells _ _ _ _).trans m1
  have n2 : (w1.alloc (.cells #[.int .i64 (cT ws), .int .i64 (cP ws), .int .i64 (cS ws)] 23)).drew.frozen? ⟨w.heap.size, 2, none⟩ = false := (frozen?_alloc_cells _ _ _ _).trans m2
  go_region_held3 (fun w' => (w'.cell? ⟨w1.heap.size, 0, none⟩ = some (.int .i64 (cT ws)) ∧ w'.cell? ⟨w1.heap.size, 1, none⟩ = some (.int .i64 (cP ws)) ∧ w'.cell? ⟨w1.heap.size, 2, none⟩ = some (.int .i64 (cS ws))) ∧ (w'.cell? ⟨w.heap.size, 0, none⟩ = some (.int .i64 0) ∧ w'.cell? ⟨w.heap.size, 1, none⟩ = some (.int .i64 0) ∧ w'.cell? ⟨w.heap.size, 2, none⟩ = some (.int .i64 0)) ∧ (w'.frozen? ⟨w.heap.size, 0, none⟩ = false ∧ w'.frozen? ⟨w.heap.size, 1, none⟩ = false ∧ w'.frozen? ⟨w.heap.size, 2, none⟩ = false) ∧ w1.heap.size < w'.heap.size ∧ w.heap.size < w'.heap.size)
    (((go_split_ands); (try dsimp only); (repeat' apply And.intro); (all_goals first | assumption | omega | go_keep)))
    (first
      | (go_at_call 16; refine (refEncYes _ _ _ _ R.out).mono ?_; rintro e wx ⟨g, cap', rfl, hg, hgs, hown, hbx⟩; obtain ⟨hcx, hfx, hzx⟩ := after hbx; have hBx : Below w.heap.size w wx := bb.trans (hbx.mono (by omega)); have hsx := hs8.below hBx; have x0 : wx.cell? ⟨w.heap.size, 0, none⟩ = some (.int .i64 0) := (hcx _ _ zz').trans l0; have y0 : wx.frozen? ⟨w.heap.size, 0, none⟩ = false := (hfx _ _ zz').trans n0; have x1 : wx.cell? ⟨w.heap.size, 1, none⟩ = some (.int .i64 0) := (hcx _ _ zz').trans l1; have y1 : wx.frozen? ⟨w.heap.size, 1, none⟩ = false := (hfx _ _ zz').trans n1; have x2 : wx.cell? ⟨w.heap.size, 2, none⟩ = some (.int .i64 0) := (hcx _ _ zz').trans l2; have y2 : wx.frozen? ⟨w.heap.size, 2, none⟩ = false := (hfx _ _ zz').trans n2; have c0 : wx.cell? ⟨w1.heap.size, 0, none⟩ = some (.int .i64 (cT ws)) := (hcx _ _ zz).trans (by exact cellNew rfl rfl); have c1 : wx.cell? ⟨w1.heap.size, 1, none⟩ = some (.int .i64 (cP ws)) := (hcx _ _ zz).trans (by exact cellNew rfl rfl); have c2 : wx.cell? ⟨w1.heap.size, 2, none⟩ = some (.int .i64 (cS ws)) := (hcx _ _ zz).trans (by exact cellNew rfl rfl))
      | (go_at_call 14; refine (refSameWordsB _ _ _ _ _ _ _ (headN (cT ws) (cP ws) (cS ws)) (ws.take 8) (Own.seen (by assumption)) (by assumption)).mono ?_; rw [S.out]; rintro e wx ⟨rfl, hbx⟩; obtain ⟨hcx, hfx, hzx⟩ := after hbx; (try go_split_ands); have x0 : wx.cell? ⟨w.heap.size, 0, none⟩ = some (.int .i64 0) := (hcx _ _ (by omega)).trans (by assumption); have y0 : wx.frozen? ⟨w.heap.size, 0, none⟩ = false := (hfx _ _ (by omega)).trans (by assumption); have x1 : wx.cell? ⟨w.heap.size, 1, none⟩ = some (.int .i64 0) := (hcx _ _ (by omega)).trans (by assumption); have y1 : wx.frozen? ⟨w.heap.size, 1, none⟩ = false := (hfx _ _ (by omega)).trans (by assumption); have x2 : wx.cell? ⟨w.heap.size, 2, none⟩ = some (.int .i64 0) := (hcx _ _ (by omega)).trans (by assumption); have y2 : wx.frozen? ⟨w.heap.size, 2, none⟩ = false := (hfx _ _ (by omega)).trans (by assumption); have c0 : wx.cell? ⟨w1.heap.size, 0, none⟩ = some (.int .i64 (cT ws)) := (hcx _ _ (by omega)).trans (by assumption); have c1 : wx.cell? ⟨w1.heap.size, 1, none⟩ = some (.int .i64 (cP ws)) := (hcx _ _ (by omega)).trans (by assumption); have c2 : wx.cell? ⟨w1.heap.size, 2, none⟩ = some (.int .i64 (cS ws)) := (hcx _ _ (by omega)).trans (by assumption)))
  all_goals go_split_ands
  all_goals go_wp2_with fail
  all_goals exact bodyPost_ret (v := .tuple #[.agg #[.int .i64 (cT ws), .int .i64 (cP ws), .int .i64 (cS ws)], .int .i64 0]) (by simp [results, Try.results60, go_sem, *]) rfl ⟨by rw [H.out], bel⟩

set_option maxRecDepth 100000 in
set_option maxHeartbeats 3200000 in
theorem refDecSome (w : World) (a : Option Addr) (len cap : Nat) (ws : List Nat) (hs : Seen .u64 w a len cap ws) (hf : Fit 18446744073709551616 ws) (hl : 8 ≤ len) (hok : ((ws[2]?.getD 0 : Nat) : Int) / 4294967296 ≤ 20 ∧ rightC (((ws[2]?.getD 0 : Nat) : Int) % 65536) (((ws[2]?.getD 0 : Nat) : Int) / 65536 % 65536) (((ws[2]?.getD 0 : Nat) : Int) / 4294967296) = true) (heq : ¬ ws.take 8 = headN (cT ws) (cP ws) (cS ws)) : Calls Try.prog 60 #[.slice a len cap] w fun e w' => e = .returned (decV ws) ∧ Below w.heap.size w w' := by
  obtain ⟨h1, h2, h3, h4⟩ := id hs
  rcases h4 with ⟨h4, _⟩ | ⟨b0, off, rfl, hc⟩
  · omega
  have c2 : w.cell? ⟨b0, off + 2, none⟩ = some (.int .u64 ((ws[2]?.getD 0 : Nat) : Int)) := hc 2 (by omega)
  have hx2 := hf.getD (by omega) 2
  have hlt0 := World.block_lt_of_cell? w _ c2
  have hs8 := hs.take 8 hl
  have O := hid (show ofC ((ws[2]?.getD 0 : Nat) : Int) = .tuple #[.agg #[.int .i64 (cT ws), .int .i64 (cP ws), .int .i64 (cS ws)], .bool true] by rw [ofC, if_pos hok]; rfl)
  have R := hid (show rightC (cT ws) (cP ws) (cS ws) = true from hok.2)
  have H := hid (show decV ws = .tuple #[.agg #[.int .i64 0, .int .i64 0, .int .i64 0], .int .i64 9] by rw [decV, if_neg (by simp [decB, heq])])
  have S := hid (show (headN (cT ws) (cP ws) (cS ws) == ws.take 8) = false by rw [beq_eq_false_iff_ne]; exact fun h => heq h.symm)
  clear heq
  clear hok
  generalize hq2 : ws[2]?.getD 0 = x2 at c2 hx2 O
  clear hq2 hc h1
  go_enter Try.func60, Try.ntmps60
  go_wp2_with fail
  refine (refOfC x2 _ (by omega) (by omega)).mono ?_
  rw [O.out]
  rintro e w1 ⟨rfl, hb1⟩
  obtain ⟨hc1, hf1, hz1⟩ := after hb1
  have z1 : w.heap.size < w1.heap.size := by simp at hz1; omega
  have k0 : w1.cell? ⟨w.heap.size, 0, none⟩ = some (.int .i64 0) := by rw [hc1 _ _ (by simp)]; exact cellNew rfl rfl
  have k1 : w1.cell? ⟨w.heap.size, 1, none⟩ = some (.int .i64 0) := by rw [hc1 _ _ (by simp)]; exact cellNew rfl rfl
  have k2 : w1.cell? ⟨w.heap.size, 2, none⟩ = some (.int .i64 0) := by rw [hc1 _ _ (by simp)]; exact cellNew rfl rfl
  have m0 : w1.frozen? ⟨w.heap.size, 0, none⟩ = false := by rw [hf1 _ _ (by simp)]; simp
  have m1 : w1.frozen? ⟨w.heap.size, 1, none⟩ = false := by rw [hf1 _ _ (by simp)]; simp
  have m2 : w1.frozen? ⟨w.heap.size, 2, none⟩ = false := by rw [hf1 _ _ (by simp)]; simp
  have hB1 : Below w.heap.size w w1 := bel
  clear hc1 hf1
  go_wp2_with fail
  have i1 : (8 : Int) ≤ (len : Int) := by omega
  have i2 : (8 : Int) ≤ (cap : Int) := by omega
  have i3 : (len : Int) ≤ (cap : Int) := by omega
  have zz : w1.heap.size < (w1.alloc (.cells #[.int .i64 (cT ws), .int .i64 (cP ws), .int .i64 (cS ws)] 23)).drew.heap.size := by simp
  have zz' : w.heap.size < (w1.alloc (.cells #[.int .i64 (cT ws), .int .i64 (cP ws), .int .i64 (cS ws)] 23)).drew.heap.size := by simp; omega
  have bb : Below w.heap.size w (w1.alloc (.cells #[.int .i64 (cT ws), .int .i64 (cP ws), .int .i64 (cS ws)] 23)).drew := (hB1.alloc (by omega) _).drew
  have l0 : (w1.alloc (.cells #[.int .i64 (cT ws), .int .i64 (cP ws), .int .i64 (cS ws)] 23)).drew.cell? ⟨w.heap.size, 0, none⟩ = some (.int .i64 0) := cellOld z1 k0
  have l1 : (w1.alloc (.cells #[.int .i64 (cT ws), .int .i64 (cP ws), .int .i64 (cS ws)] 23)).drew.cell? ⟨w.heap.size, 1, none⟩ = some (.int .i64 0) := cellOld z1 k1
  have l2 : (w1.alloc (.cells #[.int .i64 (cT ws), .int .i64 (cP ws), .int .i64 (cS ws)] 23)).drew.cell? ⟨w.heap.size, 2, none⟩ = some (.int .i64 0) := cellOld z1 k2
  have n0 : (w1.alloc (.cells #[.int .i64 (cT ws), .int .i64 (cP ws), .int .i64 (cS ws)] 23)).drew.frozen? ⟨w.heap.size, 0, none⟩ = false := (frozen?_alloc_cells _ _ _ _).trans m0
  have n1 : (w1.alloc (.cells #[.int .i64 (cT ws), .int .i64 (cP ws), .int .i64 (cS ws)] 23)).drew.frozen? ⟨w.heap.size, 1, none⟩ = false := (frozen?_alloc_cells _ _ _ _).trans m1
  have n2 : (w1.alloc (.cells #[.int .i64 (cT ws), .int .i64 (cP ws), .int .i64 (cS ws)] 23)).drew.frozen? ⟨w.heap.size, 2, none⟩ = false := (frozen?_alloc_cells _ _ _ _).trans m2
  go_region_held3 (fun w' => (w'.cell? ⟨w1.heap.size, 0, none⟩ = some (.int .i64 (cT ws)) ∧ w'.cell? ⟨w1.heap.size, 1, none⟩ = some (.int .i64 (cP ws)) ∧ w'.cell? ⟨w1.heap.size, 2, none⟩ = some (.int .i64 (cS ws))) ∧ (w'.cell? ⟨w.heap.size, 0, none⟩ = some (.int .i64 0) ∧ w'.cell? ⟨w.heap.size, 1, none⟩ = some (.int .i64 0) ∧ w'.cell? ⟨w.heap.size, 2, none⟩ = some (.int .i64 0)) ∧ (w'.frozen? ⟨w.heap.size, 0, none⟩ = false ∧ w'.frozen? ⟨w.heap.size, 1, none⟩ = false ∧ w'.frozen? ⟨w.heap.size, 2, none⟩ = false) ∧ w1.heap.size < w'.heap.size ∧ w.heap.size < w'.heap.size)
    (((go_split_ands); (try dsimp only); (repeat' apply And.intro); (all_goals first | assumption | omega | go_keep)))
    (first
      | (go_at_call 16; refine (refEncYes _ _ _ _ R.out).mono ?_; rintro e wx ⟨g, cap', rfl, hg, hgs, hown, hbx⟩; obtain ⟨hcx, hfx, hzx⟩ := after hbx; have hBx : Below w.heap.size w wx := bb.trans (hbx.mono (by omega)); have hsx := hs8.below hBx; have x0 : wx.cell? ⟨w.heap.size, 0, none⟩ = some (.int .i64 0) := (hcx _ _ zz').trans l0; have y0 : wx.frozen? ⟨w.heap.size, 0, none⟩ = false := (hfx _ _ zz').trans n0; have x1 : wx.cell? ⟨w.heap.size, 1, none⟩ = some (.int .i64 0) := (hcx _ _ zz').trans l1; have y1 : wx.frozen? ⟨w.heap.size, 1, none⟩ = false := (hfx _ _ zz').trans n1; have x2 : wx.cell? ⟨w.heap.size, 2, none⟩ = some (.int .i64 0) := (hcx _ _ zz').trans l2; have y2 : wx.frozen? ⟨w.heap.size, 2, none⟩ = false := (hfx _ _ zz').trans n2; have c0 : wx.cell? ⟨w1.heap.size, 0, none⟩ = some (.int .i64 (cT ws)) := (hcx _ _ zz).trans (by exact cellNew rfl rfl); have c1 : wx.cell? ⟨w1.heap.size, 1, none⟩ = some (.int .i64 (cP ws)) := (hcx _ _ zz).trans (by exact cellNew rfl rfl); have c2 : wx.cell? ⟨w1.heap.size, 2, none⟩ = some (.int .i64 (cS ws)) := (hcx _ _ zz).trans (by exact cellNew rfl rfl))
      | (go_at_call 14; refine (refSameWordsB _ _ _ _ _ _ _ (headN (cT ws) (cP ws) (cS ws)) (ws.take 8) (Own.seen (by assumption)) (by assumption)).mono ?_; rw [S.out]; rintro e wx ⟨rfl, hbx⟩; obtain ⟨hcx, hfx, hzx⟩ := after hbx; (try go_split_ands); have x0 : wx.cell? ⟨w.heap.size, 0, none⟩ = some (.int .i64 0) := (hcx _ _ (by omega)).trans (by assumption); have y0 : wx.frozen? ⟨w.heap.size, 0, none⟩ = false := (hfx _ _ (by omega)).trans (by assumption); have x1 : wx.cell? ⟨w.heap.size, 1, none⟩ = some (.int .i64 0) := (hcx _ _ (by omega)).trans (by assumption); have y1 : wx.frozen? ⟨w.heap.size, 1, none⟩ = false := (hfx _ _ (by omega)).trans (by assumption); have x2 : wx.cell? ⟨w.heap.size, 2, none⟩ = some (.int .i64 0) := (hcx _ _ (by omega)).trans (by assumption); have y2 : wx.frozen? ⟨w.heap.size, 2, none⟩ = false := (hfx _ _ (by omega)).trans (by assumption); have c0 : wx.cell? ⟨w1.heap.size, 0, none⟩ = some (.int .i64 (cT ws)) := (hcx _ _ (by omega)).trans (by assumption); have c1 : wx.cell? ⟨w1.heap.size, 1, none⟩ = some (.int .i64 (cP ws)) := (hcx _ _ (by omega)).trans (by assumption); have c2 : wx.cell? ⟨w1.heap.size, 2, none⟩ = some (.int .i64 (cS ws)) := (hcx _ _ (by omega)).trans (by assumption)))
  all_goals go_split_ands
  all_goals go_wp2_with fail
  all_goals exact bodyPost_ret (v := .tuple #[.agg #[.int .i64 0, .int .i64 0, .int .i64 0], .int .i64 9]) (by simp [results, Try.results60, go_sem, *]) rfl ⟨by rw [H.out], bel⟩

theorem refDec (w : World) (a : Option Addr) (len cap : Nat) (ws : List Nat) (hs : Seen .u64 w a len cap ws) (hf : Fit 18446744073709551616 ws) : Calls Try.prog 60 #[.slice a len cap] w fun e w' => e = .returned (decV ws) ∧ Below w.heap.size w w' := by
  by_cases hl : len < 8
  · exact refDecShort w a len cap ws hs hf hl
  by_cases hok : ((ws[2]?.getD 0 : Nat) : Int) / 4294967296 ≤ 20 ∧ rightC (((ws[2]?.getD 0 : Nat) : Int) % 65536) (((ws[2]?.getD 0 : Nat) : Int) / 65536 % 65536) (((ws[2]?.getD 0 : Nat) : Int) / 4294967296) = true
  · by_cases heq : ws.take 8 = headN (cT ws) (cP ws) (cS ws)
    · exact refDecAll w a len cap ws hs hf (by omega) hok heq
    · exact refDecSome w a len cap ws hs hf (by omega) hok heq
  · exact refDecNone w a len cap ws hs hf (by omega) hok
end Go.Proofs.Ytpeeaapheohehaa
