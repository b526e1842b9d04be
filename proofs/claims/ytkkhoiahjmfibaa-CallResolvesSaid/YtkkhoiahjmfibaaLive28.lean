/- The walk of layer 28's own examples. -/
import Derived.Test.YtkkhoiahjmfibaaCallPlain
import Derived.Test.YtkkhoiahjmfibaaRedoLive
namespace Go.Proofs.Ytkkhoiahjmfibaa
open Go.RowKit
set_option linter.unusedVariables false
set_option linter.unusedSimpArgs false

theorem frozenOut (W : World) (b o : Nat) (h : W.heap.size ≤ b) : W.frozen? ⟨b, o, none⟩ = false := by
  have h' : W.heap[b]? = none := Array.getElem?_eq_none h
  simp [World.frozen?, h']
theorem two2lt (W : World) (oA oB : Obj) : W.heap.size < ((W.drew.alloc oA).alloc oB).heap.size := by simp; omega
theorem two2 (W : World) (oB : Obj) (A : Array Value) (T : TypeId) (j : Nat) (v : Value) (h : A[j]? = some v) : ((W.drew.alloc (.cells A T)).alloc oB).cell? ⟨W.heap.size, j, none⟩ = some v :=
  cellOld (by simp) (cellNew (by simp) h)
theorem two2f (W : World) (A B : Array Value) (S T : TypeId) (o : Nat) : ((W.drew.alloc (.cells A T)).alloc (.cells B S)).frozen? ⟨W.heap.size, o, none⟩ = false := by
  rw [frozen?_alloc_cells, frozen?_alloc_cells]
  exact frozenOut _ _ _ (by simp)
theorem farKeep {W : World} {g o b j : Nat} {v u : Value} (h : W.cell? ⟨b, j, none⟩ = some u) (hne : g ≠ b) : (W.setCell ⟨g, o, none⟩ v).cell? ⟨b, j, none⟩ = some u := by
  rw [World.cell?_setCell_far _ _ _ _ hne]; exact h
theorem cellDrew {W : World} {q : Addr} {v : Value} (h : W.cell? q = some v) : W.drew.cell? q = some v := h
theorem far7 {W : World} {g b j : Nat} {v0 v1 v2 v3 v4 v5 v6 u : Value} (h : W.cell? ⟨b, j, none⟩ = some u) (hne : g ≠ b) : (((((((W.setCell ⟨g, 0, none⟩ v0).setCell ⟨g, 1, none⟩ v1).setCell ⟨g, 2, none⟩ v2).setCell ⟨g, 3, none⟩ v3).setCell ⟨g, 4, none⟩ v4).setCell ⟨g, 5, none⟩ v5).setCell ⟨g, 6, none⟩ v6).cell? ⟨b, j, none⟩ = some u := (farKeep (farKeep (farKeep (farKeep (farKeep (farKeep (farKeep h hne) hne) hne) hne) hne) hne) hne)
theorem setHit {W : World} {g o : Nat} {v u : Value} (h : W.cell? ⟨g, o, none⟩ = some u) : (W.setCell ⟨g, o, none⟩ v).cell? ⟨g, o, none⟩ = some v := World.cell?_setCell_same' _ _ _ (by rw [h]; rfl)
theorem setNear {W : World} {g o j : Nat} {v u : Value} (h : W.cell? ⟨g, j, none⟩ = some u) (hne : o ≠ j) : (W.setCell ⟨g, o, none⟩ v).cell? ⟨g, j, none⟩ = some u := by
  rw [World.cell?_setCell_other _ _ _ _ (by intro h; cases h; exact hne rfl)]; exact h
theorem belAlloc {B : Nat} {a w : World} {o : Obj} (hB : B ≤ w.heap.size) (h : Below B a w) : Below B a (w.alloc o) := h.alloc hB o
theorem belDrewC {B : Nat} {a w : World} (h : Below B a w) : Below B a w.drew := h.drew
theorem belSet {B g j : Nat} {a w : World} {u : Value} (hp : B ≤ g) (h : Below B a w) : Below B a (w.setCell ⟨g, j, none⟩ u) := h.setCell (p := ⟨g, j, none⟩) hp u
/-- A block of seven numbers' cells, whole. -/
def Blk (W : World) (b : Nat) (A : Array Value) : Prop := W.heap[b]? = some (.cells A 68)
theorem blkBelow {W W' : World} {b : Nat} {A : Array Value} (hb : Below W.heap.size W W') (h : b < W.heap.size) (k : Blk W b A) : Blk W' b A := (hb.block b h).trans k
theorem blkCell {W : World} {b j : Nat} {A : Array Value} {v : Value} (k : Blk W b A) (h : A[j]? = some v) : W.cell? ⟨b, j, none⟩ = some v := by
  unfold Blk at k
  simp only [World.cell?, k]
  exact h
theorem blkMark {W : World} {b : Nat} {A : Array Value} (k : Blk W b A) (o : Nat) : W.frozen? ⟨b, o, none⟩ = false := by
  unfold Blk at k
  simp [World.frozen?, k]
theorem blkNew {W : World} {b : Nat} {A : Array Value} (h : b = W.heap.size) : Blk (W.alloc (.cells A 68)) b A := by
  subst h
  exact heap_alloc_new W _
theorem blkOld {W : World} {b : Nat} {A : Array Value} {o : Obj} (h : b < W.heap.size) (k : Blk W b A) : Blk (W.alloc o) b A := by
  unfold Blk at *
  rw [← k]
  simp only [World.alloc]
  rw [Array.getElem?_push, if_neg (by omega)]
theorem blkDrew {W : World} {b : Nat} {A : Array Value} (k : Blk W b A) : Blk W.drew b A := k
theorem blkHit {W : World} {g o : Nat} {A : Array Value} {v : Value} (k : Blk W g A) : Blk (W.setCell ⟨g, o, none⟩ v) g (A.setIfInBounds o v) := by
  unfold Blk at *
  simp [World.setCell, Array.getElem?_modify, k]
theorem blkFar {W : World} {g o b : Nat} {A : Array Value} {v : Value} (h : g ≠ b) (k : Blk W b A) : Blk (W.setCell ⟨g, o, none⟩ v) b A := by
  unfold Blk at *
  simp [World.setCell, Array.getElem?_modify, h, k]
theorem blkFar7 {W : World} {g b : Nat} {A : Array Value} {v0 v1 v2 v3 v4 v5 v6 : Value} (h : g ≠ b) (k : Blk W b A) : Blk (((((((W.setCell ⟨g, 0, none⟩ v0).setCell ⟨g, 1, none⟩ v1).setCell ⟨g, 2, none⟩ v2).setCell ⟨g, 3, none⟩ v3).setCell ⟨g, 4, none⟩ v4).setCell ⟨g, 5, none⟩ v5).setCell ⟨g, 6, none⟩ v6) b A :=
  blkFar h (blkFar h (blkFar h (blkFar h (blkFar h (blkFar h (blkFar h k))))))
theorem blkSet7 {W : World} {g : Nat} {v0 v1 v2 v3 v4 v5 v6 : Value} (k : Blk W g #[.int .i64 0, .int .i64 0, .int .i64 0, .int .i64 0, .int .i64 0, .int .i64 0, .int .i64 0]) : Blk (((((((W.setCell ⟨g, 0, none⟩ v0).setCell ⟨g, 1, none⟩ v1).setCell ⟨g, 2, none⟩ v2).setCell ⟨g, 3, none⟩ v3).setCell ⟨g, 4, none⟩ v4).setCell ⟨g, 5, none⟩ v5).setCell ⟨g, 6, none⟩ v6) g #[v0, v1, v2, v3, v4, v5, v6] :=
  blkHit (blkHit (blkHit (blkHit (blkHit (blkHit (blkHit k))))))
/-- What the examples leave: the two answers, in blocks of their own. -/
def Both7 (w : World) (u v : Value) (wx : World) : Prop := ∃ g h : Nat, u = .pointer (some ⟨g, 0, none⟩) ∧ v = .pointer (some ⟨h, 0, none⟩) ∧
  Blk wx g #[.int .i64 1, .int .i64 8, .int .i64 0, .int .i64 0, .int .i64 0, .int .i64 0, .int .i64 0] ∧ Blk wx h #[.int .i64 0, .int .i64 0, .int .i64 0, .int .i64 0, .int .i64 0, .int .i64 0, .int .i64 0] ∧ w.heap.size < wx.heap.size ∧ Below w.heap.size w wx

set_option maxRecDepth 100000 in
set_option maxHeartbeats 40000000 in
theorem live28Of (w : World) (W0 W1 : List Nat) (FW : RowKit.Hid (∀ w, Calls Try.prog 35 #[.agg #[.int .i64 1, .int .i64 8, .int .i64 10]] w (RowPost 46 .u64 344 w W0)))
    (LN0 : RowKit.Hid (lastN 1 8 0 W0 = 0)) (LB0 : RowKit.Hid (lastB 1 8 0 W0 = 1)) (LC0 : RowKit.Hid (layC 1 8 0 W0 5 8 0 0 = some W1)) (LN1 : RowKit.Hid (lastN 1 8 0 W1 = 5)) (LB1 : RowKit.Hid (lastB 1 8 0 W1 = 0)) (WL : RowKit.Hid (W1.length = 344)) (OK : RowKit.Hid (okW 1 8 10 344))
    (PX : RowKit.Hid (∀ a cap w', Seen .u64 w' a 344 cap W1 → Calls Try.prog 31 #[.agg #[.int .i64 1, .int .i64 8, .int .i64 10], .slice a 344 cap, .int .i64 0, .int .i64 5] w' fun e w'' => e = .returned (.agg #[.int .i64 1, .int .i64 8, .int .i64 0, .int .i64 0, .int .i64 0, .int .i64 0, .int .i64 0]) ∧ Below w'.heap.size w' w'')) (PY : RowKit.Hid (∀ a cap w', Seen .u64 w' a 344 cap W1 → Calls Try.prog 31 #[.agg #[.int .i64 1, .int .i64 8, .int .i64 10], .slice a 344 cap, .int .i64 0, .int .i64 4] w' fun e w'' => e = .returned (.agg #[.int .i64 0, .int .i64 0, .int .i64 0, .int .i64 0, .int .i64 0, .int .i64 0, .int .i64 0]) ∧ Below w'.heap.size w' w'')) :
    Calls Try.prog 24 #[] w fun e w' => e = .returned (.bool true) ∧ Below w.heap.size w w' := by
  go_enter Try.func24, Try.ntmps24
  go_upto_region 2 with (fail)
  go_cut [2, 3, 4] (fun n b ok wx => n = .int .i64 0 ∧ b = .int .i64 1 ∧ ok = .bool true ∧ (wx.cell? ⟨w.heap.size, 0, none⟩ = some (.int .i64 1) ∧ wx.cell? ⟨w.heap.size, 1, none⟩ = some (.int .i64 8) ∧ wx.cell? ⟨w.heap.size, 2, none⟩ = some (.int .i64 10)) ∧ w.heap.size < wx.heap.size ∧ Below w.heap.size w wx)
  case first =>
    have zz : w.heap.size < (w.alloc (.cells #[.int .i64 1, .int .i64 8, .int .i64 10] 23)).drew.heap.size := by simp
    go_region_held3 (fun w' => (w'.cell? ⟨w.heap.size, 0, none⟩ = some (.int .i64 1) ∧ w'.cell? ⟨w.heap.size, 1, none⟩ = some (.int .i64 8) ∧ w'.cell? ⟨w.heap.size, 2, none⟩ = some (.int .i64 10)) ∧ w.heap.size < w'.heap.size)
      (((go_split_ands); (try dsimp only); (repeat' apply And.intro); (all_goals first | assumption | omega | (simp; omega) | go_keep)))
      (first
        | (go_at_call 35; refine (FW.out _).mono ?_; rintro e wx ⟨g, cap, rfl, hg, hgs, hown, hbx⟩; obtain ⟨hcx, hfx, hzx⟩ := after hbx; have zx : w.heap.size < wx.heap.size := (by omega); (try go_split_ands); have y0 : wx.cell? ⟨w.heap.size, 0, none⟩ = some (.int .i64 1) := (hcx _ _ (by first | assumption | omega)).trans (by first | assumption | go_keep); have y1 : wx.cell? ⟨w.heap.size, 1, none⟩ = some (.int .i64 8) := (hcx _ _ (by first | assumption | omega)).trans (by first | assumption | go_keep); have y2 : wx.cell? ⟨w.heap.size, 2, none⟩ = some (.int .i64 10) := (hcx _ _ (by first | assumption | omega)).trans (by first | assumption | go_keep))
        | (go_at_call 25; refine (callLastYes 1 8 10 0 _ _ 344 _ W0 (Own.seen (by assumption)) OK.out (by decide) (by decide)).mono ?_; rw [LN0.out, LB0.out]; rintro e wx ⟨rfl, hbx⟩; obtain ⟨hcx, hfx, hzx⟩ := after hbx; have zx : w.heap.size < wx.heap.size := (by omega); (try go_split_ands); have y0 : wx.cell? ⟨w.heap.size, 0, none⟩ = some (.int .i64 1) := (hcx _ _ (by first | assumption | omega)).trans (by first | assumption | go_keep); have y1 : wx.cell? ⟨w.heap.size, 1, none⟩ = some (.int .i64 8) := (hcx _ _ (by first | assumption | omega)).trans (by first | assumption | go_keep); have y2 : wx.cell? ⟨w.heap.size, 2, none⟩ = some (.int .i64 10) := (hcx _ _ (by first | assumption | omega)).trans (by first | assumption | go_keep)))
    all_goals go_wp2_with fail
    all_goals go_meet
    all_goals (case rel => exact ⟨rfl, rfl, rfl, ⟨by assumption, by assumption, by assumption⟩, by omega, bel⟩)
  case rest =>
    obtain ⟨rfl, rfl, rfl, ⟨c0, c1, c2⟩, hz, hB⟩ := hcut
    obtain ⟨wA, rfl⟩ : ∃ x : World, x = wc := ⟨_, rfl⟩
    go_upto_region 3 with (fail)
    go_cut [5, 6] (fun v ok wx => ok = .bool true ∧ (∃ a cap, v = .slice a 344 cap ∧ Own 46 .u64 wx (w.heap.size + 1) (.slice a 344 cap) W1) ∧ (wx.cell? ⟨w.heap.size, 0, none⟩ = some (.int .i64 1) ∧ wx.cell? ⟨w.heap.size, 1, none⟩ = some (.int .i64 8) ∧ wx.cell? ⟨w.heap.size, 2, none⟩ = some (.int .i64 10)) ∧ w.heap.size < wx.heap.size ∧ Below w.heap.size w wx)
    case first =>
      have zd1 : wA.drew.heap.size = wA.heap.size := by simp
      go_region_held3 (fun w' => (w'.cell? ⟨w.heap.size, 0, none⟩ = some (.int .i64 1) ∧ w'.cell? ⟨w.heap.size, 1, none⟩ = some (.int .i64 8) ∧ w'.cell? ⟨w.heap.size, 2, none⟩ = some (.int .i64 10)) ∧ w.heap.size < w'.heap.size)
      (((go_split_ands); (try dsimp only); (repeat' apply And.intro); (all_goals first | assumption | omega | (simp; omega) | go_keep)))
      (first
        | (go_at_call 35; refine (FW.out _).mono ?_; rintro e wx ⟨g, cap, rfl, hg, hgs, hown, hbx⟩; obtain ⟨hcx, hfx, hzx⟩ := after hbx; have zx : w.heap.size < wx.heap.size := (by omega); (try go_split_ands); have y0 : wx.cell? ⟨w.heap.size, 0, none⟩ = some (.int .i64 1) := (hcx _ _ (by first | assumption | omega)).trans (by first | assumption | go_keep); have y1 : wx.cell? ⟨w.heap.size, 1, none⟩ = some (.int .i64 8) := (hcx _ _ (by first | assumption | omega)).trans (by first | assumption | go_keep); have y2 : wx.cell? ⟨w.heap.size, 2, none⟩ = some (.int .i64 10) := (hcx _ _ (by first | assumption | omega)).trans (by first | assumption | go_keep))
        | (go_at_call 29; refine (callLayYes 1 8 10 0 _ _ 344 _ W0 5 8 0 0 (Own.seen (by assumption)) OK.out (by decide) (by decide)).mono ?_; rw [LC0.out]; rintro e wx hpx; obtain ⟨a1, m1, cap1, rfl, hown1, hbx⟩ := hpx.open; obtain ⟨hcx, hfx, hzx⟩ := after hbx; have zx : w.heap.size < wx.heap.size := (by omega); (try go_split_ands); have y0 : wx.cell? ⟨w.heap.size, 0, none⟩ = some (.int .i64 1) := (hcx _ _ (by first | assumption | omega)).trans (by first | assumption | go_keep); have y1 : wx.cell? ⟨w.heap.size, 1, none⟩ = some (.int .i64 8) := (hcx _ _ (by first | assumption | omega)).trans (by first | assumption | go_keep); have y2 : wx.cell? ⟨w.heap.size, 2, none⟩ = some (.int .i64 10) := (hcx _ _ (by first | assumption | omega)).trans (by first | assumption | go_keep)))
      all_goals have hown1 : Own 46 .u64 _ _ (.slice a1 m1 cap1) W1 := hown1
      all_goals have hm : m1 = 344 := by obtain ⟨a', c', h⟩ := hown1.anyForm; cases h; exact WL.out
      all_goals subst hm
      all_goals go_wp2_with fail
      all_goals go_meet
      all_goals (case rel => exact ⟨rfl, ⟨_, _, rfl, Own.rebase hown1 (by first | omega | (simp; omega))⟩, ⟨by assumption, by assumption, by assumption⟩, by omega, bel⟩)
    case rest =>
      clear c0 c1 c2 hz hB
      obtain ⟨rfl, ⟨a3, cap3, rfl, hl3⟩, ⟨c0, c1, c2⟩, hz, hB⟩ := hcut
      obtain ⟨wa, rfl⟩ : ∃ x : World, x = wc := ⟨_, rfl⟩
      go_wp2_with fail
      refine (callLastYes 1 8 10 0 _ _ 344 _ W1 hl3.seen OK.out (by decide) (by decide)).mono ?_
      rw [LN1.out, LB1.out]
      rintro e wB ⟨rfl, hbB⟩
      have hs0 := (hl3.kept hbB (Nat.le_refl _)).seen
      have zB : w.heap.size < wB.heap.size := by have := hbB.size; omega
      have c0 := (hbB.cell (p := ⟨w.heap.size, 0, none⟩) hz).trans c0
      have c1 := (hbB.cell (p := ⟨w.heap.size, 1, none⟩) hz).trans c1
      have c2 := (hbB.cell (p := ⟨w.heap.size, 2, none⟩) hz).trans c2
      have hBB : Below w.heap.size w wB := hB.trans (hbB.mono (by omega))
      clear hbB hl3 hB hz
      have PX := hid (PX.out a3 cap3)
      have PY := hid (PY.out a3 cap3)
      go_upto_region 5 with (fail)
      go_cut [10, 11] (fun u v wx => Both7 w u v wx)
      case first =>
        have zd1 : wB.drew.heap.size = wB.heap.size := by simp
        clear FW LN0 LB0 LC0 LN1 LB1 WL OK
        go_region_held3 (fun w' => (w'.cell? ⟨w.heap.size, 0, none⟩ = some (.int .i64 1) ∧ w'.cell? ⟨w.heap.size, 1, none⟩ = some (.int .i64 8) ∧ w'.cell? ⟨w.heap.size, 2, none⟩ = some (.int .i64 10)) ∧ w.heap.size < w'.heap.size)
          (((go_split_ands); (try dsimp only); (repeat' apply And.intro); (all_goals first | (with_reducible assumption) | omega | ((repeat (first | (with_reducible refine cellDrew ?_) | (with_reducible refine far7 ?_ (by omega)) | (with_reducible refine farKeep ?_ (by first | assumption | omega | (simp; omega))) | (with_reducible refine cellOld (by first | omega | (simp; omega)) ?_))); (with_reducible assumption)) | (simp; omega) | (simp; done) | go_keep)))
          (first
            | (go_at_call_of 31 (Value.int .i64 5); refine (PX.out _ (hs0.below bel)).mono ?_; rintro e wx ⟨rfl, hbwx⟩; obtain ⟨hcwx, hfwx, hzwx⟩ := after hbwx; (try simp at hzwx); (try go_split_ands); have zwx : w.heap.size < wx.heap.size := (by omega); have hX : Below wB.heap.size wB wx := bel; have hsx := hs0.below hX; have hBwx : Below w.heap.size w wx := hBB.trans (hX.mono (by omega)); have zbwx : wB.heap.size ≤ wx.heap.size := (by omega); have wxc0 : wx.cell? ⟨w.heap.size, 0, none⟩ = some (.int .i64 1) := (hcwx _ _ (by first | assumption | omega | (simp; done) | (simp; omega))).trans (by first | assumption | go_keep); have wxc1 : wx.cell? ⟨w.heap.size, 1, none⟩ = some (.int .i64 8) := (hcwx _ _ (by first | assumption | omega | (simp; done) | (simp; omega))).trans (by first | assumption | go_keep); have wxc2 : wx.cell? ⟨w.heap.size, 2, none⟩ = some (.int .i64 10) := (hcwx _ _ (by first | assumption | omega | (simp; done) | (simp; omega))).trans (by first | assumption | go_keep); (try (have n1z : wB.heap.size < wx.heap.size := (by omega); have n1k : Blk wx (wB.heap.size) #[.int .i64 0, .int .i64 0, .int .i64 0, .int .i64 0, .int .i64 0, .int .i64 0, .int .i64 0] := blkBelow hbwx (show wB.heap.size < _ by first | assumption | omega | (simp; done) | (simp; omega)) (by (try (with_reducible refine blkDrew ?_)); first | (with_reducible assumption) | ((with_reducible refine blkNew ?_); (focus (first | (with_reducible rfl) | omega | (simp; done) | (simp; omega)))) | ((with_reducible refine blkOld ?_ ?_); (focus (first | omega | (simp; done) | (simp; omega))); (try (with_reducible refine blkDrew ?_)); (first | (with_reducible assumption) | ((with_reducible refine blkNew ?_); (focus (first | (with_reducible rfl) | omega | (simp; done) | (simp; omega))))))); have n1_0 : wx.cell? ⟨wB.heap.size, 0, none⟩ = some (.int .i64 0) := blkCell n1k rfl; have n1_1 : wx.cell? ⟨wB.heap.size, 1, none⟩ = some (.int .i64 0) := blkCell n1k rfl; have n1_2 : wx.cell? ⟨wB.heap.size, 2, none⟩ = some (.int .i64 0) := blkCell n1k rfl; have n1_3 : wx.cell? ⟨wB.heap.size, 3, none⟩ = some (.int .i64 0) := blkCell n1k rfl; have n1_4 : wx.cell? ⟨wB.heap.size, 4, none⟩ = some (.int .i64 0) := blkCell n1k rfl; have n1_5 : wx.cell? ⟨wB.heap.size, 5, none⟩ = some (.int .i64 0) := blkCell n1k rfl; have n1_6 : wx.cell? ⟨wB.heap.size, 6, none⟩ = some (.int .i64 0) := blkCell n1k rfl; have n1f : ∀ o, wx.frozen? ⟨wB.heap.size, o, none⟩ = false := fun o => blkMark n1k o)); (try (have n2z : wB.heap.size + 1 < wx.heap.size := (by omega); have n2k : Blk wx (wB.heap.size + 1) #[.int .i64 0, .int .i64 0, .int .i64 0, .int .i64 0, .int .i64 0, .int .i64 0, .int .i64 0] := blkBelow hbwx (show wB.heap.size + 1 < _ by first | assumption | omega | (simp; done) | (simp; omega)) (by (try (with_reducible refine blkDrew ?_)); first | (with_reducible assumption) | ((with_reducible refine blkNew ?_); (focus (first | (with_reducible rfl) | omega | (simp; done) | (simp; omega)))) | ((with_reducible refine blkOld ?_ ?_); (focus (first | omega | (simp; done) | (simp; omega))); (try (with_reducible refine blkDrew ?_)); (first | (with_reducible assumption) | ((with_reducible refine blkNew ?_); (focus (first | (with_reducible rfl) | omega | (simp; done) | (simp; omega))))))); have n2_0 : wx.cell? ⟨wB.heap.size + 1, 0, none⟩ = some (.int .i64 0) := blkCell n2k rfl; have n2_1 : wx.cell? ⟨wB.heap.size + 1, 1, none⟩ = some (.int .i64 0) := blkCell n2k rfl; have n2_2 : wx.cell? ⟨wB.heap.size + 1, 2, none⟩ = some (.int .i64 0) := blkCell n2k rfl; have n2_3 : wx.cell? ⟨wB.heap.size + 1, 3, none⟩ = some (.int .i64 0) := blkCell n2k rfl; have n2_4 : wx.cell? ⟨wB.heap.size + 1, 4, none⟩ = some (.int .i64 0) := blkCell n2k rfl; have n2_5 : wx.cell? ⟨wB.heap.size + 1, 5, none⟩ = some (.int .i64 0) := blkCell n2k rfl; have n2_6 : wx.cell? ⟨wB.heap.size + 1, 6, none⟩ = some (.int .i64 0) := blkCell n2k rfl; have n2f : ∀ o, wx.frozen? ⟨wB.heap.size + 1, o, none⟩ = false := fun o => blkMark n2k o)))
            | (go_at_call_of 31 (Value.int .i64 4); refine (PY.out _ (hsx.below bel)).mono ?_; rintro e wy ⟨rfl, hbwy⟩; obtain ⟨hcwy, hfwy, hzwy⟩ := after hbwy; (try simp at hzwy); (try go_split_ands); have zwy : w.heap.size < wy.heap.size := (by omega); have hY : Below wx.heap.size wx wy := bel; have hBwy : Below w.heap.size w wy := hBwx.trans (hY.mono (by omega)); have zbwy : wB.heap.size ≤ wy.heap.size := (by omega); have wyc0 : wy.cell? ⟨w.heap.size, 0, none⟩ = some (.int .i64 1) := (hcwy _ _ (by first | assumption | omega | (simp; done) | (simp; omega))).trans (by first | assumption | go_keep); have wyc1 : wy.cell? ⟨w.heap.size, 1, none⟩ = some (.int .i64 8) := (hcwy _ _ (by first | assumption | omega | (simp; done) | (simp; omega))).trans (by first | assumption | go_keep); have wyc2 : wy.cell? ⟨w.heap.size, 2, none⟩ = some (.int .i64 10) := (hcwy _ _ (by first | assumption | omega | (simp; done) | (simp; omega))).trans (by first | assumption | go_keep); (try (have n1z : wB.heap.size < wy.heap.size := (by omega); have n1k : Blk wy (wB.heap.size) #[.int .i64 0, .int .i64 0, .int .i64 0, .int .i64 0, .int .i64 0, .int .i64 0, .int .i64 0] := blkBelow hbwy (show wB.heap.size < _ by first | assumption | omega | (simp; done) | (simp; omega)) (by (try (with_reducible refine blkDrew ?_)); first | (with_reducible assumption) | ((with_reducible refine blkNew ?_); (focus (first | (with_reducible rfl) | omega | (simp; done) | (simp; omega)))) | ((with_reducible refine blkOld ?_ ?_); (focus (first | omega | (simp; done) | (simp; omega))); (try (with_reducible refine blkDrew ?_)); (first | (with_reducible assumption) | ((with_reducible refine blkNew ?_); (focus (first | (with_reducible rfl) | omega | (simp; done) | (simp; omega))))))); have n1_0 : wy.cell? ⟨wB.heap.size, 0, none⟩ = some (.int .i64 0) := blkCell n1k rfl; have n1_1 : wy.cell? ⟨wB.heap.size, 1, none⟩ = some (.int .i64 0) := blkCell n1k rfl; have n1_2 : wy.cell? ⟨wB.heap.size, 2, none⟩ = some (.int .i64 0) := blkCell n1k rfl; have n1_3 : wy.cell? ⟨wB.heap.size, 3, none⟩ = some (.int .i64 0) := blkCell n1k rfl; have n1_4 : wy.cell? ⟨wB.heap.size, 4, none⟩ = some (.int .i64 0) := blkCell n1k rfl; have n1_5 : wy.cell? ⟨wB.heap.size, 5, none⟩ = some (.int .i64 0) := blkCell n1k rfl; have n1_6 : wy.cell? ⟨wB.heap.size, 6, none⟩ = some (.int .i64 0) := blkCell n1k rfl; have n1f : ∀ o, wy.frozen? ⟨wB.heap.size, o, none⟩ = false := fun o => blkMark n1k o)); (try (have n2z : wB.heap.size + 1 < wy.heap.size := (by omega); have n2k : Blk wy (wB.heap.size + 1) #[.int .i64 0, .int .i64 0, .int .i64 0, .int .i64 0, .int .i64 0, .int .i64 0, .int .i64 0] := blkBelow hbwy (show wB.heap.size + 1 < _ by first | assumption | omega | (simp; done) | (simp; omega)) (by (try (with_reducible refine blkDrew ?_)); first | (with_reducible assumption) | ((with_reducible refine blkNew ?_); (focus (first | (with_reducible rfl) | omega | (simp; done) | (simp; omega)))) | ((with_reducible refine blkOld ?_ ?_); (focus (first | omega | (simp; done) | (simp; omega))); (try (with_reducible refine blkDrew ?_)); (first | (with_reducible assumption) | ((with_reducible refine blkNew ?_); (focus (first | (with_reducible rfl) | omega | (simp; done) | (simp; omega))))))); have n2_0 : wy.cell? ⟨wB.heap.size + 1, 0, none⟩ = some (.int .i64 0) := blkCell n2k rfl; have n2_1 : wy.cell? ⟨wB.heap.size + 1, 1, none⟩ = some (.int .i64 0) := blkCell n2k rfl; have n2_2 : wy.cell? ⟨wB.heap.size + 1, 2, none⟩ = some (.int .i64 0) := blkCell n2k rfl; have n2_3 : wy.cell? ⟨wB.heap.size + 1, 3, none⟩ = some (.int .i64 0) := blkCell n2k rfl; have n2_4 : wy.cell? ⟨wB.heap.size + 1, 4, none⟩ = some (.int .i64 0) := blkCell n2k rfl; have n2_5 : wy.cell? ⟨wB.heap.size + 1, 5, none⟩ = some (.int .i64 0) := blkCell n2k rfl; have n2_6 : wy.cell? ⟨wB.heap.size + 1, 6, none⟩ = some (.int .i64 0) := blkCell n2k rfl; have n2f : ∀ o, wy.frozen? ⟨wB.heap.size + 1, o, none⟩ = false := fun o => blkMark n2k o)); (try (have n3z : wx.heap.size < wy.heap.size := (by omega); have n3k : Blk wy (wx.heap.size) #[.int .i64 0, .int .i64 0, .int .i64 0, .int .i64 0, .int .i64 0, .int .i64 0, .int .i64 0] := blkBelow hbwy (show wx.heap.size < _ by first | assumption | omega | (simp; done) | (simp; omega)) (by (try (with_reducible refine blkDrew ?_)); first | (with_reducible assumption) | ((with_reducible refine blkNew ?_); (focus (first | (with_reducible rfl) | omega | (simp; done) | (simp; omega)))) | ((with_reducible refine blkOld ?_ ?_); (focus (first | omega | (simp; done) | (simp; omega))); (try (with_reducible refine blkDrew ?_)); (first | (with_reducible assumption) | ((with_reducible refine blkNew ?_); (focus (first | (with_reducible rfl) | omega | (simp; done) | (simp; omega))))))); have n3_0 : wy.cell? ⟨wx.heap.size, 0, none⟩ = some (.int .i64 0) := blkCell n3k rfl; have n3_1 : wy.cell? ⟨wx.heap.size, 1, none⟩ = some (.int .i64 0) := blkCell n3k rfl; have n3_2 : wy.cell? ⟨wx.heap.size, 2, none⟩ = some (.int .i64 0) := blkCell n3k rfl; have n3_3 : wy.cell? ⟨wx.heap.size, 3, none⟩ = some (.int .i64 0) := blkCell n3k rfl; have n3_4 : wy.cell? ⟨wx.heap.size, 4, none⟩ = some (.int .i64 0) := blkCell n3k rfl; have n3_5 : wy.cell? ⟨wx.heap.size, 5, none⟩ = some (.int .i64 0) := blkCell n3k rfl; have n3_6 : wy.cell? ⟨wx.heap.size, 6, none⟩ = some (.int .i64 0) := blkCell n3k rfl; have n3f : ∀ o, wy.frozen? ⟨wx.heap.size, o, none⟩ = false := fun o => blkMark n3k o)); (try (have n4z : wx.heap.size + 1 < wy.heap.size := (by omega); have n4k : Blk wy (wx.heap.size + 1) #[.int .i64 0, .int .i64 0, .int .i64 0, .int .i64 0, .int .i64 0, .int .i64 0, .int .i64 0] := blkBelow hbwy (show wx.heap.size + 1 < _ by first | assumption | omega | (simp; done) | (simp; omega)) (by (try (with_reducible refine blkDrew ?_)); first | (with_reducible assumption) | ((with_reducible refine blkNew ?_); (focus (first | (with_reducible rfl) | omega | (simp; done) | (simp; omega)))) | ((with_reducible refine blkOld ?_ ?_); (focus (first | omega | (simp; done) | (simp; omega))); (try (with_reducible refine blkDrew ?_)); (first | (with_reducible assumption) | ((with_reducible refine blkNew ?_); (focus (first | (with_reducible rfl) | omega | (simp; done) | (simp; omega))))))); have n4_0 : wy.cell? ⟨wx.heap.size + 1, 0, none⟩ = some (.int .i64 0) := blkCell n4k rfl; have n4_1 : wy.cell? ⟨wx.heap.size + 1, 1, none⟩ = some (.int .i64 0) := blkCell n4k rfl; have n4_2 : wy.cell? ⟨wx.heap.size + 1, 2, none⟩ = some (.int .i64 0) := blkCell n4k rfl; have n4_3 : wy.cell? ⟨wx.heap.size + 1, 3, none⟩ = some (.int .i64 0) := blkCell n4k rfl; have n4_4 : wy.cell? ⟨wx.heap.size + 1, 4, none⟩ = some (.int .i64 0) := blkCell n4k rfl; have n4_5 : wy.cell? ⟨wx.heap.size + 1, 5, none⟩ = some (.int .i64 0) := blkCell n4k rfl; have n4_6 : wy.cell? ⟨wx.heap.size + 1, 6, none⟩ = some (.int .i64 0) := blkCell n4k rfl; have n4f : ∀ o, wy.frozen? ⟨wx.heap.size + 1, o, none⟩ = false := fun o => blkMark n4k o))))
        all_goals go_wp2_with fail
        all_goals go_meet
        all_goals
          case rel =>
            refine ⟨_, _, rfl, rfl, ?_, ?_, ?sz, ?bl⟩
            case bl => ((repeat (first | (with_reducible assumption) | (with_reducible refine belDrewC ?_) | ((with_reducible refine belSet ?_ ?_); (focus (first | omega | (simp; done) | (simp; omega)))) | ((with_reducible refine belAlloc ?_ ?_); (focus (first | omega | (simp; done) | (simp; omega)))))))
            case sz => first | omega | (simp; omega)
            all_goals (repeat (first | (with_reducible assumption) | (with_reducible refine blkDrew ?_) | (with_reducible refine blkSet7 ?_) | ((with_reducible refine blkFar7 ?_ ?_); (focus (first | omega | (simp; done) | (simp; omega)))) | ((with_reducible refine blkNew ?_); (focus (first | (with_reducible rfl) | (simp; done) | omega | (simp; omega)))) | ((with_reducible refine blkOld ?_ ?_); (focus (first | (simp; done) | omega | (simp; omega))))))
      case rest =>
        clear hs0 c0 c1 c2 zB hBB
        obtain ⟨g, h, rfl, rfl, hkx, hky, hz, hB⟩ := hcut
        obtain ⟨wD, rfl⟩ : ∃ x : World, x = wc := ⟨_, rfl⟩
        have k0 : wD.cell? ⟨g, 0, none⟩ = some (.int .i64 1) := blkCell hkx rfl
        have k1 : wD.cell? ⟨g, 1, none⟩ = some (.int .i64 8) := blkCell hkx rfl
        have k2 : wD.cell? ⟨g, 2, none⟩ = some (.int .i64 0) := blkCell hkx rfl
        have k3 : wD.cell? ⟨g, 3, none⟩ = some (.int .i64 0) := blkCell hkx rfl
        have k4 : wD.cell? ⟨g, 4, none⟩ = some (.int .i64 0) := blkCell hkx rfl
        have k5 : wD.cell? ⟨g, 5, none⟩ = some (.int .i64 0) := blkCell hkx rfl
        have k6 : wD.cell? ⟨g, 6, none⟩ = some (.int .i64 0) := blkCell hkx rfl
        have l0 : wD.cell? ⟨h, 0, none⟩ = some (.int .i64 0) := blkCell hky rfl
        have l1 : wD.cell? ⟨h, 1, none⟩ = some (.int .i64 0) := blkCell hky rfl
        have l2 : wD.cell? ⟨h, 2, none⟩ = some (.int .i64 0) := blkCell hky rfl
        have l3 : wD.cell? ⟨h, 3, none⟩ = some (.int .i64 0) := blkCell hky rfl
        have l4 : wD.cell? ⟨h, 4, none⟩ = some (.int .i64 0) := blkCell hky rfl
        have l5 : wD.cell? ⟨h, 5, none⟩ = some (.int .i64 0) := blkCell hky rfl
        have l6 : wD.cell? ⟨h, 6, none⟩ = some (.int .i64 0) := blkCell hky rfl
        go_wp2_with fail
        go_ret
        exact ⟨rfl, hB⟩

set_option maxRecDepth 100000 in
theorem live28 (w : World) : Calls Try.prog 24 #[] w fun e w' => e = .returned (.bool true) ∧ Below w.heap.size w w' := by
  have hl := headN_length 1 8 10
  have hF := headN_fit rc18
  have hW : freshW = headN 1 8 10 ++ tailT := freshOf_eq hl
  have hok : okW 1 8 10 344 := ⟨by decide, by decide⟩
  have hfit : Fit 18446744073709551616 (headN 1 8 10 ++ tailT3) := fun x hx => (List.mem_append.1 hx).elim (hF x) ((by decide : ∀ x ∈ tailT3, x < 18446744073709551616) x)
  have hlen : (headN 1 8 10 ++ tailT3).length = 344 := by rw [List.length_append, hl, show tailT3.length = 336 by decide]
  have hfv : Fit 4294967296 freshV := (by decide : ∀ x ∈ freshV, x < 4294967296)
  refine live28Of w (headN 1 8 10 ++ tailT) (headN 1 8 10 ++ tailT3) (hid fun w => by rw [← hW]; exact freshWords w) (hid (lastFresh hl).1) (hid (lastFresh hl).2) (hid (layCFresh hl)) (hid (lastLaid hl).1) (hid (lastLaid hl).2) (hid hlen) (hid hok) (hid fun a cap w' hs => ?_) (hid fun a cap w' hs => ?_)
  · have hset : ∀ w'', Below w'.heap.size w' w'' → _ := fun w'' hb => by
      have h := redoSettle 1 8 10 w'' a 344 cap (headN 1 8 10 ++ tailT3) (hs.below hb) hfit hok
      rw [settleCalled hl] at h
      exact h
    exact callResolveNot 1 8 10 0 w' a 344 cap _ 5 freshV 8 0 0 true (hid hset) hs hok (by decide) (by decide) (by decide) (by rw [(lastLaid hl).1]; rfl) (by rw [freshV_len]; rfl) hfv (saidLaid hl) (by rw [freshDone]; decide)
  · have hset : ∀ w'', Below w'.heap.size w' w'' → _ := fun w'' hb => by
      have h := redoSettle 1 8 10 w'' a 344 cap (headN 1 8 10 ++ tailT3) (hs.below hb) hfit hok
      rw [settleCalled hl] at h
      exact h
    exact callResolveOther 1 8 10 0 w' a 344 cap _ 4 freshV (hid hset) hs hok (by decide) (by decide) (.inr (by rw [(lastLaid hl).1]; decide))
end Go.Proofs.Ytkkhoiahjmfibaa
