/- The walk of the statement on numbers, where the first answer is unknown. -/
import Derived.Test.YtkkhoiahjmfibaaLive28
import Derived.Test.YtkkhoiahjmfibaaRefTidy
namespace Go.Proofs.Ytkkhoiahjmfibaa
open Go.RowKit
set_option linter.unusedVariables false
set_option linter.unusedSimpArgs false

/-- What the statement leaves behind its two answers. -/
def BothN (w : World) (t p s u n1 n2 : Int) (X Y : Array Value) (x y : Value) (wx : World) : Prop := ∃ g h : Nat, x = .pointer (some ⟨g, 0, none⟩) ∧ y = .pointer (some ⟨h, 0, none⟩) ∧
  Blk wx g X ∧ Blk wx h Y ∧ ((wx.cell? ⟨w.heap.size, 0, none⟩ = some (.int .i64 t) ∧ wx.cell? ⟨w.heap.size, 1, none⟩ = some (.int .i64 p) ∧ wx.cell? ⟨w.heap.size, 2, none⟩ = some (.int .i64 s) ∧ wx.cell? ⟨w.heap.size + 1, 0, none⟩ = some (.int .i64 u) ∧ wx.cell? ⟨w.heap.size + 1, 1, none⟩ = some (.int .i64 n1) ∧ wx.cell? ⟨w.heap.size + 1, 2, none⟩ = some (.int .i64 n2)) ∧ w.heap.size < wx.heap.size ∧ w.heap.size + 1 < wx.heap.size) ∧ Below w.heap.size w wx

set_option maxRecDepth 100000 in
set_option maxHeartbeats 40000000 in
theorem callOnceZ (w : World) (t p s : Int) (a : Option Addr) (len cap : Nat) (ws : List Nat) (u n1 n2 : Int) (hs : Seen .u64 w a len cap ws) (hf : len ≤ 3000) (B0 B1 B2 B3 B4 B5 B6 ln lb : Int) (lk : Bool) (o : Option (List Nat))
    (PX : RowKit.Hid (∀ w', Seen .u64 w' a len cap ws → Calls Try.prog 31 #[.agg #[.int .i64 t, .int .i64 p, .int .i64 s], .slice a len cap, .int .i64 u, .int .i64 n1] w' fun e w'' => e = .returned (.agg #[.int .i64 0, .int .i64 0, .int .i64 0, .int .i64 0, .int .i64 0, .int .i64 0, .int .i64 0]) ∧ Below w'.heap.size w' w''))
    (PY : RowKit.Hid (∀ w', Seen .u64 w' a len cap ws → Calls Try.prog 31 #[.agg #[.int .i64 t, .int .i64 p, .int .i64 s], .slice a len cap, .int .i64 u, .int .i64 n2] w' fun e w'' => e = .returned (.agg #[.int .i64 B0, .int .i64 B1, .int .i64 B2, .int .i64 B3, .int .i64 B4, .int .i64 B5, .int .i64 B6]) ∧ Below w'.heap.size w' w''))
    (LA : RowKit.Hid (∀ w', Seen .u64 w' a len cap ws → Calls Try.prog 25 #[.agg #[.int .i64 t, .int .i64 p, .int .i64 s], .slice a len cap, .int .i64 u] w' fun e w'' => e = .returned (.tuple #[.int .i64 ln, .int .i64 lb, .bool lk]) ∧ Below w'.heap.size w' w''))
    (TY : RowKit.Hid (∀ w', Seen .u64 w' a len cap ws → Calls Try.prog 34 #[.agg #[.int .i64 t, .int .i64 p, .int .i64 s], .slice a len cap] w' (OptPost 46 .u64 w' o)))
    (PV : RowKit.Hid (∀ xs, o = some xs → xs.length = len ∧ ∀ w' a' cap', Seen .u64 w' a' len cap' xs → Calls Try.prog 31 #[.agg #[.int .i64 t, .int .i64 p, .int .i64 s], .slice a' len cap', .int .i64 u, .int .i64 n1] w' fun e w'' => e = .returned (.agg #[.int .i64 0, .int .i64 0, .int .i64 0, .int .i64 0, .int .i64 0, .int .i64 0, .int .i64 0]) ∧ Below w'.heap.size w' w''))
    (FZ : RowKit.Hid (o = none ∨ lk = false ∨ n1 < 1 ∨ ln ≠ n1)) :
    Calls Try.prog 9 #[.agg #[.int .i64 t, .int .i64 p, .int .i64 s], .slice a len cap, .agg #[.int .i64 u, .int .i64 n1, .int .i64 n2]] w fun e w' => e = .returned (.bool true) ∧ Below w.heap.size w w' := by
  have hl1 := hs.2.1
  have hl2 : cap ≤ maxLen := hs.2.2.1
  have HS := hid hs
  have hq := extCell
  clear hs
  go_enter Try.func9, Try.ntmps9
  go_upto_region 3 with (fail)
  go_cut [7, 8] (fun x y wx => BothN w t p s u n1 n2 #[.int .i64 0, .int .i64 0, .int .i64 0, .int .i64 0, .int .i64 0, .int .i64 0, .int .i64 0] #[.int .i64 B0, .int .i64 B1, .int .i64 B2, .int .i64 B3, .int .i64 B4, .int .i64 B5, .int .i64 B6] x y wx)
  case first =>
    clear LA TY PV
    obtain ⟨wB, hwB⟩ : ∃ x : World, x = (w.alloc (.cells #[.int .i64 t, .int .i64 p, .int .i64 s] 23)).alloc (.cells #[.int .i64 u, .int .i64 n1, .int .i64 n2] 71) := ⟨_, rfl⟩
    have c0 : wB.cell? ⟨w.heap.size, 0, none⟩ = some (.int .i64 t) := by rw [hwB]; exact cellOld (by simp) (cellNew rfl rfl)
    have c1 : wB.cell? ⟨w.heap.size, 1, none⟩ = some (.int .i64 p) := by rw [hwB]; exact cellOld (by simp) (cellNew rfl rfl)
    have c2 : wB.cell? ⟨w.heap.size, 2, none⟩ = some (.int .i64 s) := by rw [hwB]; exact cellOld (by simp) (cellNew rfl rfl)
    have c3 : wB.cell? ⟨w.heap.size + 1, 0, none⟩ = some (.int .i64 u) := by rw [hwB]; exact cellNew (by simp) rfl
    have c4 : wB.cell? ⟨w.heap.size + 1, 1, none⟩ = some (.int .i64 n1) := by rw [hwB]; exact cellNew (by simp) rfl
    have c5 : wB.cell? ⟨w.heap.size + 1, 2, none⟩ = some (.int .i64 n2) := by rw [hwB]; exact cellNew (by simp) rfl
    have zB : w.heap.size < wB.heap.size := by rw [hwB]; simp; omega
    have zB' : w.heap.size + 1 < wB.heap.size := by rw [hwB]; simp
    have hBB : Below w.heap.size w wB := by rw [hwB]; exact ((Below.refl _ _).alloc (Nat.le_refl _) _).alloc (by simp) _
    have hs0 := HS.out.below hBB
    rw [← hwB]
    clear hwB
    have zd1 : wB.drew.heap.size = wB.heap.size := by simp
    go_region_held3 (fun w' => (w'.cell? ⟨w.heap.size, 0, none⟩ = some (.int .i64 t) ∧ w'.cell? ⟨w.heap.size, 1, none⟩ = some (.int .i64 p) ∧ w'.cell? ⟨w.heap.size, 2, none⟩ = some (.int .i64 s) ∧ w'.cell? ⟨w.heap.size + 1, 0, none⟩ = some (.int .i64 u) ∧ w'.cell? ⟨w.heap.size + 1, 1, none⟩ = some (.int .i64 n1) ∧ w'.cell? ⟨w.heap.size + 1, 2, none⟩ = some (.int .i64 n2)) ∧ w.heap.size < w'.heap.size ∧ w.heap.size + 1 < w'.heap.size)
      (((go_split_ands); (try dsimp only); (repeat' apply And.intro); (all_goals first | (with_reducible assumption) | omega | ((repeat (first | (with_reducible refine cellDrew ?_) | (with_reducible refine far7 ?_ (by omega)) | (with_reducible refine farKeep ?_ (by first | assumption | omega | (simp; omega))) | (with_reducible refine cellOld (by first | omega | (simp; omega)) ?_))); (with_reducible assumption)) | (simp; omega) | (simp; done) | go_keep)))
      (first
        | (go_at_call_of 31 (Value.int .i64 n1); refine (PX.out _ (hs0.below bel)).mono ?_; rintro e wx ⟨rfl, hbwx⟩; obtain ⟨hcwx, hfwx, hzwx⟩ := after hbwx; (try simp at hzwx); (try go_split_ands); have zwx : w.heap.size < wx.heap.size := (by omega); have zwx' : w.heap.size + 1 < wx.heap.size := (by omega); have hX : Below wB.heap.size wB wx := bel; have hsx := hs0.below hX; have hBwx : Below w.heap.size w wx := hBB.trans (hX.mono (by omega)); have zbwx : wB.heap.size ≤ wx.heap.size := (by omega); have wxc0 : wx.cell? ⟨w.heap.size, 0, none⟩ = some (.int .i64 t) := (hcwx _ _ (by first | assumption | omega | (simp; done) | (simp; omega))).trans (by first | assumption | go_keep); have wxc1 : wx.cell? ⟨w.heap.size, 1, none⟩ = some (.int .i64 p) := (hcwx _ _ (by first | assumption | omega | (simp; done) | (simp; omega))).trans (by first | assumption | go_keep); have wxc2 : wx.cell? ⟨w.heap.size, 2, none⟩ = some (.int .i64 s) := (hcwx _ _ (by first | assumption | omega | (simp; done) | (simp; omega))).trans (by first | assumption | go_keep); have wxc3 : wx.cell? ⟨w.heap.size + 1, 0, none⟩ = some (.int .i64 u) := (hcwx _ _ (by first | assumption | omega | (simp; done) | (simp; omega))).trans (by first | assumption | go_keep); have wxc4 : wx.cell? ⟨w.heap.size + 1, 1, none⟩ = some (.int .i64 n1) := (hcwx _ _ (by first | assumption | omega | (simp; done) | (simp; omega))).trans (by first | assumption | go_keep); have wxc5 : wx.cell? ⟨w.heap.size + 1, 2, none⟩ = some (.int .i64 n2) := (hcwx _ _ (by first | assumption | omega | (simp; done) | (simp; omega))).trans (by first | assumption | go_keep); (try (have kn1z : wB.heap.size < wx.heap.size := (by omega); have kn1k : Blk wx (wB.heap.size) #[.int .i64 0, .int .i64 0, .int .i64 0, .int .i64 0, .int .i64 0, .int .i64 0, .int .i64 0] := blkBelow hbwx (show wB.heap.size < _ by first | assumption | omega | (simp; done) | (simp; omega)) (by (try (with_reducible refine blkDrew ?_)); first | (with_reducible assumption) | ((with_reducible refine blkNew ?_); (focus (first | (with_reducible rfl) | omega | (simp; done) | (simp; omega)))) | ((with_reducible refine blkOld ?_ ?_); (focus (first | omega | (simp; done) | (simp; omega))); (try (with_reducible refine blkDrew ?_)); (first | (with_reducible assumption) | ((with_reducible refine blkNew ?_); (focus (first | (with_reducible rfl) | omega | (simp; done) | (simp; omega))))))); have kn1_0 : wx.cell? ⟨wB.heap.size, 0, none⟩ = some (.int .i64 0) := blkCell kn1k rfl; have kn1_1 : wx.cell? ⟨wB.heap.size, 1, none⟩ = some (.int .i64 0) := blkCell kn1k rfl; have kn1_2 : wx.cell? ⟨wB.heap.size, 2, none⟩ = some (.int .i64 0) := blkCell kn1k rfl; have kn1_3 : wx.cell? ⟨wB.heap.size, 3, none⟩ = some (.int .i64 0) := blkCell kn1k rfl; have kn1_4 : wx.cell? ⟨wB.heap.size, 4, none⟩ = some (.int .i64 0) := blkCell kn1k rfl; have kn1_5 : wx.cell? ⟨wB.heap.size, 5, none⟩ = some (.int .i64 0) := blkCell kn1k rfl; have kn1_6 : wx.cell? ⟨wB.heap.size, 6, none⟩ = some (.int .i64 0) := blkCell kn1k rfl; have kn1f : ∀ o, wx.frozen? ⟨wB.heap.size, o, none⟩ = false := fun o => blkMark kn1k o)); (try (have kn2z : wB.heap.size + 1 < wx.heap.size := (by omega); have kn2k : Blk wx (wB.heap.size + 1) #[.int .i64 0, .int .i64 0, .int .i64 0, .int .i64 0, .int .i64 0, .int .i64 0, .int .i64 0] := blkBelow hbwx (show wB.heap.size + 1 < _ by first | assumption | omega | (simp; done) | (simp; omega)) (by (try (with_reducible refine blkDrew ?_)); first | (with_reducible assumption) | ((with_reducible refine blkNew ?_); (focus (first | (with_reducible rfl) | omega | (simp; done) | (simp; omega)))) | ((with_reducible refine blkOld ?_ ?_); (focus (first | omega | (simp; done) | (simp; omega))); (try (with_reducible refine blkDrew ?_)); (first | (with_reducible assumption) | ((with_reducible refine blkNew ?_); (focus (first | (with_reducible rfl) | omega | (simp; done) | (simp; omega))))))); have kn2_0 : wx.cell? ⟨wB.heap.size + 1, 0, none⟩ = some (.int .i64 0) := blkCell kn2k rfl; have kn2_1 : wx.cell? ⟨wB.heap.size + 1, 1, none⟩ = some (.int .i64 0) := blkCell kn2k rfl; have kn2_2 : wx.cell? ⟨wB.heap.size + 1, 2, none⟩ = some (.int .i64 0) := blkCell kn2k rfl; have kn2_3 : wx.cell? ⟨wB.heap.size + 1, 3, none⟩ = some (.int .i64 0) := blkCell kn2k rfl; have kn2_4 : wx.cell? ⟨wB.heap.size + 1, 4, none⟩ = some (.int .i64 0) := blkCell kn2k rfl; have kn2_5 : wx.cell? ⟨wB.heap.size + 1, 5, none⟩ = some (.int .i64 0) := blkCell kn2k rfl; have kn2_6 : wx.cell? ⟨wB.heap.size + 1, 6, none⟩ = some (.int .i64 0) := blkCell kn2k rfl; have kn2f : ∀ o, wx.frozen? ⟨wB.heap.size + 1, o, none⟩ = false := fun o => blkMark kn2k o)))
        | (go_at_call_of 31 (Value.int .i64 n2); refine (PY.out _ (hsx.below bel)).mono ?_; rintro e wy ⟨rfl, hbwy⟩; obtain ⟨hcwy, hfwy, hzwy⟩ := after hbwy; (try simp at hzwy); (try go_split_ands); have zwy : w.heap.size < wy.heap.size := (by omega); have zwy' : w.heap.size + 1 < wy.heap.size := (by omega); have hY : Below wx.heap.size wx wy := bel; have hBwy : Below w.heap.size w wy := hBwx.trans (hY.mono (by omega)); have zbwy : wB.heap.size ≤ wy.heap.size := (by omega); have wyc0 : wy.cell? ⟨w.heap.size, 0, none⟩ = some (.int .i64 t) := (hcwy _ _ (by first | assumption | omega | (simp; done) | (simp; omega))).trans (by first | assumption | go_keep); have wyc1 : wy.cell? ⟨w.heap.size, 1, none⟩ = some (.int .i64 p) := (hcwy _ _ (by first | assumption | omega | (simp; done) | (simp; omega))).trans (by first | assumption | go_keep); have wyc2 : wy.cell? ⟨w.heap.size, 2, none⟩ = some (.int .i64 s) := (hcwy _ _ (by first | assumption | omega | (simp; done) | (simp; omega))).trans (by first | assumption | go_keep); have wyc3 : wy.cell? ⟨w.heap.size + 1, 0, none⟩ = some (.int .i64 u) := (hcwy _ _ (by first | assumption | omega | (simp; done) | (simp; omega))).trans (by first | assumption | go_keep); have wyc4 : wy.cell? ⟨w.heap.size + 1, 1, none⟩ = some (.int .i64 n1) := (hcwy _ _ (by first | assumption | omega | (simp; done) | (simp; omega))).trans (by first | assumption | go_keep); have wyc5 : wy.cell? ⟨w.heap.size + 1, 2, none⟩ = some (.int .i64 n2) := (hcwy _ _ (by first | assumption | omega | (simp; done) | (simp; omega))).trans (by first | assumption | go_keep); (try (have kn1z : wB.heap.size < wy.heap.size := (by omega); have kn1k : Blk wy (wB.heap.size) #[.int .i64 0, .int .i64 0, .int .i64 0, .int .i64 0, .int .i64 0, .int .i64 0, .int .i64 0] := blkBelow hbwy (show wB.heap.size < _ by first | assumption | omega | (simp; done) | (simp; omega)) (by (try (with_reducible refine blkDrew ?_)); first | (with_reducible assumption) | ((with_reducible refine blkNew ?_); (focus (first | (with_reducible rfl) | omega | (simp; done) | (simp; omega)))) | ((with_reducible refine blkOld ?_ ?_); (focus (first | omega | (simp; done) | (simp; omega))); (try (with_reducible refine blkDrew ?_)); (first | (with_reducible assumption) | ((with_reducible refine blkNew ?_); (focus (first | (with_reducible rfl) | omega | (simp; done) | (simp; omega))))))); have kn1_0 : wy.cell? ⟨wB.heap.size, 0, none⟩ = some (.int .i64 0) := blkCell kn1k rfl; have kn1_1 : wy.cell? ⟨wB.heap.size, 1, none⟩ = some (.int .i64 0) := blkCell kn1k rfl; have kn1_2 : wy.cell? ⟨wB.heap.size, 2, none⟩ = some (.int .i64 0) := blkCell kn1k rfl; have kn1_3 : wy.cell? ⟨wB.heap.size, 3, none⟩ = some (.int .i64 0) := blkCell kn1k rfl; have kn1_4 : wy.cell? ⟨wB.heap.size, 4, none⟩ = some (.int .i64 0) := blkCell kn1k rfl; have kn1_5 : wy.cell? ⟨wB.heap.size, 5, none⟩ = some (.int .i64 0) := blkCell kn1k rfl; have kn1_6 : wy.cell? ⟨wB.heap.size, 6, none⟩ = some (.int .i64 0) := blkCell kn1k rfl; have kn1f : ∀ o, wy.frozen? ⟨wB.heap.size, o, none⟩ = false := fun o => blkMark kn1k o)); (try (have kn2z : wB.heap.size + 1 < wy.heap.size := (by omega); have kn2k : Blk wy (wB.heap.size + 1) #[.int .i64 0, .int .i64 0, .int .i64 0, .int .i64 0, .int .i64 0, .int .i64 0, .int .i64 0] := blkBelow hbwy (show wB.heap.size + 1 < _ by first | assumption | omega | (simp; done) | (simp; omega)) (by (try (with_reducible refine blkDrew ?_)); first | (with_reducible assumption) | ((with_reducible refine blkNew ?_); (focus (first | (with_reducible rfl) | omega | (simp; done) | (simp; omega)))) | ((with_reducible refine blkOld ?_ ?_); (focus (first | omega | (simp; done) | (simp; omega))); (try (with_reducible refine blkDrew ?_)); (first | (with_reducible assumption) | ((with_reducible refine blkNew ?_); (focus (first | (with_reducible rfl) | omega | (simp; done) | (simp; omega))))))); have kn2_0 : wy.cell? ⟨wB.heap.size + 1, 0, none⟩ = some (.int .i64 0) := blkCell kn2k rfl; have kn2_1 : wy.cell? ⟨wB.heap.size + 1, 1, none⟩ = some (.int .i64 0) := blkCell kn2k rfl; have kn2_2 : wy.cell? ⟨wB.heap.size + 1, 2, none⟩ = some (.int .i64 0) := blkCell kn2k rfl; have kn2_3 : wy.cell? ⟨wB.heap.size + 1, 3, none⟩ = some (.int .i64 0) := blkCell kn2k rfl; have kn2_4 : wy.cell? ⟨wB.heap.size + 1, 4, none⟩ = some (.int .i64 0) := blkCell kn2k rfl; have kn2_5 : wy.cell? ⟨wB.heap.size + 1, 5, none⟩ = some (.int .i64 0) := blkCell kn2k rfl; have kn2_6 : wy.cell? ⟨wB.heap.size + 1, 6, none⟩ = some (.int .i64 0) := blkCell kn2k rfl; have kn2f : ∀ o, wy.frozen? ⟨wB.heap.size + 1, o, none⟩ = false := fun o => blkMark kn2k o)); (try (have kn3z : wx.heap.size < wy.heap.size := (by omega); have kn3k : Blk wy (wx.heap.size) #[.int .i64 0, .int .i64 0, .int .i64 0, .int .i64 0, .int .i64 0, .int .i64 0, .int .i64 0] := blkBelow hbwy (show wx.heap.size < _ by first | assumption | omega | (simp; done) | (simp; omega)) (by (try (with_reducible refine blkDrew ?_)); first | (with_reducible assumption) | ((with_reducible refine blkNew ?_); (focus (first | (with_reducible rfl) | omega | (simp; done) | (simp; omega)))) | ((with_reducible refine blkOld ?_ ?_); (focus (first | omega | (simp; done) | (simp; omega))); (try (with_reducible refine blkDrew ?_)); (first | (with_reducible assumption) | ((with_reducible refine blkNew ?_); (focus (first | (with_reducible rfl) | omega | (simp; done) | (simp; omega))))))); have kn3_0 : wy.cell? ⟨wx.heap.size, 0, none⟩ = some (.int .i64 0) := blkCell kn3k rfl; have kn3_1 : wy.cell? ⟨wx.heap.size, 1, none⟩ = some (.int .i64 0) := blkCell kn3k rfl; have kn3_2 : wy.cell? ⟨wx.heap.size, 2, none⟩ = some (.int .i64 0) := blkCell kn3k rfl; have kn3_3 : wy.cell? ⟨wx.heap.size, 3, none⟩ = some (.int .i64 0) := blkCell kn3k rfl; have kn3_4 : wy.cell? ⟨wx.heap.size, 4, none⟩ = some (.int .i64 0) := blkCell kn3k rfl; have kn3_5 : wy.cell? ⟨wx.heap.size, 5, none⟩ = some (.int .i64 0) := blkCell kn3k rfl; have kn3_6 : wy.cell? ⟨wx.heap.size, 6, none⟩ = some (.int .i64 0) := blkCell kn3k rfl; have kn3f : ∀ o, wy.frozen? ⟨wx.heap.size, o, none⟩ = false := fun o => blkMark kn3k o)); (try (have kn4z : wx.heap.size + 1 < wy.heap.size := (by omega); have kn4k : Blk wy (wx.heap.size + 1) #[.int .i64 0, .int .i64 0, .int .i64 0, .int .i64 0, .int .i64 0, .int .i64 0, .int .i64 0] := blkBelow hbwy (show wx.heap.size + 1 < _ by first | assumption | omega | (simp; done) | (simp; omega)) (by (try (with_reducible refine blkDrew ?_)); first | (with_reducible assumption) | ((with_reducible refine blkNew ?_); (focus (first | (with_reducible rfl) | omega | (simp; done) | (simp; omega)))) | ((with_reducible refine blkOld ?_ ?_); (focus (first | omega | (simp; done) | (simp; omega))); (try (with_reducible refine blkDrew ?_)); (first | (with_reducible assumption) | ((with_reducible refine blkNew ?_); (focus (first | (with_reducible rfl) | omega | (simp; done) | (simp; omega))))))); have kn4_0 : wy.cell? ⟨wx.heap.size + 1, 0, none⟩ = some (.int .i64 0) := blkCell kn4k rfl; have kn4_1 : wy.cell? ⟨wx.heap.size + 1, 1, none⟩ = some (.int .i64 0) := blkCell kn4k rfl; have kn4_2 : wy.cell? ⟨wx.heap.size + 1, 2, none⟩ = some (.int .i64 0) := blkCell kn4k rfl; have kn4_3 : wy.cell? ⟨wx.heap.size + 1, 3, none⟩ = some (.int .i64 0) := blkCell kn4k rfl; have kn4_4 : wy.cell? ⟨wx.heap.size + 1, 4, none⟩ = some (.int .i64 0) := blkCell kn4k rfl; have kn4_5 : wy.cell? ⟨wx.heap.size + 1, 5, none⟩ = some (.int .i64 0) := blkCell kn4k rfl; have kn4_6 : wy.cell? ⟨wx.heap.size + 1, 6, none⟩ = some (.int .i64 0) := blkCell kn4k rfl; have kn4f : ∀ o, wy.frozen? ⟨wx.heap.size + 1, o, none⟩ = false := fun o => blkMark kn4k o))))
    all_goals go_wp2_with fail
    all_goals go_meet
    all_goals
      case rel =>
        refine ⟨_, _, rfl, rfl, ?_, ?_, ⟨⟨?c0, ?c1, ?c2, ?c3, ?c4, ?c5⟩, ?sz, ?sy⟩, ?bl⟩
        case bl => ((repeat (first | (with_reducible assumption) | (with_reducible refine belDrewC ?_) | ((with_reducible refine belSet ?_ ?_); (focus (first | omega | (simp; done) | (simp; omega)))) | ((with_reducible refine belAlloc ?_ ?_); (focus (first | omega | (simp; done) | (simp; omega)))))))
        case sz => first | omega | (simp; omega)
        case sy => first | omega | (simp; omega)
        case c0 => ((repeat (first | (with_reducible assumption) | (with_reducible refine cellDrew ?_) | (with_reducible refine far7 ?_ (by omega)) | (with_reducible refine farKeep ?_ (by omega)) | ((with_reducible refine cellOld ?_ ?_); (focus (first | omega | (simp; done) | (simp; omega)))))))
        case c1 => ((repeat (first | (with_reducible assumption) | (with_reducible refine cellDrew ?_) | (with_reducible refine far7 ?_ (by omega)) | (with_reducible refine farKeep ?_ (by omega)) | ((with_reducible refine cellOld ?_ ?_); (focus (first | omega | (simp; done) | (simp; omega)))))))
        case c2 => ((repeat (first | (with_reducible assumption) | (with_reducible refine cellDrew ?_) | (with_reducible refine far7 ?_ (by omega)) | (with_reducible refine farKeep ?_ (by omega)) | ((with_reducible refine cellOld ?_ ?_); (focus (first | omega | (simp; done) | (simp; omega)))))))
        case c3 => ((repeat (first | (with_reducible assumption) | (with_reducible refine cellDrew ?_) | (with_reducible refine far7 ?_ (by omega)) | (with_reducible refine farKeep ?_ (by omega)) | ((with_reducible refine cellOld ?_ ?_); (focus (first | omega | (simp; done) | (simp; omega)))))))
        case c4 => ((repeat (first | (with_reducible assumption) | (with_reducible refine cellDrew ?_) | (with_reducible refine far7 ?_ (by omega)) | (with_reducible refine farKeep ?_ (by omega)) | ((with_reducible refine cellOld ?_ ?_); (focus (first | omega | (simp; done) | (simp; omega)))))))
        case c5 => ((repeat (first | (with_reducible assumption) | (with_reducible refine cellDrew ?_) | (with_reducible refine far7 ?_ (by omega)) | (with_reducible refine farKeep ?_ (by omega)) | ((with_reducible refine cellOld ?_ ?_); (focus (first | omega | (simp; done) | (simp; omega)))))))
        all_goals (repeat (first | (with_reducible assumption) | (with_reducible refine blkDrew ?_) | (with_reducible refine blkSet7 ?_) | ((with_reducible refine blkFar7 ?_ ?_); (focus (first | omega | (simp; done) | (simp; omega)))) | ((with_reducible refine blkNew ?_); (focus (first | (with_reducible rfl) | (simp; done) | omega | (simp; omega)))) | ((with_reducible refine blkOld ?_ ?_); (focus (first | (simp; done) | omega | (simp; omega))))))
  case rest =>
    obtain ⟨g, h, rfl, rfl, hkx, hky, ⟨⟨c0, c1, c2, c3, c4, c5⟩, hz, hz'⟩, hB⟩ := hcut
    obtain ⟨wD, rfl⟩ : ∃ x : World, x = wc := ⟨_, rfl⟩
    have k0 : wD.cell? ⟨g, 0, none⟩ = some (.int .i64 0) := blkCell hkx rfl
    have k1 : wD.cell? ⟨g, 1, none⟩ = some (.int .i64 0) := blkCell hkx rfl
    have k2 : wD.cell? ⟨g, 2, none⟩ = some (.int .i64 0) := blkCell hkx rfl
    have k3 : wD.cell? ⟨g, 3, none⟩ = some (.int .i64 0) := blkCell hkx rfl
    have k4 : wD.cell? ⟨g, 4, none⟩ = some (.int .i64 0) := blkCell hkx rfl
    have k5 : wD.cell? ⟨g, 5, none⟩ = some (.int .i64 0) := blkCell hkx rfl
    have k6 : wD.cell? ⟨g, 6, none⟩ = some (.int .i64 0) := blkCell hkx rfl
    have l0 : wD.cell? ⟨h, 0, none⟩ = some (.int .i64 B0) := blkCell hky rfl
    have zk : g < wD.heap.size := World.block_lt_of_cell? wD _ k0
    have zl : h < wD.heap.size := World.block_lt_of_cell? wD _ l0
    have hsD := HS.out.below hB
    clear PX PY hkx hky
    go_wp2_with fail
    refine (LA.out _ hsD).mono ?_
    rintro e w4 ⟨rfl, hb4⟩
    have z4 := hb4.size
    have z4a : w.heap.size < w4.heap.size := by omega
    have z4b : w.heap.size + 1 < w4.heap.size := by omega
    have z4c : g < w4.heap.size := by omega
    have z4d : h < w4.heap.size := by omega
    have hB4 : Below w.heap.size w w4 := hB.trans (hb4.mono (by omega))
    have c0 := (hb4.cell (p := ⟨w.heap.size, 0, none⟩) hz).trans c0
    have c1 := (hb4.cell (p := ⟨w.heap.size, 1, none⟩) hz).trans c1
    have c2 := (hb4.cell (p := ⟨w.heap.size, 2, none⟩) hz).trans c2
    have c3 := (hb4.cell (p := ⟨w.heap.size + 1, 0, none⟩) hz').trans c3
    have c4 := (hb4.cell (p := ⟨w.heap.size + 1, 1, none⟩) hz').trans c4
    have c5 := (hb4.cell (p := ⟨w.heap.size + 1, 2, none⟩) hz').trans c5
    have k0 := (hb4.cell (p := ⟨g, 0, none⟩) zk).trans k0
    have k1 := (hb4.cell (p := ⟨g, 1, none⟩) zk).trans k1
    have k2 := (hb4.cell (p := ⟨g, 2, none⟩) zk).trans k2
    have k3 := (hb4.cell (p := ⟨g, 3, none⟩) zk).trans k3
    have k4 := (hb4.cell (p := ⟨g, 4, none⟩) zk).trans k4
    have k5 := (hb4.cell (p := ⟨g, 5, none⟩) zk).trans k5
    have k6 := (hb4.cell (p := ⟨g, 6, none⟩) zk).trans k6
    have l0 := (hb4.cell (p := ⟨h, 0, none⟩) zl).trans l0
    have hs4 := HS.out.below hB4
    clear hb4 hB hsD LA
    go_wp2_with fail
    refine (TY.out _ hs4).mono ?_
    rintro e w5 (⟨xs, hxs, a5, m5, cap5, rfl, ho5, hb5⟩ | ⟨hno, rfl, hb5⟩)
    rotate_left
    · have z5 := hb5.size
      have hB5 : Below w.heap.size w w5 := hB4.trans (hb5.mono (by omega))
      have z5c : g < w5.heap.size := by omega
      have k0 := (hb5.cell (p := ⟨g, 0, none⟩) z4c).trans k0
      have k1 := (hb5.cell (p := ⟨g, 1, none⟩) z4c).trans k1
      have k2 := (hb5.cell (p := ⟨g, 2, none⟩) z4c).trans k2
      have k3 := (hb5.cell (p := ⟨g, 3, none⟩) z4c).trans k3
      have k4 := (hb5.cell (p := ⟨g, 4, none⟩) z4c).trans k4
      have k5 := (hb5.cell (p := ⟨g, 5, none⟩) z4c).trans k5
      have k6 := (hb5.cell (p := ⟨g, 6, none⟩) z4c).trans k6
      go_wp2_with fail
      refine (live28 _).mono ?_
      rintro e w9 ⟨rfl, hb9⟩
      have hB9 : Below w.heap.size w w9 := hB5.trans (hb9.mono hB5.size)
      clear hb9
      go_wp2_with fail
      go_ret
      exact ⟨rfl, hB9⟩
    obtain ⟨xl, pv⟩ := PV.out xs hxs
    have hm : m5 = len := by obtain ⟨a', c', h⟩ := ho5.anyForm; cases h; exact xl
    subst hm
    have PW := hid pv
    have z5 := hb5.size
    have z5a : w.heap.size < w5.heap.size := by omega
    have z5b : w.heap.size + 1 < w5.heap.size := by omega
    have z5c : g < w5.heap.size := by omega
    have hB5 : Below w.heap.size w w5 := hB4.trans (hb5.mono (by omega))
    have c0 := (hb5.cell (p := ⟨w.heap.size, 0, none⟩) z4a).trans c0
    have c1 := (hb5.cell (p := ⟨w.heap.size, 1, none⟩) z4a).trans c1
    have c2 := (hb5.cell (p := ⟨w.heap.size, 2, none⟩) z4a).trans c2
    have c3 := (hb5.cell (p := ⟨w.heap.size + 1, 0, none⟩) z4b).trans c3
    have c4 := (hb5.cell (p := ⟨w.heap.size + 1, 1, none⟩) z4b).trans c4
    have c5 := (hb5.cell (p := ⟨w.heap.size + 1, 2, none⟩) z4b).trans c5
    have k0 := (hb5.cell (p := ⟨g, 0, none⟩) z4c).trans k0
    have k1 := (hb5.cell (p := ⟨g, 1, none⟩) z4c).trans k1
    have k2 := (hb5.cell (p := ⟨g, 2, none⟩) z4c).trans k2
    have k3 := (hb5.cell (p := ⟨g, 3, none⟩) z4c).trans k3
    have k4 := (hb5.cell (p := ⟨g, 4, none⟩) z4c).trans k4
    have k5 := (hb5.cell (p := ⟨g, 5, none⟩) z4c).trans k5
    have k6 := (hb5.cell (p := ⟨g, 6, none⟩) z4c).trans k6
    have hs5 := ho5.seen
    clear hb5 ho5 hB4 hs4 l0 pv
    have FZ1 : lk = false ∨ n1 < 1 ∨ ln ≠ n1 := FZ.out.resolve_left (by rw [hxs]; exact fun h => by cases h)
    clear FZ hxs
    by_cases hlk : lk = false
    · subst hlk
      go_wp2_with fail
      refine regionBelow (by kernel_rfl) (by kernel_rfl) ?_
      repeat (go_big_quiet_step (first | (go_at_call 31; exact quietBelow (PW.out _ _ _ (hs5.below (Ext.below _)))) | (go_at_call 24; exact quietBelow (live28 _))))
      refine wpQuiet_nil ?_
      intro _ hw'
      obtain ⟨nq, hw''⟩ := hw'
      subst hw''
      have hn2 := nq.below
      have hB6 : Below w.heap.size w nq.to := hB5.trans (hn2.mono (by omega))
      clear hn2
      go_wp2_with fail
      go_ret
      exact ⟨rfl, hB6⟩
    have hlk : lk = true := by cases lk with | true => rfl | false => exact absurd rfl hlk
    subst hlk
    by_cases hn1 : n1 < 1
    · clear FZ1
      go_wp2_with fail
      refine regionBelow (by kernel_rfl) (by kernel_rfl) ?_
      repeat (go_big_quiet_step (first | (go_at_call 31; exact quietBelow (PW.out _ _ _ (hs5.below (Ext.below _)))) | (go_at_call 24; exact quietBelow (live28 _))))
      refine wpQuiet_nil ?_
      intro _ hw'
      obtain ⟨nq, hw''⟩ := hw'
      subst hw''
      have hn2 := nq.below
      have hB6 : Below w.heap.size w nq.to := hB5.trans (hn2.mono (by omega))
      clear hn2
      go_wp2_with fail
      go_ret
      exact ⟨rfl, hB6⟩
    have hne : (ln != n1) = true := by rw [bne_iff_ne]; rcases FZ1 with h | h | h; cases h; exact absurd h hn1; exact h
    have dn1 : decide (n1 < 1) = false := decide_eq_false hn1
    clear FZ1 hn1
    go_wp2_with fail
    refine regionBelow (by kernel_rfl) (by kernel_rfl) ?_
    repeat (go_big_quiet_step (first | (go_at_call 31; exact quietBelow (PW.out _ _ _ (hs5.below (Ext.below _)))) | (go_at_call 24; exact quietBelow (live28 _))))
    refine wpQuiet_nil ?_
    intro _ hw'
    obtain ⟨nq, hw''⟩ := hw'
    subst hw''
    have hn2 := nq.below
    have hB6 : Below w.heap.size w nq.to := hB5.trans (hn2.mono (by omega))
    clear hn2
    go_wp2_with fail
    go_ret
    exact ⟨rfl, hB6⟩

end Go.Proofs.Ytkkhoiahjmfibaa
