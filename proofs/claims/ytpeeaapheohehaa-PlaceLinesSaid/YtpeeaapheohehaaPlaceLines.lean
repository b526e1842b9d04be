/- The walk of the statement on lines: it answers true. -/
import Derived.Test.YtpeeaapheohehaaPlaceLaws
import Derived.Test.YtpeeaapheohehaaCells
import Derived.Deep.RegionHeld3
import Derived.Deep.DeepCutAuto
namespace Go.Proofs.Ytpeeaapheohehaa
open Go.RowKit
set_option linter.unusedVariables false
set_option linter.unusedSimpArgs false

theorem madeKinds {u i k a b : Int} (h : madeV u i = .agg #[.int .i64 k, .int .i64 a, .int .i64 b]) : (4 ≤ k ∧ a = u) ∨ k = 0 := by
  unfold madeV at h
  repeat' split at h
  all_goals
    simp at h
    omega
theorem atKinds {t p s x k a b : Int} (h : atV t p s x = .agg #[.int .i64 k, .int .i64 a, .int .i64 b]) :
    (¬ (rightC t p s = true ∧ makersN t p ≤ x ∧ x < makersN t p + 120 * (t + 1)) ∧ 0 ≤ k ∧ k < 4) ∨ ((rightC t p s = true ∧ makersN t p ≤ x ∧ x < makersN t p + 120 * (t + 1)) ∧ ((4 ≤ k ∧ a = (x - makersN t p) / 120) ∨ k = 0)) := by
  unfold atV at h
  by_cases hr : rightC t p s = true ∧ 0 ≤ x ∧ x < makersN t p + 120 * (t + 1)
  · obtain ⟨⟨g1, g2⟩, ⟨g3, g4⟩, g5, g6⟩ := rightC_of hr.1
    have mb := makers_bd ⟨⟨g1, g2⟩, g3, g4⟩
    rw [if_pos hr] at h
    obtain ⟨hr, hx0, hx1⟩ := hr
    repeat' split at h
    case isFalse.isFalse.isTrue => exact .inr ⟨⟨hr, by omega, hx1⟩, madeKinds h⟩
    all_goals
      simp at h
      exact .inl ⟨fun h => by omega, by omega, by omega⟩
  · rw [if_neg hr] at h
    simp at h
    refine .inl ⟨fun g => hr ⟨g.1, ?_, g.2.2⟩, by omega, by omega⟩
    obtain ⟨⟨g1, g2⟩, ⟨g3, g4⟩, g5, g6⟩ := rightC_of g.1
    have mb := makers_bd ⟨⟨g1, g2⟩, g3, g4⟩
    omega
theorem lineKinds {t p s x y k a b l c d : Int} (h : atV t p s x = .agg #[.int .i64 k, .int .i64 a, .int .i64 b]) (g : atV t p s y = .agg #[.int .i64 l, .int .i64 c, .int .i64 d]) (hl : x / 8 = y / 8) :
    (4 ≤ k ∧ 4 ≤ l ∧ a = c) ∨ (k < 4 ∧ l < 4) ∨ (4 ≤ k ∧ l = 0) ∨ (k = 0 ∧ 4 ≤ l) := by
  have hx := atKinds h
  have hy := atKinds g
  by_cases hr : rightC t p s = true
  · obtain ⟨⟨g1, g2⟩, ⟨g3, g4⟩, g5, g6⟩ := rightC_of hr
    have mb := makers_bd ⟨⟨g1, g2⟩, g3, g4⟩
    simp only [hr, true_and] at hx hy
    omega
  · rcases hx with ⟨_, hx⟩ | ⟨hx, _⟩
    · rcases hy with ⟨_, hy⟩ | ⟨hy, _⟩
      · omega
      · exact absurd hy.1 hr
    · exact absurd hx.1 hr
theorem wordsMod (t p s : Int) : wordsC t p s % 8 = 0 := by
  unfold wordsC
  split
  · rename_i hr
    obtain ⟨⟨g1, g2⟩, ⟨g3, g4⟩, g5, g6⟩ := rightC_of hr
    have mb := makers_bd ⟨⟨g1, g2⟩, g3, g4⟩
    omega
  · rfl
theorem wordsBd (t p s : Int) : 0 ≤ wordsC t p s ∧ wordsC t p s ≤ 10000 := by
  unfold wordsC
  split
  · rename_i hr
    obtain ⟨⟨g1, g2⟩, ⟨g3, g4⟩, g5, g6⟩ := rightC_of hr
    have mb := makers_bd ⟨⟨g1, g2⟩, g3, g4⟩
    omega
  · omega


set_option maxRecDepth 100000 in
set_option maxHeartbeats 3200000 in
theorem linesA (w : World) (t p s x y : Int) (hx : x < 0) :
    Calls Try.prog 5 #[.agg #[.int .i64 t, .int .i64 p, .int .i64 s], .int .i64 x, .int .i64 y] w fun e w' => e = .returned (.bool true) ∧ Below w.heap.size w w' := by
  have D := wordsMod t p s
  have B := wordsBd t p s
  have PW := hidAll fun w => placeWords t p s w
  generalize wordsC t p s = n at D B PW
  have d : (n % 8 == 0) = true := by rw [beq_iff_eq]; exact D
  go_enter Try.func5, Try.ntmps5
  go_wp2_with fail
  refine (PW.out _).mono ?_
  rintro e w1 ⟨rfl, hb1⟩
  obtain ⟨hc1, hf1, hz1⟩ := after hb1
  simp at hz1
  have z1 : w.heap.size < w1.heap.size := by omega
  go_wp2_with fail
  refine (livePlace _).mono ?_
  rintro e w2 ⟨rfl, hb2⟩
  go_wp2
  go_ret
  exact ⟨rfl, bel⟩

set_option maxRecDepth 100000 in
set_option maxHeartbeats 3200000 in
theorem linesB (w : World) (t p s x y : Int) (hx : 0 ≤ x) (hy : y < 0) :
    Calls Try.prog 5 #[.agg #[.int .i64 t, .int .i64 p, .int .i64 s], .int .i64 x, .int .i64 y] w fun e w' => e = .returned (.bool true) ∧ Below w.heap.size w w' := by
  have D := wordsMod t p s
  have B := wordsBd t p s
  have PW := hidAll fun w => placeWords t p s w
  generalize wordsC t p s = n at D B PW
  have d : (n % 8 == 0) = true := by rw [beq_iff_eq]; exact D
  go_enter Try.func5, Try.ntmps5
  go_wp2_with fail
  refine (PW.out _).mono ?_
  rintro e w1 ⟨rfl, hb1⟩
  obtain ⟨hc1, hf1, hz1⟩ := after hb1
  simp at hz1
  have z1 : w.heap.size < w1.heap.size := by omega
  go_wp2_with fail
  refine (livePlace _).mono ?_
  rintro e w2 ⟨rfl, hb2⟩
  go_wp2
  go_ret
  exact ⟨rfl, bel⟩

set_option maxRecDepth 100000 in
set_option maxHeartbeats 3200000 in
theorem linesC (w : World) (t p s x y : Int) (hx : 0 ≤ x) (hy : 0 ≤ y) (x2 : x ≤ 9223372036854775807) (y2 : y ≤ 9223372036854775807) (hl : x / 8 ≠ y / 8) :
    Calls Try.prog 5 #[.agg #[.int .i64 t, .int .i64 p, .int .i64 s], .int .i64 x, .int .i64 y] w fun e w' => e = .returned (.bool true) ∧ Below w.heap.size w w' := by
  have D := wordsMod t p s
  have B := wordsBd t p s
  have PW := hidAll fun w => placeWords t p s w
  generalize wordsC t p s = n at D B PW
  have d : (n % 8 == 0) = true := by rw [beq_iff_eq]; exact D
  have dl : (x / 8 != y / 8) = true := by rw [bne_iff_ne]; exact hl
  clear hl
  go_enter Try.func5, Try.ntmps5
  go_wp2_with fail
  refine (PW.out _).mono ?_
  rintro e w1 ⟨rfl, hb1⟩
  obtain ⟨hc1, hf1, hz1⟩ := after hb1
  simp at hz1
  have z1 : w.heap.size < w1.heap.size := by omega
  go_wp2_with fail
  refine (livePlace _).mono ?_
  rintro e w2 ⟨rfl, hb2⟩
  go_wp2
  go_ret
  exact ⟨rfl, bel⟩

theorem frozenOut (W : World) (b o : Nat) (h : W.heap.size ≤ b) : W.frozen? ⟨b, o, none⟩ = false := by
  have h' : W.heap[b]? = none := Array.getElem?_eq_none h
  simp [World.frozen?, h']
theorem two1lt (w : World) (oC oA oB : Obj) : w.heap.size + 1 < (((w.alloc oC).drew.alloc oA).alloc oB).heap.size := by simp
theorem two1 (w : World) (oC oB : Obj) (A : Array Value) (T : TypeId) (j : Nat) (v : Value) (h : A[j]? = some v) : (((w.alloc oC).drew.alloc (.cells A T)).alloc oB).cell? ⟨w.heap.size + 1, j, none⟩ = some v :=
  cellOld (by simp) (cellNew (by simp) h)
theorem two1f (w : World) (oC : Obj) (A B : Array Value) (S T : TypeId) (o : Nat) : (((w.alloc oC).drew.alloc (.cells A T)).alloc (.cells B S)).frozen? ⟨w.heap.size + 1, o, none⟩ = false := by
  rw [frozen?_alloc_cells, frozen?_alloc_cells]
  exact frozenOut _ _ _ (by simp)
theorem farKeep {W : World} {g o b j : Nat} {v u : Value} (h : W.cell? ⟨b, j, none⟩ = some u) (hne : g ≠ b) : (W.setCell ⟨g, o, none⟩ v).cell? ⟨b, j, none⟩ = some u := by
  rw [World.cell?_setCell_far _ _ _ _ hne]; exact h
theorem setHit {W : World} {g o : Nat} {v u : Value} (h : W.cell? ⟨g, o, none⟩ = some u) : (W.setCell ⟨g, o, none⟩ v).cell? ⟨g, o, none⟩ = some v := World.cell?_setCell_same' _ _ _ (by rw [h]; rfl)
theorem setNear {W : World} {g o j : Nat} {v u : Value} (h : W.cell? ⟨g, j, none⟩ = some u) (hne : o ≠ j) : (W.setCell ⟨g, o, none⟩ v).cell? ⟨g, j, none⟩ = some u := by
  rw [World.cell?_setCell_other _ _ _ _ (by intro h; cases h; exact hne rfl)]; exact h
theorem belAlloc {B : Nat} {a w : World} {o : Obj} (hB : B ≤ w.heap.size) (h : Below B a w) : Below B a (w.alloc o) := h.alloc hB o
theorem belSet {B g j : Nat} {a w : World} {u : Value} (hp : B ≤ g) (h : Below B a w) : Below B a (w.setCell ⟨g, j, none⟩ u) := h.setCell (p := ⟨g, j, none⟩) hp u
/-- What the statement leaves: the two words' things, in blocks of its own. -/
def Both (w : World) (k a b l c d : Int) (u v : Value) (wx : World) : Prop := ∃ g h : Nat, u = .pointer (some ⟨g, 0, none⟩) ∧ v = .pointer (some ⟨h, 0, none⟩) ∧
  (wx.cell? ⟨g, 0, none⟩ = some (.int .i64 k) ∧ wx.cell? ⟨g, 1, none⟩ = some (.int .i64 a) ∧ wx.cell? ⟨g, 2, none⟩ = some (.int .i64 b)) ∧ (wx.cell? ⟨h, 0, none⟩ = some (.int .i64 l) ∧ wx.cell? ⟨h, 1, none⟩ = some (.int .i64 c) ∧ wx.cell? ⟨h, 2, none⟩ = some (.int .i64 d)) ∧ w.heap.size < wx.heap.size ∧ Below w.heap.size w wx


set_option maxRecDepth 100000 in
set_option maxHeartbeats 3200000 in
theorem linesD (w : World) (t p s x y : Int) (hx : 0 ≤ x) (hy : 0 ≤ y) (x2 : x ≤ 9223372036854775807) (y2 : y ≤ 9223372036854775807) (hl : RowKit.Hid (x / 8 = y / 8)) (k a b l c d : Int) (X : RowKit.Hid (atV t p s x = .agg #[.int .i64 k, .int .i64 a, .int .i64 b])) (Y : RowKit.Hid (atV t p s y = .agg #[.int .i64 l, .int .i64 c, .int .i64 d]))
    (hc : RowKit.Hid ((4 ≤ k ∧ 4 ≤ l ∧ a = c) ∨ (k < 4 ∧ l < 4) ∨ (4 ≤ k ∧ l = 0) ∨ (k = 0 ∧ 4 ≤ l))) :
    Calls Try.prog 5 #[.agg #[.int .i64 t, .int .i64 p, .int .i64 s], .int .i64 x, .int .i64 y] w fun e w' => e = .returned (.bool true) ∧ Below w.heap.size w w' := by
  have PX := hidAll fun w => by have h := placeAt t p s x w; rw [X.out] at h; exact h
  have PY := hidAll fun w => by have h := placeAt t p s y w; rw [Y.out] at h; exact h
  have dl : (x / 8 != y / 8) = false := by rw [bne_eq_false_iff_eq]; exact hl.out
  go_enter Try.func5, Try.ntmps5
  go_upto_region 3 with (fail)
  clear x2 y2
  go_cut [7, 8] (fun u v wx => Both w k a b l c d u v wx)
  case first =>
    have zz : w.heap.size < (w.alloc (.cells #[.int .i64 t, .int .i64 p, .int .i64 s] 23)).drew.heap.size := by simp
    go_region_held3 (fun w' => (w'.cell? ⟨w.heap.size, 0, none⟩ = some (.int .i64 t) ∧ w'.cell? ⟨w.heap.size, 1, none⟩ = some (.int .i64 p) ∧ w'.cell? ⟨w.heap.size, 2, none⟩ = some (.int .i64 s)) ∧ w.heap.size < w'.heap.size)
      (((go_split_ands); (try dsimp only); (repeat' apply And.intro); (all_goals first | (with_reducible assumption) | omega | ((repeat (first | (with_reducible refine farKeep ?_ (by first | assumption | omega | (simp; omega))) | (with_reducible refine cellOld (by first | omega | (simp; omega)) ?_))); (with_reducible assumption)) | (simp; omega) | (simp; done) | go_keep)))
      (first
        | (go_at_call_of 26 (Value.int .i64 x); refine (PX.out _).mono ?_; rintro e wx ⟨rfl, hbwx⟩; obtain ⟨hcwx, hfwx, hzwx⟩ := after hbwx; (try simp at hzwx); (try go_split_ands); have zwx : w.heap.size < wx.heap.size := (by omega); have hBwx : Below w.heap.size w wx := bel; have wxc0 : wx.cell? ⟨w.heap.size, 0, none⟩ = some (.int .i64 t) := (hcwx _ _ (by first | assumption | omega | (simp; done) | (simp; omega))).trans (by first | assumption | go_keep); have wxc1 : wx.cell? ⟨w.heap.size, 1, none⟩ = some (.int .i64 p) := (hcwx _ _ (by first | assumption | omega | (simp; done) | (simp; omega))).trans (by first | assumption | go_keep); have wxc2 : wx.cell? ⟨w.heap.size, 2, none⟩ = some (.int .i64 s) := (hcwx _ _ (by first | assumption | omega | (simp; done) | (simp; omega))).trans (by first | assumption | go_keep); (try (have n1z : w.heap.size + 1 < wx.heap.size := (by omega); have n1_0 : wx.cell? ⟨w.heap.size + 1, 0, none⟩ = some (.int .i64 0) := (hcwx _ _ (two1lt _ _ _ _)).trans (two1 _ _ _ _ _ _ _ rfl); have n1_1 : wx.cell? ⟨w.heap.size + 1, 1, none⟩ = some (.int .i64 0) := (hcwx _ _ (two1lt _ _ _ _)).trans (two1 _ _ _ _ _ _ _ rfl); have n1_2 : wx.cell? ⟨w.heap.size + 1, 2, none⟩ = some (.int .i64 0) := (hcwx _ _ (two1lt _ _ _ _)).trans (two1 _ _ _ _ _ _ _ rfl); have n1f : ∀ o, wx.frozen? ⟨w.heap.size + 1, o, none⟩ = false := (fun o => (hfwx _ _ (two1lt _ _ _ _)).trans (two1f _ _ _ _ _ _ o)))); (try (have n1z : w.heap.size + 1 < wx.heap.size := (by omega); have n1_0 : wx.cell? ⟨w.heap.size + 1, 0, none⟩ = some (.int .i64 0) := (hcwx _ _ (show w.heap.size + 1 < _ by first | assumption | omega | (simp; done) | (simp; omega))).trans (by first | (with_reducible assumption) | (refine cellNew ?_ rfl; first | rfl | (simp; done)) | (refine cellOld ?_ ?_; (focus (first | assumption | omega | (simp; done) | (simp; omega))); first | (with_reducible assumption) | (refine cellNew ?_ rfl; first | rfl | (simp; done)) | (refine cellOld ?_ ?_; (focus (first | assumption | omega | (simp; done) | (simp; omega))); (with_reducible assumption)))); have n1_1 : wx.cell? ⟨w.heap.size + 1, 1, none⟩ = some (.int .i64 0) := (hcwx _ _ (show w.heap.size + 1 < _ by first | assumption | omega | (simp; done) | (simp; omega))).trans (by first | (with_reducible assumption) | (refine cellNew ?_ rfl; first | rfl | (simp; done)) | (refine cellOld ?_ ?_; (focus (first | assumption | omega | (simp; done) | (simp; omega))); first | (with_reducible assumption) | (refine cellNew ?_ rfl; first | rfl | (simp; done)) | (refine cellOld ?_ ?_; (focus (first | assumption | omega | (simp; done) | (simp; omega))); (with_reducible assumption)))); have n1_2 : wx.cell? ⟨w.heap.size + 1, 2, none⟩ = some (.int .i64 0) := (hcwx _ _ (show w.heap.size + 1 < _ by first | assumption | omega | (simp; done) | (simp; omega))).trans (by first | (with_reducible assumption) | (refine cellNew ?_ rfl; first | rfl | (simp; done)) | (refine cellOld ?_ ?_; (focus (first | assumption | omega | (simp; done) | (simp; omega))); first | (with_reducible assumption) | (refine cellNew ?_ rfl; first | rfl | (simp; done)) | (refine cellOld ?_ ?_; (focus (first | assumption | omega | (simp; done) | (simp; omega))); (with_reducible assumption)))); have n1f : ∀ o, wx.frozen? ⟨w.heap.size + 1, o, none⟩ = false := (fun o => (hfwx _ _ (show w.heap.size + 1 < _ by first | assumption | omega | (simp; done) | (simp; omega))).trans (by first | exact n1f o | exact (frozen?_alloc_cells _ _ _ _).trans (n1f o) | exact (frozen?_alloc_cells _ _ _ _).trans ((frozen?_alloc_cells _ _ _ _).trans (n1f o)) | exact (frozen?_alloc_cells _ _ _ _).trans ((frozen?_alloc_cells _ _ _ _).trans (frozenOut _ _ _ (by first | exact Nat.le_refl _ | omega | (simp; done) | (simp; omega)))) | exact (frozen?_alloc_cells _ _ _ _).trans (frozenOut _ _ _ (by first | exact Nat.le_refl _ | omega | (simp; done) | (simp; omega))))))); (try (have n2z : w.heap.size + 2 < wx.heap.size := (by omega); have n2_0 : wx.cell? ⟨w.heap.size + 2, 0, none⟩ = some (.int .i64 0) := (hcwx _ _ (show w.heap.size + 2 < _ by first | assumption | omega | (simp; done) | (simp; omega))).trans (by first | (with_reducible assumption) | (refine cellNew ?_ rfl; first | rfl | (simp; done)) | (refine cellOld ?_ ?_; (focus (first | assumption | omega | (simp; done) | (simp; omega))); first | (with_reducible assumption) | (refine cellNew ?_ rfl; first | rfl | (simp; done)) | (refine cellOld ?_ ?_; (focus (first | assumption | omega | (simp; done) | (simp; omega))); (with_reducible assumption)))); have n2_1 : wx.cell? ⟨w.heap.size + 2, 1, none⟩ = some (.int .i64 0) := (hcwx _ _ (show w.heap.size + 2 < _ by first | assumption | omega | (simp; done) | (simp; omega))).trans (by first | (with_reducible assumption) | (refine cellNew ?_ rfl; first | rfl | (simp; done)) | (refine cellOld ?_ ?_; (focus (first | assumption | omega | (simp; done) | (simp; omega))); first | (with_reducible assumption) | (refine cellNew ?_ rfl; first | rfl | (simp; done)) | (refine cellOld ?_ ?_; (focus (first | assumption | omega | (simp; done) | (simp; omega))); (with_reducible assumption)))); have n2_2 : wx.cell? ⟨w.heap.size + 2, 2, none⟩ = some (.int .i64 0) := (hcwx _ _ (show w.heap.size + 2 < _ by first | assumption | omega | (simp; done) | (simp; omega))).trans (by first | (with_reducible assumption) | (refine cellNew ?_ rfl; first | rfl | (simp; done)) | (refine cellOld ?_ ?_; (focus (first | assumption | omega | (simp; done) | (simp; omega))); first | (with_reducible assumption) | (refine cellNew ?_ rfl; first | rfl | (simp; done)) | (refine cellOld ?_ ?_; (focus (first | assumption | omega | (simp; done) | (simp; omega))); (with_reducible assumption)))); have n2f : ∀ o, wx.frozen? ⟨w.heap.size + 2, o, none⟩ = false := (fun o => (hfwx _ _ (show w.heap.size + 2 < _ by first | assumption | omega | (simp; done) | (simp; omega))).trans (by first | exact n2f o | exact (frozen?_alloc_cells _ _ _ _).trans (n2f o) | exact (frozen?_alloc_cells _ _ _ _).trans ((frozen?_alloc_cells _ _ _ _).trans (n2f o)) | exact (frozen?_alloc_cells _ _ _ _).trans ((frozen?_alloc_cells _ _ _ _).trans (frozenOut _ _ _ (by first | exact Nat.le_refl _ | omega | (simp; done) | (simp; omega)))) | exact (frozen?_alloc_cells _ _ _ _).trans (frozenOut _ _ _ (by first | exact Nat.le_refl _ | omega | (simp; done) | (simp; omega))))))))
        | (go_at_call_of 26 (Value.int .i64 y); refine (PY.out _).mono ?_; rintro e wy ⟨rfl, hbwy⟩; obtain ⟨hcwy, hfwy, hzwy⟩ := after hbwy; (try simp at hzwy); (try go_split_ands); have zwy : w.heap.size < wy.heap.size := (by omega); have hBwy : Below w.heap.size w wy := bel; have wyc0 : wy.cell? ⟨w.heap.size, 0, none⟩ = some (.int .i64 t) := (hcwy _ _ (by first | assumption | omega | (simp; done) | (simp; omega))).trans (by first | assumption | go_keep); have wyc1 : wy.cell? ⟨w.heap.size, 1, none⟩ = some (.int .i64 p) := (hcwy _ _ (by first | assumption | omega | (simp; done) | (simp; omega))).trans (by first | assumption | go_keep); have wyc2 : wy.cell? ⟨w.heap.size, 2, none⟩ = some (.int .i64 s) := (hcwy _ _ (by first | assumption | omega | (simp; done) | (simp; omega))).trans (by first | assumption | go_keep); (try (have n1z : w.heap.size + 1 < wy.heap.size := (by omega); have n1_0 : wy.cell? ⟨w.heap.size + 1, 0, none⟩ = some (.int .i64 0) := (hcwy _ _ (show w.heap.size + 1 < _ by first | assumption | omega | (simp; done) | (simp; omega))).trans (by first | (with_reducible assumption) | (refine cellNew ?_ rfl; first | rfl | (simp; done)) | (refine cellOld ?_ ?_; (focus (first | assumption | omega | (simp; done) | (simp; omega))); first | (with_reducible assumption) | (refine cellNew ?_ rfl; first | rfl | (simp; done)) | (refine cellOld ?_ ?_; (focus (first | assumption | omega | (simp; done) | (simp; omega))); (with_reducible assumption)))); have n1_1 : wy.cell? ⟨w.heap.size + 1, 1, none⟩ = some (.int .i64 0) := (hcwy _ _ (show w.heap.size + 1 < _ by first | assumption | omega | (simp; done) | (simp; omega))).trans (by first | (with_reducible assumption) | (refine cellNew ?_ rfl; first | rfl | (simp; done)) | (refine cellOld ?_ ?_; (focus (first | assumption | omega | (simp; done) | (simp; omega))); first | (with_reducible assumption) | (refine cellNew ?_ rfl; first | rfl | (simp; done)) | (refine cellOld ?_ ?_; (focus (first | assumption | omega | (simp; done) | (simp; omega))); (with_reducible assumption)))); have n1_2 : wy.cell? ⟨w.heap.size + 1, 2, none⟩ = some (.int .i64 0) := (hcwy _ _ (show w.heap.size + 1 < _ by first | assumption | omega | (simp; done) | (simp; omega))).trans (by first | (with_reducible assumption) | (refine cellNew ?_ rfl; first | rfl | (simp; done)) | (refine cellOld ?_ ?_; (focus (first | assumption | omega | (simp; done) | (simp; omega))); first | (with_reducible assumption) | (refine cellNew ?_ rfl; first | rfl | (simp; done)) | (refine cellOld ?_ ?_; (focus (first | assumption | omega | (simp; done) | (simp; omega))); (with_reducible assumption)))); have n1f : ∀ o, wy.frozen? ⟨w.heap.size + 1, o, none⟩ = false := (fun o => (hfwy _ _ (show w.heap.size + 1 < _ by first | assumption | omega | (simp; done) | (simp; omega))).trans (by first | exact n1f o | exact (frozen?_alloc_cells _ _ _ _).trans (n1f o) | exact (frozen?_alloc_cells _ _ _ _).trans ((frozen?_alloc_cells _ _ _ _).trans (n1f o)) | exact (frozen?_alloc_cells _ _ _ _).trans ((frozen?_alloc_cells _ _ _ _).trans (frozenOut _ _ _ (by first | exact Nat.le_refl _ | omega | (simp; done) | (simp; omega)))) | exact (frozen?_alloc_cells _ _ _ _).trans (frozenOut _ _ _ (by first | exact Nat.le_refl _ | omega | (simp; done) | (simp; omega))))))); (try (have n2z : w.heap.size + 2 < wy.heap.size := (by omega); have n2_0 : wy.cell? ⟨w.heap.size + 2, 0, none⟩ = some (.int .i64 0) := (hcwy _ _ (show w.heap.size + 2 < _ by first | assumption | omega | (simp; done) | (simp; omega))).trans (by first | (with_reducible assumption) | (refine cellNew ?_ rfl; first | rfl | (simp; done)) | (refine cellOld ?_ ?_; (focus (first | assumption | omega | (simp; done) | (simp; omega))); first | (with_reducible assumption) | (refine cellNew ?_ rfl; first | rfl | (simp; done)) | (refine cellOld ?_ ?_; (focus (first | assumption | omega | (simp; done) | (simp; omega))); (with_reducible assumption)))); have n2_1 : wy.cell? ⟨w.heap.size + 2, 1, none⟩ = some (.int .i64 0) := (hcwy _ _ (show w.heap.size + 2 < _ by first | assumption | omega | (simp; done) | (simp; omega))).trans (by first | (with_reducible assumption) | (refine cellNew ?_ rfl; first | rfl | (simp; done)) | (refine cellOld ?_ ?_; (focus (first | assumption | omega | (simp; done) | (simp; omega))); first | (with_reducible assumption) | (refine cellNew ?_ rfl; first | rfl | (simp; done)) | (refine cellOld ?_ ?_; (focus (first | assumption | omega | (simp; done) | (simp; omega))); (with_reducible assumption)))); have n2_2 : wy.cell? ⟨w.heap.size + 2, 2, none⟩ = some (.int .i64 0) := (hcwy _ _ (show w.heap.size + 2 < _ by first | assumption | omega | (simp; done) | (simp; omega))).trans (by first | (with_reducible assumption) | (refine cellNew ?_ rfl; first | rfl | (simp; done)) | (refine cellOld ?_ ?_; (focus (first | assumption | omega | (simp; done) | (simp; omega))); first | (with_reducible assumption) | (refine cellNew ?_ rfl; first | rfl | (simp; done)) | (refine cellOld ?_ ?_; (focus (first | assumption | omega | (simp; done) | (simp; omega))); (with_reducible assumption)))); have n2f : ∀ o, wy.frozen? ⟨w.heap.size + 2, o, none⟩ = false := (fun o => (hfwy _ _ (show w.heap.size + 2 < _ by first | assumption | omega | (simp; done) | (simp; omega))).trans (by first | exact n2f o | exact (frozen?_alloc_cells _ _ _ _).trans (n2f o) | exact (frozen?_alloc_cells _ _ _ _).trans ((frozen?_alloc_cells _ _ _ _).trans (n2f o)) | exact (frozen?_alloc_cells _ _ _ _).trans ((frozen?_alloc_cells _ _ _ _).trans (frozenOut _ _ _ (by first | exact Nat.le_refl _ | omega | (simp; done) | (simp; omega)))) | exact (frozen?_alloc_cells _ _ _ _).trans (frozenOut _ _ _ (by first | exact Nat.le_refl _ | omega | (simp; done) | (simp; omega))))))); (try (have n3z : wx.heap.size < wy.heap.size := (by omega); have n3_0 : wy.cell? ⟨wx.heap.size, 0, none⟩ = some (.int .i64 0) := (hcwy _ _ (show wx.heap.size < _ by first | assumption | omega | (simp; done) | (simp; omega))).trans (by first | (with_reducible assumption) | (refine cellNew ?_ rfl; first | rfl | (simp; done)) | (refine cellOld ?_ ?_; (focus (first | assumption | omega | (simp; done) | (simp; omega))); first | (with_reducible assumption) | (refine cellNew ?_ rfl; first | rfl | (simp; done)) | (refine cellOld ?_ ?_; (focus (first | assumption | omega | (simp; done) | (simp; omega))); (with_reducible assumption)))); have n3_1 : wy.cell? ⟨wx.heap.size, 1, none⟩ = some (.int .i64 0) := (hcwy _ _ (show wx.heap.size < _ by first | assumption | omega | (simp; done) | (simp; omega))).trans (by first | (with_reducible assumption) | (refine cellNew ?_ rfl; first | rfl | (simp; done)) | (refine cellOld ?_ ?_; (focus (first | assumption | omega | (simp; done) | (simp; omega))); first | (with_reducible assumption) | (refine cellNew ?_ rfl; first | rfl | (simp; done)) | (refine cellOld ?_ ?_; (focus (first | assumption | omega | (simp; done) | (simp; omega))); (with_reducible assumption)))); have n3_2 : wy.cell? ⟨wx.heap.size, 2, none⟩ = some (.int .i64 0) := (hcwy _ _ (show wx.heap.size < _ by first | assumption | omega | (simp; done) | (simp; omega))).trans (by first | (with_reducible assumption) | (refine cellNew ?_ rfl; first | rfl | (simp; done)) | (refine cellOld ?_ ?_; (focus (first | assumption | omega | (simp; done) | (simp; omega))); first | (with_reducible assumption) | (refine cellNew ?_ rfl; first | rfl | (simp; done)) | (refine cellOld ?_ ?_; (focus (first | assumption | omega | (simp; done) | (simp; omega))); (with_reducible assumption)))); have n3f : ∀ o, wy.frozen? ⟨wx.heap.size, o, none⟩ = false := (fun o => (hfwy _ _ (show wx.heap.size < _ by first | assumption | omega | (simp; done) | (simp; omega))).trans (by first | exact n3f o | exact (frozen?_alloc_cells _ _ _ _).trans (n3f o) | exact (frozen?_alloc_cells _ _ _ _).trans ((frozen?_alloc_cells _ _ _ _).trans (n3f o)) | exact (frozen?_alloc_cells _ _ _ _).trans ((frozen?_alloc_cells _ _ _ _).trans (frozenOut _ _ _ (by first | exact Nat.le_refl _ | omega | (simp; done) | (simp; omega)))) | exact (frozen?_alloc_cells _ _ _ _).trans (frozenOut _ _ _ (by first | exact Nat.le_refl _ | omega | (simp; done) | (simp; omega))))))); (try (have n4z : wx.heap.size + 1 < wy.heap.size := (by omega); have n4_0 : wy.cell? ⟨wx.heap.size + 1, 0, none⟩ = some (.int .i64 0) := (hcwy _ _ (show wx.heap.size + 1 < _ by first | assumption | omega | (simp; done) | (simp; omega))).trans (by first | (with_reducible assumption) | (refine cellNew ?_ rfl; first | rfl | (simp; done)) | (refine cellOld ?_ ?_; (focus (first | assumption | omega | (simp; done) | (simp; omega))); first | (with_reducible assumption) | (refine cellNew ?_ rfl; first | rfl | (simp; done)) | (refine cellOld ?_ ?_; (focus (first | assumption | omega | (simp; done) | (simp; omega))); (with_reducible assumption)))); have n4_1 : wy.cell? ⟨wx.heap.size + 1, 1, none⟩ = some (.int .i64 0) := (hcwy _ _ (show wx.heap.size + 1 < _ by first | assumption | omega | (simp; done) | (simp; omega))).trans (by first | (with_reducible assumption) | (refine cellNew ?_ rfl; first | rfl | (simp; done)) | (refine cellOld ?_ ?_; (focus (first | assumption | omega | (simp; done) | (simp; omega))); first | (with_reducible assumption) | (refine cellNew ?_ rfl; first | rfl | (simp; done)) | (refine cellOld ?_ ?_; (focus (first | assumption | omega | (simp; done) | (simp; omega))); (with_reducible assumption)))); have n4_2 : wy.cell? ⟨wx.heap.size + 1, 2, none⟩ = some (.int .i64 0) := (hcwy _ _ (show wx.heap.size + 1 < _ by first | assumption | omega | (simp; done) | (simp; omega))).trans (by first | (with_reducible assumption) | (refine cellNew ?_ rfl; first | rfl | (simp; done)) | (refine cellOld ?_ ?_; (focus (first | assumption | omega | (simp; done) | (simp; omega))); first | (with_reducible assumption) | (refine cellNew ?_ rfl; first | rfl | (simp; done)) | (refine cellOld ?_ ?_; (focus (first | assumption | omega | (simp; done) | (simp; omega))); (with_reducible assumption)))); have n4f : ∀ o, wy.frozen? ⟨wx.heap.size + 1, o, none⟩ = false := (fun o => (hfwy _ _ (show wx.heap.size + 1 < _ by first | assumption | omega | (simp; done) | (simp; omega))).trans (by first | exact n4f o | exact (frozen?_alloc_cells _ _ _ _).trans (n4f o) | exact (frozen?_alloc_cells _ _ _ _).trans ((frozen?_alloc_cells _ _ _ _).trans (n4f o)) | exact (frozen?_alloc_cells _ _ _ _).trans ((frozen?_alloc_cells _ _ _ _).trans (frozenOut _ _ _ (by first | exact Nat.le_refl _ | omega | (simp; done) | (simp; omega)))) | exact (frozen?_alloc_cells _ _ _ _).trans (frozenOut _ _ _ (by first | exact Nat.le_refl _ | omega | (simp; done) | (simp; omega)))))))))
    all_goals go_wp2_with fail
    all_goals go_meet
    all_goals
      case rel =>
        refine ⟨_, _, rfl, rfl, ⟨?_, ?_, ?_⟩, ⟨?_, ?_, ?_⟩, ?sz, ?bl⟩
        case bl => ((repeat (first | (with_reducible assumption) | ((with_reducible refine belSet ?_ ?_); (focus (first | omega | (simp; done) | (simp; omega)))) | ((with_reducible refine belAlloc ?_ ?_); (focus (first | omega | (simp; done) | (simp; omega)))))))
        case sz => first | omega | (simp; omega)
        all_goals ((repeat (first | (with_reducible refine setHit (u := .int .i64 0) ?_) | (with_reducible refine setNear ?_ (by decide)) | (with_reducible refine farKeep ?_ (by omega)) | (with_reducible exact cellNew rfl rfl) | ((with_reducible refine cellOld ?_ ?_); (focus (first | omega | (simp; done) | (simp; omega)))))); (try first | (with_reducible assumption) | (exact cellNew rfl rfl) | ((refine cellNew ?_ rfl); (focus (first | rfl | (simp; done))))))
  case rest =>
    obtain ⟨g, h, rfl, rfl, ⟨k0, k1, k2⟩, ⟨l0, l1, l2⟩, hz, hB⟩ := hcut
    obtain ⟨wD, rfl⟩ : ∃ x : World, x = wc := ⟨_, rfl⟩
    rcases hc.out with ⟨g1, g2, g3⟩ | ⟨g1, g2⟩ | ⟨g1, g2⟩ | ⟨g1, g2⟩
    · subst g3
      go_wp2_with fail
      refine (livePlace _).mono ?_
      rintro e w9 ⟨rfl, hb9⟩
      have hB9 : Below w.heap.size w w9 := hB.trans (hb9.mono (by omega))
      clear hb9
      go_wp2_with fail
      go_ret
      exact ⟨rfl, hB9⟩
    · have g1' : ¬ 4 ≤ k := by omega
      have g2' : ¬ 4 ≤ l := by omega
      go_wp2_with fail
      refine (livePlace _).mono ?_
      rintro e w9 ⟨rfl, hb9⟩
      have hB9 : Below w.heap.size w w9 := hB.trans (hb9.mono (by omega))
      clear hb9
      go_wp2_with fail
      go_ret
      exact ⟨rfl, hB9⟩
    · subst g2
      have g1' : ¬ k < 4 := by omega
      go_wp2_with fail
      refine (livePlace _).mono ?_
      rintro e w9 ⟨rfl, hb9⟩
      have hB9 : Below w.heap.size w w9 := hB.trans (hb9.mono (by omega))
      clear hb9
      go_wp2_with fail
      go_ret
      exact ⟨rfl, hB9⟩
    · subst g1
      have g2' : ¬ l < 4 := by omega
      go_wp2_with fail
      refine (livePlace _).mono ?_
      rintro e w9 ⟨rfl, hb9⟩
      have hB9 : Below w.heap.size w w9 := hB.trans (hb9.mono (by omega))
      clear hb9
      go_wp2_with fail
      go_ret
      exact ⟨rfl, hB9⟩

theorem lawPlaceLines (w : World) (t p s x y : Int) (t1 : -9223372036854775808 ≤ t) (t2 : t ≤ 9223372036854775807) (p1 : -9223372036854775808 ≤ p) (p2 : p ≤ 9223372036854775807) (s1 : -9223372036854775808 ≤ s) (s2 : s ≤ 9223372036854775807) (x1 : -9223372036854775808 ≤ x) (x2 : x ≤ 9223372036854775807) (y1 : -9223372036854775808 ≤ y) (y2 : y ≤ 9223372036854775807) :
    Calls Try.prog 5 #[.agg #[.int .i64 t, .int .i64 p, .int .i64 s], .int .i64 x, .int .i64 y] w fun e w' => e = .returned (.bool true) ∧ Below w.heap.size w w' := by
  by_cases hx : x < 0
  · exact linesA w t p s x y hx
  by_cases hy : y < 0
  · exact linesB w t p s x y (by omega) hy
  by_cases hl : x / 8 = y / 8
  · obtain ⟨k, a, b, X⟩ := atForm t p s x
    obtain ⟨l, c, d, Y⟩ := atForm t p s y
    exact linesD w t p s x y (by omega) (by omega) x2 y2 (hid hl) k a b l c d (hid X) (hid Y) (hid (lineKinds X Y hl))
  · exact linesC w t p s x y (by omega) (by omega) x2 y2 hl
end Go.Proofs.Ytpeeaapheohehaa
