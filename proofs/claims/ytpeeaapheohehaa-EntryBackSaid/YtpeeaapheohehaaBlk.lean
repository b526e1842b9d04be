/- Whole blocks of cells: what is known of one behind calls, new blocks, stores. No program in sight. -/
import Derived.Test.YtpeeaapheohehaaMem
namespace Go.Proofs.Ytpeeaapheohehaa
open Go.RowKit
set_option linter.unusedVariables false
set_option linter.unusedSimpArgs false

/-- A block of cells, whole, no cell of it marked. -/
def BlkT (T : TypeId) (W : World) (b : Nat) (A : Array Value) : Prop := W.heap[b]? = some (.cells A T)
theorem blkT_lt {T : TypeId} {W : World} {b : Nat} {A : Array Value} (k : BlkT T W b A) : b < W.heap.size := (Array.getElem?_eq_some_iff.1 k).1
theorem blkT_below {T : TypeId} {W W' : World} {B b : Nat} {A : Array Value} (hb : Below B W W') (h : b < B) (k : BlkT T W b A) : BlkT T W' b A := (hb.block b h).trans k
theorem blkT_call {T : TypeId} {W W' : World} {b : Nat} {A : Array Value} (hb : Below W.heap.size W W') (k : BlkT T W b A) : BlkT T W' b A := (hb.block b (blkT_lt k)).trans k
theorem blkT_cell {T : TypeId} {W : World} {b j : Nat} {A : Array Value} {v : Value} (k : BlkT T W b A) (h : A[j]? = some v) : W.cell? ⟨b, j, none⟩ = some v := by
  unfold BlkT at k
  simp only [World.cell?, k]
  exact h
theorem blkT_mark {T : TypeId} {W : World} {b : Nat} {A : Array Value} (k : BlkT T W b A) (o : Nat) : W.frozen? ⟨b, o, none⟩ = false := by
  unfold BlkT at k
  simp [World.frozen?, k]
theorem blkT_drew {T : TypeId} {W : World} {b : Nat} {A : Array Value} (k : BlkT T W b A) : BlkT T W.drew b A := k
theorem blkT_new {T : TypeId} {W : World} {b : Nat} {A : Array Value} (h : b = W.heap.size) : BlkT T (W.alloc (.cells A T)) b A := by
  subst h
  exact heap_alloc_new W _
theorem blkT_old {T : TypeId} {W : World} {b : Nat} {A : Array Value} {o : Obj} (k : BlkT T W b A) : BlkT T (W.alloc o) b A := by
  have h := blkT_lt k
  unfold BlkT at *
  rw [← k]
  simp only [World.alloc]
  rw [Array.getElem?_push, if_neg (by omega)]
theorem blkT_hit {T : TypeId} {W : World} {g o : Nat} {A : Array Value} {v : Value} (k : BlkT T W g A) : BlkT T (W.setCell ⟨g, o, none⟩ v) g (A.setIfInBounds o v) := by
  unfold BlkT at *
  simp [World.setCell, Array.getElem?_modify, k]
theorem blkT_far {T : TypeId} {W : World} {g o b : Nat} {A : Array Value} {v : Value} (h : g ≠ b) (k : BlkT T W b A) : BlkT T (W.setCell ⟨g, o, none⟩ v) b A := by
  unfold BlkT at *
  simp [World.setCell, Array.getElem?_modify, h, k]
theorem blkT_far7 {T : TypeId} {W : World} {g b : Nat} {A : Array Value} {v0 v1 v2 v3 v4 v5 v6 : Value} (h : g ≠ b) (k : BlkT T W b A) : BlkT T (((((((W.setCell ⟨g, 0, none⟩ v0).setCell ⟨g, 1, none⟩ v1).setCell ⟨g, 2, none⟩ v2).setCell ⟨g, 3, none⟩ v3).setCell ⟨g, 4, none⟩ v4).setCell ⟨g, 5, none⟩ v5).setCell ⟨g, 6, none⟩ v6) b A :=
  blkT_far h (blkT_far h (blkT_far h (blkT_far h (blkT_far h (blkT_far h (blkT_far h k))))))
theorem blkT_set7 {T : TypeId} {W : World} {g : Nat} {x0 x1 x2 x3 x4 x5 x6 v0 v1 v2 v3 v4 v5 v6 : Value} (k : BlkT T W g #[x0, x1, x2, x3, x4, x5, x6]) : BlkT T (((((((W.setCell ⟨g, 0, none⟩ v0).setCell ⟨g, 1, none⟩ v1).setCell ⟨g, 2, none⟩ v2).setCell ⟨g, 3, none⟩ v3).setCell ⟨g, 4, none⟩ v4).setCell ⟨g, 5, none⟩ v5).setCell ⟨g, 6, none⟩ v6) g #[v0, v1, v2, v3, v4, v5, v6] := by
  have h0 := blkT_hit (o := 0) (v := v0) k
  rw [show (#[x0, x1, x2, x3, x4, x5, x6] : Array Value).setIfInBounds 0 v0 = #[v0, x1, x2, x3, x4, x5, x6] by simp] at h0
  have h1 := blkT_hit (o := 1) (v := v1) h0
  rw [show (#[v0, x1, x2, x3, x4, x5, x6] : Array Value).setIfInBounds 1 v1 = #[v0, v1, x2, x3, x4, x5, x6] by simp] at h1
  have h2 := blkT_hit (o := 2) (v := v2) h1
  rw [show (#[v0, v1, x2, x3, x4, x5, x6] : Array Value).setIfInBounds 2 v2 = #[v0, v1, v2, x3, x4, x5, x6] by simp] at h2
  have h3 := blkT_hit (o := 3) (v := v3) h2
  rw [show (#[v0, v1, v2, x3, x4, x5, x6] : Array Value).setIfInBounds 3 v3 = #[v0, v1, v2, v3, x4, x5, x6] by simp] at h3
  have h4 := blkT_hit (o := 4) (v := v4) h3
  rw [show (#[v0, v1, v2, v3, x4, x5, x6] : Array Value).setIfInBounds 4 v4 = #[v0, v1, v2, v3, v4, x5, x6] by simp] at h4
  have h5 := blkT_hit (o := 5) (v := v5) h4
  rw [show (#[v0, v1, v2, v3, v4, x5, x6] : Array Value).setIfInBounds 5 v5 = #[v0, v1, v2, v3, v4, v5, x6] by simp] at h5
  have h6 := blkT_hit (o := 6) (v := v6) h5
  rw [show (#[v0, v1, v2, v3, v4, v5, x6] : Array Value).setIfInBounds 6 v6 = #[v0, v1, v2, v3, v4, v5, v6] by simp] at h6
  exact h6
theorem blkT_ne {S T : TypeId} {W : World} {g b : Nat} {A B : Array Value} (h : S ≠ T) (k : BlkT S W g A) (k' : BlkT T W b B) : g ≠ b := by
  intro e
  subst e
  unfold BlkT at *
  rw [k] at k'
  cases k'
  exact h rfl

/-! ### seven numbers -/
def A7 (x : Nat → Int) : Array Value := #[.int .i64 (x 0), .int .i64 (x 1), .int .i64 (x 2), .int .i64 (x 3), .int .i64 (x 4), .int .i64 (x 5), .int .i64 (x 6)]
theorem A7_set (x : Nat → Int) (f : Nat) (hf : f < 7) (y : Int) : (A7 x).setIfInBounds f (.int .i64 y) = A7 (fun i => if i = f then y else x i) := by
  obtain rfl | rfl | rfl | rfl | rfl | rfl | rfl : f = 0 ∨ f = 1 ∨ f = 2 ∨ f = 3 ∨ f = 4 ∨ f = 5 ∨ f = 6 := by omega
  all_goals simp [A7]
theorem A7_get (x : Nat → Int) (f : Nat) (hf : f < 7) : (A7 x)[f]? = some (.int .i64 (x f)) := by
  obtain rfl | rfl | rfl | rfl | rfl | rfl | rfl : f = 0 ∨ f = 1 ∨ f = 2 ∨ f = 3 ∨ f = 4 ∨ f = 5 ∨ f = 6 := by omega
  all_goals rfl
end Go.Proofs.Ytpeeaapheohehaa
