/- The walks of package call: the two calls of a thread; the number and the operation of a call. -/
import Derived.Test.YtkkhoiahjmfibaaSettle2
import Derived.Test.YtkkhoiahjmfibaaOpVals
import Derived.Laws.CopyOwn
import Derived.Deep.RegionHeld3
import Derived.Deep.DeepCutAuto
namespace Go.Proofs.Ytkkhoiahjmfibaa
open Go.RowKit
set_option linter.unusedVariables false
set_option linter.unusedSimpArgs false

/-- Where a thread's calls are, and their words. -/
def mkI (t p u : Int) : Nat := (makersN t p + 120 * u).toNat
def cwN (t p u : Int) (ws : List Nat) (k : Nat) : Nat := ws[mkI t p u + k]?.getD 0
def numX (x : Nat) : Nat := if 2147483647 < x then 0 else x
theorem mkI_bd {t p s u : Int} {len : Nat} (ho : okW t p s len) (h0 : 0 ≤ u) (h1 : u < t) : ((mkI t p u : Nat) : Int) = makersN t p + 120 * u ∧ mkI t p u + 240 ≤ len ∧ 80 ≤ mkI t p u := by
  obtain ⟨hr, hl⟩ := ho
  obtain ⟨⟨g1, g2⟩, ⟨g3, g4⟩, g5, g6⟩ := rightC_of hr
  have mb := makers_bd ⟨⟨g1, g2⟩, g3, g4⟩
  unfold mkI
  omega
theorem slice1 (b o len cap c : Nat) (hc : c < cap) (hl : c ≤ len) (W : World) :
    (Instr.slice 24 (.slice (some ⟨b, o, none⟩) len cap) (some (.int .i64 (c : Int))) none none).run Try.prog W = .ok (.slice (some ⟨b, o + c, none⟩) (len - c) (cap - c)) W := by
  have ht : Try.prog.underlying 24 = some (.slice (Try.prog.elem 24)) := by simp [Program.elem, Try.underlying24]
  have hz : (Go.sizeOf (Try.prog.elem 24)).run Try.prog W = .ok 1 W := by kernel_rfl
  rw [run_slice_l W 24 _ _ _ ht .i64 _ (by omega) (by omega), hz]
  have h2 : ¬ cap = c := by omega
  simp [Result.andThen, sliced, h2, Addr.add]
theorem src4 {W : World} {b o : Nat} {k : IntKind} {a0 a1 a2 a3 : Nat} (h0 : W.cell? ⟨b, o, none⟩ = some (.int k (a0 : Int))) (h1 : W.cell? ⟨b, o + 1, none⟩ = some (.int k (a1 : Int))) (h2 : W.cell? ⟨b, o + 2, none⟩ = some (.int k (a2 : Int))) (h3 : W.cell? ⟨b, o + 3, none⟩ = some (.int k (a3 : Int))) :
    ∀ j v, ([.int k (a0 : Int), .int k (a1 : Int), .int k (a2 : Int), .int k (a3 : Int)] : List Value)[j]? = some v → W.cell? ((⟨b, o, none⟩ : Addr).add j) = some v := by
  intro j v h
  match j, h with
  | 0, h => simp at h; subst h; simpa [Addr.add] using h0
  | 1, h => simp at h; subst h; simpa [Addr.add] using h1
  | 2, h => simp at h; subst h; simpa [Addr.add] using h2
  | 3, h => simp at h; subst h; simpa [Addr.add] using h3
  | j + 4, h => simp at h
/-- The box of the two calls, as it is filled. -/
def outL (x0 x1 x2 x3 y0 y1 y2 y3 : Nat) : Nat → List Value
  | 0 => [.int .u64 0, .int .u64 0, .int .u64 0, .int .u64 0, .int .u64 0, .int .u64 0, .int .u64 0, .int .u64 0]
  | 1 => [.int .u64 (x0 : Int), .int .u64 (x1 : Int), .int .u64 (x2 : Int), .int .u64 (x3 : Int), .int .u64 0, .int .u64 0, .int .u64 0, .int .u64 0]
  | _ => [.int .u64 (x0 : Int), .int .u64 (x1 : Int), .int .u64 (x2 : Int), .int .u64 (x3 : Int), .int .u64 (y0 : Int), .int .u64 (y1 : Int), .int .u64 (y2 : Int), .int .u64 (y3 : Int)]

set_option maxHeartbeats 3200000 in
theorem callOfNo (t p s u : Int) (w : World) (a : Option Addr) (len cap : Nat) (ws : List Nat) (hl : len ≤ cap ∧ cap ≤ maxLen) (h : ¬ (okW t p s len ∧ 0 ≤ u ∧ u < t)) :
    Calls Try.prog 60 #[.agg #[.int .i64 t, .int .i64 p, .int .i64 s], .slice a len cap, .int .i64 u] w fun e w' => e = .returned (.tuple #[.agg #[.int .u64 0, .int .u64 0, .int .u64 0, .int .u64 0, .int .u64 0, .int .u64 0, .int .u64 0, .int .u64 0], .bool false]) ∧ Below w.heap.size w w' := by
  obtain ⟨hl1, hl2⟩ := hl
  by_cases hn : len = 0
  · subst hn
    clear h
    go_enter Try.func60, Try.ntmps60
    go_upto_region 3 with (fail)
    obtain ⟨w1, hw1⟩ : ∃ x : World, x = ((w.alloc (.cells #[.int .i64 t, .int .i64 p, .int .i64 s] 23)).alloc (.cells #[.int .u64 0, .int .u64 0, .int .u64 0, .int .u64 0, .int .u64 0, .int .u64 0, .int .u64 0, .int .u64 0] 95)).alloc (.cells #[.int .u64 0, .int .u64 0, .int .u64 0, .int .u64 0, .int .u64 0, .int .u64 0, .int .u64 0, .int .u64 0] 95) := ⟨_, rfl⟩
    have hb1 : Below (((w.alloc (.cells #[.int .i64 t, .int .i64 p, .int .i64 s] 23)).alloc (.cells #[.int .u64 0, .int .u64 0, .int .u64 0, .int .u64 0, .int .u64 0, .int .u64 0, .int .u64 0, .int .u64 0] 95)).alloc (.cells #[.int .u64 0, .int .u64 0, .int .u64 0, .int .u64 0, .int .u64 0, .int .u64 0, .int .u64 0, .int .u64 0] 95)).heap.size (((w.alloc (.cells #[.int .i64 t, .int .i64 p, .int .i64 s] 23)).alloc (.cells #[.int .u64 0, .int .u64 0, .int .u64 0, .int .u64 0, .int .u64 0, .int .u64 0, .int .u64 0, .int .u64 0] 95)).alloc (.cells #[.int .u64 0, .int .u64 0, .int .u64 0, .int .u64 0, .int .u64 0, .int .u64 0, .int .u64 0, .int .u64 0] 95)) w1 := hw1 ▸ Below.refl _ _
    rw [← hw1]
    have z1 : w.heap.size < w1.heap.size := by have := hb1.size; simp at this; omega
    have z1' : w.heap.size + 1 < w1.heap.size := by have := hb1.size; simp at this; omega
    have z1'' : w.heap.size + 2 < w1.heap.size := by have := hb1.size; simp at this; omega
    have q0 : w1.cell? ⟨w.heap.size, 0, none⟩ = some (.int .i64 t) := (hb1.cell (p := ⟨w.heap.size, 0, none⟩) (by first | omega | (simp; done) | (simp; omega))).trans (cellOld (by first | omega | (simp; done) | (simp; omega)) (cellOld (by first | omega | (simp; done) | (simp; omega)) (cellNew rfl rfl)))
    have q1 : w1.cell? ⟨w.heap.size, 1, none⟩ = some (.int .i64 p) := (hb1.cell (p := ⟨w.heap.size, 1, none⟩) (by first | omega | (simp; done) | (simp; omega))).trans (cellOld (by first | omega | (simp; done) | (simp; omega)) (cellOld (by first | omega | (simp; done) | (simp; omega)) (cellNew rfl rfl)))
    have q2 : w1.cell? ⟨w.heap.size, 2, none⟩ = some (.int .i64 s) := (hb1.cell (p := ⟨w.heap.size, 2, none⟩) (by first | omega | (simp; done) | (simp; omega))).trans (cellOld (by first | omega | (simp; done) | (simp; omega)) (cellOld (by first | omega | (simp; done) | (simp; omega)) (cellNew rfl rfl)))
    have r0 : w1.cell? ⟨w.heap.size + 1, 0, none⟩ = some (.int .u64 0) := (hb1.cell (p := ⟨w.heap.size + 1, 0, none⟩) (by first | omega | (simp; done) | (simp; omega))).trans (cellOld (by first | omega | (simp; done) | (simp; omega)) (cellNew (by simp) rfl))
    have r1 : w1.cell? ⟨w.heap.size + 1, 1, none⟩ = some (.int .u64 0) := (hb1.cell (p := ⟨w.heap.size + 1, 1, none⟩) (by first | omega | (simp; done) | (simp; omega))).trans (cellOld (by first | omega | (simp; done) | (simp; omega)) (cellNew (by simp) rfl))
    have r2 : w1.cell? ⟨w.heap.size + 1, 2, none⟩ = some (.int .u64 0) := (hb1.cell (p := ⟨w.heap.size + 1, 2, none⟩) (by first | omega | (simp; done) | (simp; omega))).trans (cellOld (by first | omega | (simp; done) | (simp; omega)) (cellNew (by simp) rfl))
    have r3 : w1.cell? ⟨w.heap.size + 1, 3, none⟩ = some (.int .u64 0) := (hb1.cell (p := ⟨w.heap.size + 1, 3, none⟩) (by first | omega | (simp; done) | (simp; omega))).trans (cellOld (by first | omega | (simp; done) | (simp; omega)) (cellNew (by simp) rfl))
    have r4 : w1.cell? ⟨w.heap.size + 1, 4, none⟩ = some (.int .u64 0) := (hb1.cell (p := ⟨w.heap.size + 1, 4, none⟩) (by first | omega | (simp; done) | (simp; omega))).trans (cellOld (by first | omega | (simp; done) | (simp; omega)) (cellNew (by simp) rfl))
    have r5 : w1.cell? ⟨w.heap.size + 1, 5, none⟩ = some (.int .u64 0) := (hb1.cell (p := ⟨w.heap.size + 1, 5, none⟩) (by first | omega | (simp; done) | (simp; omega))).trans (cellOld (by first | omega | (simp; done) | (simp; omega)) (cellNew (by simp) rfl))
    have r6 : w1.cell? ⟨w.heap.size + 1, 6, none⟩ = some (.int .u64 0) := (hb1.cell (p := ⟨w.heap.size + 1, 6, none⟩) (by first | omega | (simp; done) | (simp; omega))).trans (cellOld (by first | omega | (simp; done) | (simp; omega)) (cellNew (by simp) rfl))
    have r7 : w1.cell? ⟨w.heap.size + 1, 7, none⟩ = some (.int .u64 0) := (hb1.cell (p := ⟨w.heap.size + 1, 7, none⟩) (by first | omega | (simp; done) | (simp; omega))).trans (cellOld (by first | omega | (simp; done) | (simp; omega)) (cellNew (by simp) rfl))
    have b0 : w1.cell? ⟨w.heap.size + 2, 0, none⟩ = some (.int .u64 0) := (hb1.cell (p := ⟨w.heap.size + 2, 0, none⟩) (by first | omega | (simp; done) | (simp; omega))).trans (cellNew (by simp) rfl)
    have b1 : w1.cell? ⟨w.heap.size + 2, 1, none⟩ = some (.int .u64 0) := (hb1.cell (p := ⟨w.heap.size + 2, 1, none⟩) (by first | omega | (simp; done) | (simp; omega))).trans (cellNew (by simp) rfl)
    have b2 : w1.cell? ⟨w.heap.size + 2, 2, none⟩ = some (.int .u64 0) := (hb1.cell (p := ⟨w.heap.size + 2, 2, none⟩) (by first | omega | (simp; done) | (simp; omega))).trans (cellNew (by simp) rfl)
    have b3 : w1.cell? ⟨w.heap.size + 2, 3, none⟩ = some (.int .u64 0) := (hb1.cell (p := ⟨w.heap.size + 2, 3, none⟩) (by first | omega | (simp; done) | (simp; omega))).trans (cellNew (by simp) rfl)
    have b4 : w1.cell? ⟨w.heap.size + 2, 4, none⟩ = some (.int .u64 0) := (hb1.cell (p := ⟨w.heap.size + 2, 4, none⟩) (by first | omega | (simp; done) | (simp; omega))).trans (cellNew (by simp) rfl)
    have b5 : w1.cell? ⟨w.heap.size + 2, 5, none⟩ = some (.int .u64 0) := (hb1.cell (p := ⟨w.heap.size + 2, 5, none⟩) (by first | omega | (simp; done) | (simp; omega))).trans (cellNew (by simp) rfl)
    have b6 : w1.cell? ⟨w.heap.size + 2, 6, none⟩ = some (.int .u64 0) := (hb1.cell (p := ⟨w.heap.size + 2, 6, none⟩) (by first | omega | (simp; done) | (simp; omega))).trans (cellNew (by simp) rfl)
    have b7 : w1.cell? ⟨w.heap.size + 2, 7, none⟩ = some (.int .u64 0) := (hb1.cell (p := ⟨w.heap.size + 2, 7, none⟩) (by first | omega | (simp; done) | (simp; omega))).trans (cellNew (by simp) rfl)
    have hB1 : Below w.heap.size w w1 := bel
    have mm : ∀ o, w1.frozen? ⟨w.heap.size + 1, o, none⟩ = false := by intro o; rw [hb1.frozen (p := ⟨w.heap.size + 1, o, none⟩) (by first | omega | (simp; done) | (simp; omega)), frozen?_alloc_cells, frozen?_alloc_cells, frozen?_alloc_cells]; simp [World.frozen?]
    clear hw1 hb1
    go_wp2_with fail
    exact bodyPost_ret (v := .tuple #[.agg #[.int .u64 0, .int .u64 0, .int .u64 0, .int .u64 0, .int .u64 0, .int .u64 0, .int .u64 0, .int .u64 0], .bool false]) (by simp [results, Try.results60, go_sem, r0, r1, r2, r3, r4, r5, r6, r7, z1, z1', z1'']) rfl ⟨rfl, ((((((((hB1.setCell (by show w.heap.size ≤ w.heap.size + 1; omega) _).setCell (by show w.heap.size ≤ w.heap.size + 1; omega) _).setCell (by show w.heap.size ≤ w.heap.size + 1; omega) _).setCell (by show w.heap.size ≤ w.heap.size + 1; omega) _).setCell (by show w.heap.size ≤ w.heap.size + 1; omega) _).setCell (by show w.heap.size ≤ w.heap.size + 1; omega) _).setCell (by show w.heap.size ≤ w.heap.size + 1; omega) _).setCell (by show w.heap.size ≤ w.heap.size + 1; omega) _)⟩
  · by_cases hw : wordsC t p s = (len : Int)
    · have ho : okW t p s len := by
        by_cases ho : okW t p s len
        · exact ho
        · have := okW_no ho
          omega
      have E := hid hw
      by_cases h0 : 0 ≤ u
      · have h1 : t ≤ u := by
          by_cases h1 : u < t
          · exact absurd ⟨ho, h0, h1⟩ h
          · omega
        clear h ho hw
        have hn : ¬ (len : Int) = 0 := by omega
        go_enter Try.func60, Try.ntmps60
        go_wp2_with fail
        refine (placeWords t p s _).mono ?_
        rw [E.out]
        rintro e w1 ⟨rfl, hb1⟩
        have z1 : w.heap.size < w1.heap.size := by have := hb1.size; simp at this; omega
        have z1' : w.heap.size + 1 < w1.heap.size := by have := hb1.size; simp at this; omega
        have z1'' : w.heap.size + 2 < w1.heap.size := by have := hb1.size; simp at this; omega
        have q0 : w1.cell? ⟨w.heap.size, 0, none⟩ = some (.int .i64 t) := (hb1.cell (p := ⟨w.heap.size, 0, none⟩) (by first | omega | (simp; done) | (simp; omega))).trans (cellOld (by first | omega | (simp; done) | (simp; omega)) (cellOld (by first | omega | (simp; done) | (simp; omega)) (cellNew rfl rfl)))
        have q1 : w1.cell? ⟨w.heap.size, 1, none⟩ = some (.int .i64 p) := (hb1.cell (p := ⟨w.heap.size, 1, none⟩) (by first | omega | (simp; done) | (simp; omega))).trans (cellOld (by first | omega | (simp; done) | (simp; omega)) (cellOld (by first | omega | (simp; done) | (simp; omega)) (cellNew rfl rfl)))
        have q2 : w1.cell? ⟨w.heap.size, 2, none⟩ = some (.int .i64 s) := (hb1.cell (p := ⟨w.heap.size, 2, none⟩) (by first | omega | (simp; done) | (simp; omega))).trans (cellOld (by first | omega | (simp; done) | (simp; omega)) (cellOld (by first | omega | (simp; done) | (simp; omega)) (cellNew rfl rfl)))
        have r0 : w1.cell? ⟨w.heap.size + 1, 0, none⟩ = some (.int .u64 0) := (hb1.cell (p := ⟨w.heap.size + 1, 0, none⟩) (by first | omega | (simp; done) | (simp; omega))).trans (cellOld (by first | omega | (simp; done) | (simp; omega)) (cellNew (by simp) rfl))
        have r1 : w1.cell? ⟨w.heap.size + 1, 1, none⟩ = some (.int .u64 0) := (hb1.cell (p := ⟨w.heap.size + 1, 1, none⟩) (by first | omega | (simp; done) | (simp; omega))).trans (cellOld (by first | omega | (simp; done) | (simp; omega)) (cellNew (by simp) rfl))
        have r2 : w1.cell? ⟨w.heap.size + 1, 2, none⟩ = some (.int .u64 0) := (hb1.cell (p := ⟨w.heap.size + 1, 2, none⟩) (by first | omega | (simp; done) | (simp; omega))).trans (cellOld (by first | omega | (simp; done) | (simp; omega)) (cellNew (by simp) rfl))
        have r3 : w1.cell? ⟨w.heap.size + 1, 3, none⟩ = some (.int .u64 0) := (hb1.cell (p := ⟨w.heap.size + 1, 3, none⟩) (by first | omega | (simp; done) | (simp; omega))).trans (cellOld (by first | omega | (simp; done) | (simp; omega)) (cellNew (by simp) rfl))
        have r4 : w1.cell? ⟨w.heap.size + 1, 4, none⟩ = some (.int .u64 0) := (hb1.cell (p := ⟨w.heap.size + 1, 4, none⟩) (by first | omega | (simp; done) | (simp; omega))).trans (cellOld (by first | omega | (simp; done) | (simp; omega)) (cellNew (by simp) rfl))
        have r5 : w1.cell? ⟨w.heap.size + 1, 5, none⟩ = some (.int .u64 0) := (hb1.cell (p := ⟨w.heap.size + 1, 5, none⟩) (by first | omega | (simp; done) | (simp; omega))).trans (cellOld (by first | omega | (simp; done) | (simp; omega)) (cellNew (by simp) rfl))
        have r6 : w1.cell? ⟨w.heap.size + 1, 6, none⟩ = some (.int .u64 0) := (hb1.cell (p := ⟨w.heap.size + 1, 6, none⟩) (by first | omega | (simp; done) | (simp; omega))).trans (cellOld (by first | omega | (simp; done) | (simp; omega)) (cellNew (by simp) rfl))
        have r7 : w1.cell? ⟨w.heap.size + 1, 7, none⟩ = some (.int .u64 0) := (hb1.cell (p := ⟨w.heap.size + 1, 7, none⟩) (by first | omega | (simp; done) | (simp; omega))).trans (cellOld (by first | omega | (simp; done) | (simp; omega)) (cellNew (by simp) rfl))
        have b0 : w1.cell? ⟨w.heap.size + 2, 0, none⟩ = some (.int .u64 0) := (hb1.cell (p := ⟨w.heap.size + 2, 0, none⟩) (by first | omega | (simp; done) | (simp; omega))).trans (cellNew (by simp) rfl)
        have b1 : w1.cell? ⟨w.heap.size + 2, 1, none⟩ = some (.int .u64 0) := (hb1.cell (p := ⟨w.heap.size + 2, 1, none⟩) (by first | omega | (simp; done) | (simp; omega))).trans (cellNew (by simp) rfl)
        have b2 : w1.cell? ⟨w.heap.size + 2, 2, none⟩ = some (.int .u64 0) := (hb1.cell (p := ⟨w.heap.size + 2, 2, none⟩) (by first | omega | (simp; done) | (simp; omega))).trans (cellNew (by simp) rfl)
        have b3 : w1.cell? ⟨w.heap.size + 2, 3, none⟩ = some (.int .u64 0) := (hb1.cell (p := ⟨w.heap.size + 2, 3, none⟩) (by first | omega | (simp; done) | (simp; omega))).trans (cellNew (by simp) rfl)
        have b4 : w1.cell? ⟨w.heap.size + 2, 4, none⟩ = some (.int .u64 0) := (hb1.cell (p := ⟨w.heap.size + 2, 4, none⟩) (by first | omega | (simp; done) | (simp; omega))).trans (cellNew (by simp) rfl)
        have b5 : w1.cell? ⟨w.heap.size + 2, 5, none⟩ = some (.int .u64 0) := (hb1.cell (p := ⟨w.heap.size + 2, 5, none⟩) (by first | omega | (simp; done) | (simp; omega))).trans (cellNew (by simp) rfl)
        have b6 : w1.cell? ⟨w.heap.size + 2, 6, none⟩ = some (.int .u64 0) := (hb1.cell (p := ⟨w.heap.size + 2, 6, none⟩) (by first | omega | (simp; done) | (simp; omega))).trans (cellNew (by simp) rfl)
        have b7 : w1.cell? ⟨w.heap.size + 2, 7, none⟩ = some (.int .u64 0) := (hb1.cell (p := ⟨w.heap.size + 2, 7, none⟩) (by first | omega | (simp; done) | (simp; omega))).trans (cellNew (by simp) rfl)
        have hB1 : Below w.heap.size w w1 := bel
        have mm : ∀ o, w1.frozen? ⟨w.heap.size + 1, o, none⟩ = false := by intro o; rw [hb1.frozen (p := ⟨w.heap.size + 1, o, none⟩) (by first | omega | (simp; done) | (simp; omega)), frozen?_alloc_cells, frozen?_alloc_cells, frozen?_alloc_cells]; simp [World.frozen?]
        go_wp2_with fail
        exact bodyPost_ret (v := .tuple #[.agg #[.int .u64 0, .int .u64 0, .int .u64 0, .int .u64 0, .int .u64 0, .int .u64 0, .int .u64 0, .int .u64 0], .bool false]) (by simp [results, Try.results60, go_sem, r0, r1, r2, r3, r4, r5, r6, r7, z1, z1', z1'']) rfl ⟨rfl, ((((((((hB1.setCell (by show w.heap.size ≤ w.heap.size + 1; omega) _).setCell (by show w.heap.size ≤ w.heap.size + 1; omega) _).setCell (by show w.heap.size ≤ w.heap.size + 1; omega) _).setCell (by show w.heap.size ≤ w.heap.size + 1; omega) _).setCell (by show w.heap.size ≤ w.heap.size + 1; omega) _).setCell (by show w.heap.size ≤ w.heap.size + 1; omega) _).setCell (by show w.heap.size ≤ w.heap.size + 1; omega) _).setCell (by show w.heap.size ≤ w.heap.size + 1; omega) _)⟩
      · have h1 : u < 0 := by omega
        clear h ho hw h0
        have hn : ¬ (len : Int) = 0 := by omega
        go_enter Try.func60, Try.ntmps60
        go_wp2_with fail
        refine (placeWords t p s _).mono ?_
        rw [E.out]
        rintro e w1 ⟨rfl, hb1⟩
        have z1 : w.heap.size < w1.heap.size := by have := hb1.size; simp at this; omega
        have z1' : w.heap.size + 1 < w1.heap.size := by have := hb1.size; simp at this; omega
        have z1'' : w.heap.size + 2 < w1.heap.size := by have := hb1.size; simp at this; omega
        have q0 : w1.cell? ⟨w.heap.size, 0, none⟩ = some (.int .i64 t) := (hb1.cell (p := ⟨w.heap.size, 0, none⟩) (by first | omega | (simp; done) | (simp; omega))).trans (cellOld (by first | omega | (simp; done) | (simp; omega)) (cellOld (by first | omega | (simp; done) | (simp; omega)) (cellNew rfl rfl)))
        have q1 : w1.cell? ⟨w.heap.size, 1, none⟩ = some (.int .i64 p) := (hb1.cell (p := ⟨w.heap.size, 1, none⟩) (by first | omega | (simp; done) | (simp; omega))).trans (cellOld (by first | omega | (simp; done) | (simp; omega)) (cellOld (by first | omega | (simp; done) | (simp; omega)) (cellNew rfl rfl)))
        have q2 : w1.cell? ⟨w.heap.size, 2, none⟩ = some (.int .i64 s) := (hb1.cell (p := ⟨w.heap.size, 2, none⟩) (by first | omega | (simp; done) | (simp; omega))).trans (cellOld (by first | omega | (simp; done) | (simp; omega)) (cellOld (by first | omega | (simp; done) | (simp; omega)) (cellNew rfl rfl)))
        have r0 : w1.cell? ⟨w.heap.size + 1, 0, none⟩ = some (.int .u64 0) := (hb1.cell (p := ⟨w.heap.size + 1, 0, none⟩) (by first | omega | (simp; done) | (simp; omega))).trans (cellOld (by first | omega | (simp; done) | (simp; omega)) (cellNew (by simp) rfl))
        have r1 : w1.cell? ⟨w.heap.size + 1, 1, none⟩ = some (.int .u64 0) := (hb1.cell (p := ⟨w.heap.size + 1, 1, none⟩) (by first | omega | (simp; done) | (simp; omega))).trans (cellOld (by first | omega | (simp; done) | (simp; omega)) (cellNew (by simp) rfl))
        have r2 : w1.cell? ⟨w.heap.size + 1, 2, none⟩ = some (.int .u64 0) := (hb1.cell (p := ⟨w.heap.size + 1, 2, none⟩) (by first | omega | (simp; done) | (simp; omega))).trans (cellOld (by first | omega | (simp; done) | (simp; omega)) (cellNew (by simp) rfl))
        have r3 : w1.cell? ⟨w.heap.size + 1, 3, none⟩ = some (.int .u64 0) := (hb1.cell (p := ⟨w.heap.size + 1, 3, none⟩) (by first | omega | (simp; done) | (simp; omega))).trans (cellOld (by first | omega | (simp; done) | (simp; omega)) (cellNew (by simp) rfl))
        have r4 : w1.cell? ⟨w.heap.size + 1, 4, none⟩ = some (.int .u64 0) := (hb1.cell (p := ⟨w.heap.size + 1, 4, none⟩) (by first | omega | (simp; done) | (simp; omega))).trans (cellOld (by first | omega | (simp; done) | (simp; omega)) (cellNew (by simp) rfl))
        have r5 : w1.cell? ⟨w.heap.size + 1, 5, none⟩ = some (.int .u64 0) := (hb1.cell (p := ⟨w.heap.size + 1, 5, none⟩) (by first | omega | (simp; done) | (simp; omega))).trans (cellOld (by first | omega | (simp; done) | (simp; omega)) (cellNew (by simp) rfl))
        have r6 : w1.cell? ⟨w.heap.size + 1, 6, none⟩ = some (.int .u64 0) := (hb1.cell (p := ⟨w.heap.size + 1, 6, none⟩) (by first | omega | (simp; done) | (simp; omega))).trans (cellOld (by first | omega | (simp; done) | (simp; omega)) (cellNew (by simp) rfl))
        have r7 : w1.cell? ⟨w.heap.size + 1, 7, none⟩ = some (.int .u64 0) := (hb1.cell (p := ⟨w.heap.size + 1, 7, none⟩) (by first | omega | (simp; done) | (simp; omega))).trans (cellOld (by first | omega | (simp; done) | (simp; omega)) (cellNew (by simp) rfl))
        have b0 : w1.cell? ⟨w.heap.size + 2, 0, none⟩ = some (.int .u64 0) := (hb1.cell (p := ⟨w.heap.size + 2, 0, none⟩) (by first | omega | (simp; done) | (simp; omega))).trans (cellNew (by simp) rfl)
        have b1 : w1.cell? ⟨w.heap.size + 2, 1, none⟩ = some (.int .u64 0) := (hb1.cell (p := ⟨w.heap.size + 2, 1, none⟩) (by first | omega | (simp; done) | (simp; omega))).trans (cellNew (by simp) rfl)
        have b2 : w1.cell? ⟨w.heap.size + 2, 2, none⟩ = some (.int .u64 0) := (hb1.cell (p := ⟨w.heap.size + 2, 2, none⟩) (by first | omega | (simp; done) | (simp; omega))).trans (cellNew (by simp) rfl)
        have b3 : w1.cell? ⟨w.heap.size + 2, 3, none⟩ = some (.int .u64 0) := (hb1.cell (p := ⟨w.heap.size + 2, 3, none⟩) (by first | omega | (simp; done) | (simp; omega))).trans (cellNew (by simp) rfl)
        have b4 : w1.cell? ⟨w.heap.size + 2, 4, none⟩ = some (.int .u64 0) := (hb1.cell (p := ⟨w.heap.size + 2, 4, none⟩) (by first | omega | (simp; done) | (simp; omega))).trans (cellNew (by simp) rfl)
        have b5 : w1.cell? ⟨w.heap.size + 2, 5, none⟩ = some (.int .u64 0) := (hb1.cell (p := ⟨w.heap.size + 2, 5, none⟩) (by first | omega | (simp; done) | (simp; omega))).trans (cellNew (by simp) rfl)
        have b6 : w1.cell? ⟨w.heap.size + 2, 6, none⟩ = some (.int .u64 0) := (hb1.cell (p := ⟨w.heap.size + 2, 6, none⟩) (by first | omega | (simp; done) | (simp; omega))).trans (cellNew (by simp) rfl)
        have b7 : w1.cell? ⟨w.heap.size + 2, 7, none⟩ = some (.int .u64 0) := (hb1.cell (p := ⟨w.heap.size + 2, 7, none⟩) (by first | omega | (simp; done) | (simp; omega))).trans (cellNew (by simp) rfl)
        have hB1 : Below w.heap.size w w1 := bel
        have mm : ∀ o, w1.frozen? ⟨w.heap.size + 1, o, none⟩ = false := by intro o; rw [hb1.frozen (p := ⟨w.heap.size + 1, o, none⟩) (by first | omega | (simp; done) | (simp; omega)), frozen?_alloc_cells, frozen?_alloc_cells, frozen?_alloc_cells]; simp [World.frozen?]
        go_wp2_with fail
        exact bodyPost_ret (v := .tuple #[.agg #[.int .u64 0, .int .u64 0, .int .u64 0, .int .u64 0, .int .u64 0, .int .u64 0, .int .u64 0, .int .u64 0], .bool false]) (by simp [results, Try.results60, go_sem, r0, r1, r2, r3, r4, r5, r6, r7, z1, z1', z1'']) rfl ⟨rfl, ((((((((hB1.setCell (by show w.heap.size ≤ w.heap.size + 1; omega) _).setCell (by show w.heap.size ≤ w.heap.size + 1; omega) _).setCell (by show w.heap.size ≤ w.heap.size + 1; omega) _).setCell (by show w.heap.size ≤ w.heap.size + 1; omega) _).setCell (by show w.heap.size ≤ w.heap.size + 1; omega) _).setCell (by show w.heap.size ≤ w.heap.size + 1; omega) _).setCell (by show w.heap.size ≤ w.heap.size + 1; omega) _).setCell (by show w.heap.size ≤ w.heap.size + 1; omega) _)⟩
    · clear h
      have PW := hidAll fun w => placeWords t p s w
      have hn : ¬ (len : Int) = 0 := by omega
      generalize wordsC t p s = n at hw PW
      have d : ((len : Int) != n) = true := by rw [bne_iff_ne]; exact fun h => hw h.symm
      go_enter Try.func60, Try.ntmps60
      go_wp2_with fail
      refine (PW.out _).mono ?_
      rintro e w1 ⟨rfl, hb1⟩
      have z1 : w.heap.size < w1.heap.size := by have := hb1.size; simp at this; omega
      have z1' : w.heap.size + 1 < w1.heap.size := by have := hb1.size; simp at this; omega
      have z1'' : w.heap.size + 2 < w1.heap.size := by have := hb1.size; simp at this; omega
      have q0 : w1.cell? ⟨w.heap.size, 0, none⟩ = some (.int .i64 t) := (hb1.cell (p := ⟨w.heap.size, 0, none⟩) (by first | omega | (simp; done) | (simp; omega))).trans (cellOld (by first | omega | (simp; done) | (simp; omega)) (cellOld (by first | omega | (simp; done) | (simp; omega)) (cellNew rfl rfl)))
      have q1 : w1.cell? ⟨w.heap.size, 1, none⟩ = some (.int .i64 p) := (hb1.cell (p := ⟨w.heap.size, 1, none⟩) (by first | omega | (simp; done) | (simp; omega))).trans (cellOld (by first | omega | (simp; done) | (simp; omega)) (cellOld (by first | omega | (simp; done) | (simp; omega)) (cellNew rfl rfl)))
      have q2 : w1.cell? ⟨w.heap.size, 2, none⟩ = some (.int .i64 s) := (hb1.cell (p := ⟨w.heap.size, 2, none⟩) (by first | omega | (simp; done) | (simp; omega))).trans (cellOld (by first | omega | (simp; done) | (simp; omega)) (cellOld (by first | omega | (simp; done) | (simp; omega)) (cellNew rfl rfl)))
      have r0 : w1.cell? ⟨w.heap.size + 1, 0, none⟩ = some (.int .u64 0) := (hb1.cell (p := ⟨w.heap.size + 1, 0, none⟩) (by first | omega | (simp; done) | (simp; omega))).trans (cellOld (by first | omega | (simp; done) | (simp; omega)) (cellNew (by simp) rfl))
      have r1 : w1.cell? ⟨w.heap.size + 1, 1, none⟩ = some (.int .u64 0) := (hb1.cell (p := ⟨w.heap.size + 1, 1, none⟩) (by first | omega | (simp; done) | (simp; omega))).trans (cellOld (by first | omega | (simp; done) | (simp; omega)) (cellNew (by simp) rfl))
      have r2 : w1.cell? ⟨w.heap.size + 1, 2, none⟩ = some (.int .u64 0) := (hb1.cell (p := ⟨w.heap.size + 1, 2, none⟩) (by first | omega | (simp; done) | (simp; omega))).trans (cellOld (by first | omega | (simp; done) | (simp; omega)) (cellNew (by simp) rfl))
      have r3 : w1.cell? ⟨w.heap.size + 1, 3, none⟩ = some (.int .u64 0) := (hb1.cell (p := ⟨w.heap.size + 1, 3, none⟩) (by first | omega | (simp; done) | (simp; omega))).trans (cellOld (by first | omega | (simp; done) | (simp; omega)) (cellNew (by simp) rfl))
      have r4 : w1.cell? ⟨w.heap.size + 1, 4, none⟩ = some (.int .u64 0) := (hb1.cell (p := ⟨w.heap.size + 1, 4, none⟩) (by first | omega | (simp; done) | (simp; omega))).trans (cellOld (by first | omega | (simp; done) | (simp; omega)) (cellNew (by simp) rfl))
      have r5 : w1.cell? ⟨w.heap.size + 1, 5, none⟩ = some (.int .u64 0) := (hb1.cell (p := ⟨w.heap.size + 1, 5, none⟩) (by first | omega | (simp; done) | (simp; omega))).trans (cellOld (by first | omega | (simp; done) | (simp; omega)) (cellNew (by simp) rfl))
      have r6 : w1.cell? ⟨w.heap.size + 1, 6, none⟩ = some (.int .u64 0) := (hb1.cell (p := ⟨w.heap.size + 1, 6, none⟩) (by first | omega | (simp; done) | (simp; omega))).trans (cellOld (by first | omega | (simp; done) | (simp; omega)) (cellNew (by simp) rfl))
      have r7 : w1.cell? ⟨w.heap.size + 1, 7, none⟩ = some (.int .u64 0) := (hb1.cell (p := ⟨w.heap.size + 1, 7, none⟩) (by first | omega | (simp; done) | (simp; omega))).trans (cellOld (by first | omega | (simp; done) | (simp; omega)) (cellNew (by simp) rfl))
      have b0 : w1.cell? ⟨w.heap.size + 2, 0, none⟩ = some (.int .u64 0) := (hb1.cell (p := ⟨w.heap.size + 2, 0, none⟩) (by first | omega | (simp; done) | (simp; omega))).trans (cellNew (by simp) rfl)
      have b1 : w1.cell? ⟨w.heap.size + 2, 1, none⟩ = some (.int .u64 0) := (hb1.cell (p := ⟨w.heap.size + 2, 1, none⟩) (by first | omega | (simp; done) | (simp; omega))).trans (cellNew (by simp) rfl)
      have b2 : w1.cell? ⟨w.heap.size + 2, 2, none⟩ = some (.int .u64 0) := (hb1.cell (p := ⟨w.heap.size + 2, 2, none⟩) (by first | omega | (simp; done) | (simp; omega))).trans (cellNew (by simp) rfl)
      have b3 : w1.cell? ⟨w.heap.size + 2, 3, none⟩ = some (.int .u64 0) := (hb1.cell (p := ⟨w.heap.size + 2, 3, none⟩) (by first | omega | (simp; done) | (simp; omega))).trans (cellNew (by simp) rfl)
      have b4 : w1.cell? ⟨w.heap.size + 2, 4, none⟩ = some (.int .u64 0) := (hb1.cell (p := ⟨w.heap.size + 2, 4, none⟩) (by first | omega | (simp; done) | (simp; omega))).trans (cellNew (by simp) rfl)
      have b5 : w1.cell? ⟨w.heap.size + 2, 5, none⟩ = some (.int .u64 0) := (hb1.cell (p := ⟨w.heap.size + 2, 5, none⟩) (by first | omega | (simp; done) | (simp; omega))).trans (cellNew (by simp) rfl)
      have b6 : w1.cell? ⟨w.heap.size + 2, 6, none⟩ = some (.int .u64 0) := (hb1.cell (p := ⟨w.heap.size + 2, 6, none⟩) (by first | omega | (simp; done) | (simp; omega))).trans (cellNew (by simp) rfl)
      have b7 : w1.cell? ⟨w.heap.size + 2, 7, none⟩ = some (.int .u64 0) := (hb1.cell (p := ⟨w.heap.size + 2, 7, none⟩) (by first | omega | (simp; done) | (simp; omega))).trans (cellNew (by simp) rfl)
      have hB1 : Below w.heap.size w w1 := bel
      have mm : ∀ o, w1.frozen? ⟨w.heap.size + 1, o, none⟩ = false := by intro o; rw [hb1.frozen (p := ⟨w.heap.size + 1, o, none⟩) (by first | omega | (simp; done) | (simp; omega)), frozen?_alloc_cells, frozen?_alloc_cells, frozen?_alloc_cells]; simp [World.frozen?]
      go_wp2_with fail
      exact bodyPost_ret (v := .tuple #[.agg #[.int .u64 0, .int .u64 0, .int .u64 0, .int .u64 0, .int .u64 0, .int .u64 0, .int .u64 0, .int .u64 0], .bool false]) (by simp [results, Try.results60, go_sem, r0, r1, r2, r3, r4, r5, r6, r7, z1, z1', z1'']) rfl ⟨rfl, ((((((((hB1.setCell (by show w.heap.size ≤ w.heap.size + 1; omega) _).setCell (by show w.heap.size ≤ w.heap.size + 1; omega) _).setCell (by show w.heap.size ≤ w.heap.size + 1; omega) _).setCell (by show w.heap.size ≤ w.heap.size + 1; omega) _).setCell (by show w.heap.size ≤ w.heap.size + 1; omega) _).setCell (by show w.heap.size ≤ w.heap.size + 1; omega) _).setCell (by show w.heap.size ≤ w.heap.size + 1; omega) _).setCell (by show w.heap.size ≤ w.heap.size + 1; omega) _)⟩

set_option maxRecDepth 100000 in
set_option maxHeartbeats 3200000 in
theorem callOfYes (t p s u : Int) (w : World) (a : Option Addr) (len cap : Nat) (ws : List Nat) (hs : Seen .u64 w a len cap ws) (ho : okW t p s len) (h0 : 0 ≤ u) (h1 : u < t) :
    Calls Try.prog 60 #[.agg #[.int .i64 t, .int .i64 p, .int .i64 s], .slice a len cap, .int .i64 u] w fun e w' => e = .returned (.tuple #[.agg #[.int .u64 (cwN t p u ws 0 : Int), .int .u64 (cwN t p u ws 1 : Int), .int .u64 (cwN t p u ws 2 : Int), .int .u64 (cwN t p u ws 3 : Int), .int .u64 (cwN t p u ws 8 : Int), .int .u64 (cwN t p u ws 9 : Int), .int .u64 (cwN t p u ws 10 : Int), .int .u64 (cwN t p u ws 11 : Int)], .bool true]) ∧ Below w.heap.size w w' := by
  have hlen := hs.1
  have hlc := hs.2.1
  have hlm : cap ≤ maxLen := hs.2.2.1
  obtain ⟨ew, hb3, hb4⟩ := okW_words ho
  have E := hid ew
  obtain ⟨m1, m2, m3⟩ := mkI_bd ho h0 h1
  have CW0 := hid (show callW t p s u 0 = ((mkI t p u : Nat) : Int) by rw [callW, if_pos ⟨ho.1, ⟨h0, by omega⟩, by omega, by omega⟩, m1]; omega)
  have CW1 := hid (show callW t p s u 1 = ((mkI t p u + 8 : Nat) : Int) by rw [callW, if_pos ⟨ho.1, ⟨h0, by omega⟩, by omega, by omega⟩]; omega)
  obtain ⟨_, _, _, h4⟩ := id hs
  rcases h4 with ⟨h4, _⟩ | ⟨b0, off, rfl, hc⟩
  · omega
  have get : ∀ k, k < 240 → w.cell? ⟨b0, off + mkI t p u + k, none⟩ = some (.int .u64 (cwN t p u ws k : Int)) := fun k hk => by
    rw [Nat.add_assoc]; exact hc (mkI t p u + k) (by omega)
  have hb0 : b0 < w.heap.size := World.block_lt_of_cell? w _ (get 0 (by omega))
  have S0 := hid (show w.cell? ⟨b0, off + mkI t p u, none⟩ = some (.int .u64 (cwN t p u ws 0 : Int)) ∧ w.cell? ⟨b0, off + mkI t p u + 1, none⟩ = some (.int .u64 (cwN t p u ws 1 : Int)) ∧ w.cell? ⟨b0, off + mkI t p u + 2, none⟩ = some (.int .u64 (cwN t p u ws 2 : Int)) ∧ w.cell? ⟨b0, off + mkI t p u + 3, none⟩ = some (.int .u64 (cwN t p u ws 3 : Int)) from ⟨get 0 (by omega), get 1 (by omega), get 2 (by omega), get 3 (by omega)⟩)
  have S1 := hid (show w.cell? ⟨b0, off + (mkI t p u + 8), none⟩ = some (.int .u64 (cwN t p u ws 8 : Int)) ∧ w.cell? ⟨b0, off + (mkI t p u + 8) + 1, none⟩ = some (.int .u64 (cwN t p u ws 9 : Int)) ∧ w.cell? ⟨b0, off + (mkI t p u + 8) + 2, none⟩ = some (.int .u64 (cwN t p u ws 10 : Int)) ∧ w.cell? ⟨b0, off + (mkI t p u + 8) + 3, none⟩ = some (.int .u64 (cwN t p u ws 11 : Int)) from ⟨get 8 (by omega), get 9 (by omega), get 10 (by omega), get 11 (by omega)⟩)
  clear ho hs hc get m1 ew hlen
  have hn : ¬ (len : Int) = 0 := by omega
  generalize cwN t p u ws 0 = x0 at *
  generalize cwN t p u ws 1 = x1 at *
  generalize cwN t p u ws 2 = x2 at *
  generalize cwN t p u ws 3 = x3 at *
  generalize cwN t p u ws 8 = y0 at *
  generalize cwN t p u ws 9 = y1 at *
  generalize cwN t p u ws 10 = y2 at *
  generalize cwN t p u ws 11 = y3 at *
  generalize mkI t p u = c at *
  have d0 : decide (u < 0) = false := by simp; omega
  have d1 : decide (t ≤ u) = false := by simp; omega
  have dl : ((len : Int) == 0) = false := by rw [beq_eq_false_iff_ne]; omega
  go_enter Try.func60, Try.ntmps60
  go_wp2_with fail
  refine (placeWords t p s _).mono ?_
  rw [E.out]
  rintro e w1 ⟨rfl, hb1⟩
  have z1 : w.heap.size < w1.heap.size := by have := hb1.size; simp at this; omega
  have z1' : w.heap.size + 1 < w1.heap.size := by have := hb1.size; simp at this; omega
  have z1'' : w.heap.size + 2 < w1.heap.size := by have := hb1.size; simp at this; omega
  have q0 : w1.cell? ⟨w.heap.size, 0, none⟩ = some (.int .i64 t) := (hb1.cell (p := ⟨w.heap.size, 0, none⟩) (by first | omega | (simp; done) | (simp; omega))).trans (cellOld (by first | omega | (simp; done) | (simp; omega)) (cellOld (by first | omega | (simp; done) | (simp; omega)) (cellNew rfl rfl)))
  have q1 : w1.cell? ⟨w.heap.size, 1, none⟩ = some (.int .i64 p) := (hb1.cell (p := ⟨w.heap.size, 1, none⟩) (by first | omega | (simp; done) | (simp; omega))).trans (cellOld (by first | omega | (simp; done) | (simp; omega)) (cellOld (by first | omega | (simp; done) | (simp; omega)) (cellNew rfl rfl)))
  have q2 : w1.cell? ⟨w.heap.size, 2, none⟩ = some (.int .i64 s) := (hb1.cell (p := ⟨w.heap.size, 2, none⟩) (by first | omega | (simp; done) | (simp; omega))).trans (cellOld (by first | omega | (simp; done) | (simp; omega)) (cellOld (by first | omega | (simp; done) | (simp; omega)) (cellNew rfl rfl)))
  have r0 : w1.cell? ⟨w.heap.size + 1, 0, none⟩ = some (.int .u64 0) := (hb1.cell (p := ⟨w.heap.size + 1, 0, none⟩) (by first | omega | (simp; done) | (simp; omega))).trans (cellOld (by first | omega | (simp; done) | (simp; omega)) (cellNew (by simp) rfl))
  have r1 : w1.cell? ⟨w.heap.size + 1, 1, none⟩ = some (.int .u64 0) := (hb1.cell (p := ⟨w.heap.size + 1, 1, none⟩) (by first | omega | (simp; done) | (simp; omega))).trans (cellOld (by first | omega | (simp; done) | (simp; omega)) (cellNew (by simp) rfl))
  have r2 : w1.cell? ⟨w.heap.size + 1, 2, none⟩ = some (.int .u64 0) := (hb1.cell (p := ⟨w.heap.size + 1, 2, none⟩) (by first | omega | (simp; done) | (simp; omega))).trans (cellOld (by first | omega | (simp; done) | (simp; omega)) (cellNew (by simp) rfl))
  have r3 : w1.cell? ⟨w.heap.size + 1, 3, none⟩ = some (.int .u64 0) := (hb1.cell (p := ⟨w.heap.size + 1, 3, none⟩) (by first | omega | (simp; done) | (simp; omega))).trans (cellOld (by first | omega | (simp; done) | (simp; omega)) (cellNew (by simp) rfl))
  have r4 : w1.cell? ⟨w.heap.size + 1, 4, none⟩ = some (.int .u64 0) := (hb1.cell (p := ⟨w.heap.size + 1, 4, none⟩) (by first | omega | (simp; done) | (simp; omega))).trans (cellOld (by first | omega | (simp; done) | (simp; omega)) (cellNew (by simp) rfl))
  have r5 : w1.cell? ⟨w.heap.size + 1, 5, none⟩ = some (.int .u64 0) := (hb1.cell (p := ⟨w.heap.size + 1, 5, none⟩) (by first | omega | (simp; done) | (simp; omega))).trans (cellOld (by first | omega | (simp; done) | (simp; omega)) (cellNew (by simp) rfl))
  have r6 : w1.cell? ⟨w.heap.size + 1, 6, none⟩ = some (.int .u64 0) := (hb1.cell (p := ⟨w.heap.size + 1, 6, none⟩) (by first | omega | (simp; done) | (simp; omega))).trans (cellOld (by first | omega | (simp; done) | (simp; omega)) (cellNew (by simp) rfl))
  have r7 : w1.cell? ⟨w.heap.size + 1, 7, none⟩ = some (.int .u64 0) := (hb1.cell (p := ⟨w.heap.size + 1, 7, none⟩) (by first | omega | (simp; done) | (simp; omega))).trans (cellOld (by first | omega | (simp; done) | (simp; omega)) (cellNew (by simp) rfl))
  have b0 : w1.cell? ⟨w.heap.size + 2, 0, none⟩ = some (.int .u64 0) := (hb1.cell (p := ⟨w.heap.size + 2, 0, none⟩) (by first | omega | (simp; done) | (simp; omega))).trans (cellNew (by simp) rfl)
  have b1 : w1.cell? ⟨w.heap.size + 2, 1, none⟩ = some (.int .u64 0) := (hb1.cell (p := ⟨w.heap.size + 2, 1, none⟩) (by first | omega | (simp; done) | (simp; omega))).trans (cellNew (by simp) rfl)
  have b2 : w1.cell? ⟨w.heap.size + 2, 2, none⟩ = some (.int .u64 0) := (hb1.cell (p := ⟨w.heap.size + 2, 2, none⟩) (by first | omega | (simp; done) | (simp; omega))).trans (cellNew (by simp) rfl)
  have b3 : w1.cell? ⟨w.heap.size + 2, 3, none⟩ = some (.int .u64 0) := (hb1.cell (p := ⟨w.heap.size + 2, 3, none⟩) (by first | omega | (simp; done) | (simp; omega))).trans (cellNew (by simp) rfl)
  have b4 : w1.cell? ⟨w.heap.size + 2, 4, none⟩ = some (.int .u64 0) := (hb1.cell (p := ⟨w.heap.size + 2, 4, none⟩) (by first | omega | (simp; done) | (simp; omega))).trans (cellNew (by simp) rfl)
  have b5 : w1.cell? ⟨w.heap.size + 2, 5, none⟩ = some (.int .u64 0) := (hb1.cell (p := ⟨w.heap.size + 2, 5, none⟩) (by first | omega | (simp; done) | (simp; omega))).trans (cellNew (by simp) rfl)
  have b6 : w1.cell? ⟨w.heap.size + 2, 6, none⟩ = some (.int .u64 0) := (hb1.cell (p := ⟨w.heap.size + 2, 6, none⟩) (by first | omega | (simp; done) | (simp; omega))).trans (cellNew (by simp) rfl)
  have b7 : w1.cell? ⟨w.heap.size + 2, 7, none⟩ = some (.int .u64 0) := (hb1.cell (p := ⟨w.heap.size + 2, 7, none⟩) (by first | omega | (simp; done) | (simp; omega))).trans (cellNew (by simp) rfl)
  have hB1 : Below w.heap.size w w1 := bel
  have mm : ∀ o, w1.frozen? ⟨w.heap.size + 1, o, none⟩ = false := by intro o; rw [hb1.frozen (p := ⟨w.heap.size + 1, o, none⟩) (by first | omega | (simp; done) | (simp; omega)), frozen?_alloc_cells, frozen?_alloc_cells, frozen?_alloc_cells]; simp [World.frozen?]
  have hg0 : w1.heap[w.heap.size + 2]? = some (.cells (outL x0 x1 x2 x3 y0 y1 y2 y3 0).toArray 95 (0, 0)) := (hb1.block (w.heap.size + 2) (by simp)).trans (by
    have hsz : ((w.alloc (.cells #[.int .i64 t, .int .i64 p, .int .i64 s] 23)).alloc (.cells #[.int .u64 0, .int .u64 0, .int .u64 0, .int .u64 0, .int .u64 0, .int .u64 0, .int .u64 0, .int .u64 0] 95)).heap.size = w.heap.size + 2 := by simp
    have h := heap_alloc_new ((w.alloc (.cells #[.int .i64 t, .int .i64 p, .int .i64 s] 23)).alloc (.cells #[.int .u64 0, .int .u64 0, .int .u64 0, .int .u64 0, .int .u64 0, .int .u64 0, .int .u64 0, .int .u64 0] 95)) (.cells #[.int .u64 0, .int .u64 0, .int .u64 0, .int .u64 0, .int .u64 0, .int .u64 0, .int .u64 0, .int .u64 0] 95)
    rw [hsz] at h
    exact h)
  have HG0 := hid hg0
  clear hb1 hg0 b0 b1 b2 b3 b4 b5 b6 b7
  obtain ⟨gz0, gz⟩ : w.heap.size < w.heap.size + 2 ∧ w.heap.size + 1 < w.heap.size + 2 := by omega
  generalize w.heap.size + 2 = g at *
  go_wp2_with fail
  go_loopw [31] (fun i wr => ∃ k : Nat, k ≤ 2 ∧ i = .int .i64 k ∧ RowKit.Hid (wr.heap[g]? = some (.cells (outL x0 x1 x2 x3 y0 y1 y2 y3 k).toArray 95 (0, 0))) ∧ Below (g) w1 wr ∧ g < wr.heap.size) (fun i _ => 2 - (intOf i).toNat)
  case atStart => exact ⟨0, by omega, rfl, HG0, Below.refl _ _, z1''⟩
  case round =>
    obtain ⟨k, hk, rfl, hg, hB, hz⟩ := hrel
    have zr : w.heap.size < wr.heap.size := by omega
    have zr' : w.heap.size + 1 < wr.heap.size := by omega
    have Q0 : wr.cell? ⟨w.heap.size, 0, none⟩ = some (.int .i64 t) := (hB.cell (p := ⟨w.heap.size, 0, none⟩) gz0).trans q0
    have Q1 : wr.cell? ⟨w.heap.size, 1, none⟩ = some (.int .i64 p) := (hB.cell (p := ⟨w.heap.size, 1, none⟩) gz0).trans q1
    have Q2 : wr.cell? ⟨w.heap.size, 2, none⟩ = some (.int .i64 s) := (hB.cell (p := ⟨w.heap.size, 2, none⟩) gz0).trans q2
    have hk3 : k = 0 ∨ k = 1 ∨ k = 2 := by omega
    rcases hk3 with rfl | rfl | rfl
    · clear r0 r1 r2 r3 r4 r5 r6 r7 mm HG0
      go_wp2_with fail
      have zd : wr.drew.heap.size = wr.heap.size := rfl
      have sl := slice1 b0 off len cap c (by omega) (by omega)
      go_upto_region 7 with (fail)
      go_region_held3 (fun w' => (w'.cell? ⟨w.heap.size, 0, none⟩ = some (.int .i64 t) ∧ w'.cell? ⟨w.heap.size, 1, none⟩ = some (.int .i64 p) ∧ w'.cell? ⟨w.heap.size, 2, none⟩ = some (.int .i64 s)) ∧ w.heap.size < w'.heap.size)
        (((go_split_ands); (try dsimp only); (repeat' apply And.intro); (all_goals first | assumption | omega | (simp; omega) | go_keep)))
        (first
          | (go_at_call 68; refine (placeCall t p s u 0 _).mono ?_; rw [CW0.out]; rintro e wx ⟨rfl, hbx⟩; (try go_split_ands); obtain ⟨hcx, hfx, hzx⟩ := after hbx; have zx : w.heap.size < wx.heap.size := (by omega); have yy0 : wx.cell? ⟨w.heap.size, 0, none⟩ = some (.int .i64 t) := (hcx _ _ (by first | assumption | omega)).trans (by first | assumption | go_keep); have yy1 : wx.cell? ⟨w.heap.size, 1, none⟩ = some (.int .i64 p) := (hcx _ _ (by first | assumption | omega)).trans (by first | assumption | go_keep); have yy2 : wx.cell? ⟨w.heap.size, 2, none⟩ = some (.int .i64 s) := (hcx _ _ (by first | assumption | omega)).trans (by first | assumption | go_keep); have hgx := hid ((hbx.block (g) (by omega)).trans hg.out); have hBx : Below (g) w1 wx := (hB.drew).trans (hbx.mono (by omega)); have hBwx : Below w.heap.size w wx := hB1.trans (hBx.mono (by omega)))
          | (refine step_copy_splice rfl (.tmp 36) (.tmp 42) 24 24 rfl 46 Try.underlying24 (by kernel_rfl) _ _ _ _ _ _ rfl rfl (g) 0 (outL x0 x1 x2 x3 y0 y1 y2 y3 0) 95 hgx.out [.int .u64 (x0 : Int), .int .u64 (x1 : Int), .int .u64 (x2 : Int), .int .u64 (x3 : Int)] (show 4 = min (len - (c)) 4 by omega) (fun _ => ⟨rfl, ⟨b0, off + (c), none⟩, rfl, src4 ((hBwx.cell (p := ⟨b0, off + (c), none⟩) hb0).trans S0.out.1) ((hBwx.cell (p := ⟨b0, off + (c) + 1, none⟩) hb0).trans S0.out.2.1) ((hBwx.cell (p := ⟨b0, off + (c) + 2, none⟩) hb0).trans S0.out.2.2.1) ((hBwx.cell (p := ⟨b0, off + (c) + 3, none⟩) hb0).trans S0.out.2.2.2)⟩) (show 0 + 4 ≤ 8 by omega) (by intro v hv; simp at hv; rcases hv with rfl | rfl | rfl | rfl <;> rfl) (g) w1 hBx (Nat.le_refl _) ?_; intro wy hgy hby; have zy : w.heap.size < wy.heap.size := (by have := hby.size; omega); have yy0 : wy.cell? ⟨w.heap.size, 0, none⟩ = some (.int .i64 t) := (hby.cell (p := ⟨w.heap.size, 0, none⟩) gz0).trans q0; have yy1 : wy.cell? ⟨w.heap.size, 1, none⟩ = some (.int .i64 p) := (hby.cell (p := ⟨w.heap.size, 1, none⟩) gz0).trans q1; have yy2 : wy.cell? ⟨w.heap.size, 2, none⟩ = some (.int .i64 s) := (hby.cell (p := ⟨w.heap.size, 2, none⟩) gz0).trans q2))
      all_goals
        go_wp2_with fail
        go_roundw
        case rel => exact ⟨1, by omega, by go_num, hid (hgy.out.trans rfl), hby, by have := hby.size; omega⟩
        case measure => simp [intOf]
    · clear r0 r1 r2 r3 r4 r5 r6 r7 mm HG0
      go_wp2_with fail
      have zd : wr.drew.heap.size = wr.heap.size := rfl
      have sl : ∀ W, (Instr.slice 24 (.slice (some ⟨b0, off, none⟩) len cap) (some (.int .i64 ((c : Int) + 8))) none none).run Try.prog W = .ok (.slice (some ⟨b0, off + (c + 8), none⟩) (len - (c + 8)) (cap - (c + 8))) W := fun W => (slice1 b0 off len cap (c + 8) (by omega) (by omega) W)
      go_upto_region 7 with (fail)
      go_region_held3 (fun w' => (w'.cell? ⟨w.heap.size, 0, none⟩ = some (.int .i64 t) ∧ w'.cell? ⟨w.heap.size, 1, none⟩ = some (.int .i64 p) ∧ w'.cell? ⟨w.heap.size, 2, none⟩ = some (.int .i64 s)) ∧ w.heap.size < w'.heap.size)
        (((go_split_ands); (try dsimp only); (repeat' apply And.intro); (all_goals first | assumption | omega | (simp; omega) | go_keep)))
        (first
          | (go_at_call 68; refine (placeCall t p s u 1 _).mono ?_; rw [CW1.out]; rintro e wx ⟨rfl, hbx⟩; (try go_split_ands); obtain ⟨hcx, hfx, hzx⟩ := after hbx; have zx : w.heap.size < wx.heap.size := (by omega); have yy0 : wx.cell? ⟨w.heap.size, 0, none⟩ = some (.int .i64 t) := (hcx _ _ (by first | assumption | omega)).trans (by first | assumption | go_keep); have yy1 : wx.cell? ⟨w.heap.size, 1, none⟩ = some (.int .i64 p) := (hcx _ _ (by first | assumption | omega)).trans (by first | assumption | go_keep); have yy2 : wx.cell? ⟨w.heap.size, 2, none⟩ = some (.int .i64 s) := (hcx _ _ (by first | assumption | omega)).trans (by first | assumption | go_keep); have hgx := hid ((hbx.block (g) (by omega)).trans hg.out); have hBx : Below (g) w1 wx := (hB.drew).trans (hbx.mono (by omega)); have hBwx : Below w.heap.size w wx := hB1.trans (hBx.mono (by omega)))
          | (refine step_copy_splice rfl (.tmp 36) (.tmp 42) 24 24 rfl 46 Try.underlying24 (by kernel_rfl) _ _ _ _ _ _ rfl rfl (g) 4 (outL x0 x1 x2 x3 y0 y1 y2 y3 1) 95 hgx.out [.int .u64 (y0 : Int), .int .u64 (y1 : Int), .int .u64 (y2 : Int), .int .u64 (y3 : Int)] (show 4 = min (len - (c + 8)) 4 by omega) (fun _ => ⟨rfl, ⟨b0, off + (c + 8), none⟩, rfl, src4 ((hBwx.cell (p := ⟨b0, off + (c + 8), none⟩) hb0).trans S1.out.1) ((hBwx.cell (p := ⟨b0, off + (c + 8) + 1, none⟩) hb0).trans S1.out.2.1) ((hBwx.cell (p := ⟨b0, off + (c + 8) + 2, none⟩) hb0).trans S1.out.2.2.1) ((hBwx.cell (p := ⟨b0, off + (c + 8) + 3, none⟩) hb0).trans S1.out.2.2.2)⟩) (show 4 + 4 ≤ 8 by omega) (by intro v hv; simp at hv; rcases hv with rfl | rfl | rfl | rfl <;> rfl) (g) w1 hBx (Nat.le_refl _) ?_; intro wy hgy hby; have zy : w.heap.size < wy.heap.size := (by have := hby.size; omega); have yy0 : wy.cell? ⟨w.heap.size, 0, none⟩ = some (.int .i64 t) := (hby.cell (p := ⟨w.heap.size, 0, none⟩) gz0).trans q0; have yy1 : wy.cell? ⟨w.heap.size, 1, none⟩ = some (.int .i64 p) := (hby.cell (p := ⟨w.heap.size, 1, none⟩) gz0).trans q1; have yy2 : wy.cell? ⟨w.heap.size, 2, none⟩ = some (.int .i64 s) := (hby.cell (p := ⟨w.heap.size, 2, none⟩) gz0).trans q2))
      all_goals
        go_wp2_with fail
        go_roundw
        case rel => exact ⟨2, by omega, by go_num, hid (hgy.out.trans rfl), hby, by have := hby.size; omega⟩
        case measure => simp [intOf]
    · have f0 : ∀ j v, (outL x0 x1 x2 x3 y0 y1 y2 y3 2)[j]? = some v → wr.cell? ⟨g, j, none⟩ = some v := fun j v hv => by
        rw [cell_of_row wr (g) j _ _ (0, 0) hg.out]
        simpa using hv
      have e0 : wr.cell? ⟨g, 0, none⟩ = some (.int .u64 (x0 : Int)) := f0 0 _ rfl
      have e1 : wr.cell? ⟨g, 1, none⟩ = some (.int .u64 (x1 : Int)) := f0 1 _ rfl
      have e2 : wr.cell? ⟨g, 2, none⟩ = some (.int .u64 (x2 : Int)) := f0 2 _ rfl
      have e3 : wr.cell? ⟨g, 3, none⟩ = some (.int .u64 (x3 : Int)) := f0 3 _ rfl
      have e4 : wr.cell? ⟨g, 4, none⟩ = some (.int .u64 (y0 : Int)) := f0 4 _ rfl
      have e5 : wr.cell? ⟨g, 5, none⟩ = some (.int .u64 (y1 : Int)) := f0 5 _ rfl
      have e6 : wr.cell? ⟨g, 6, none⟩ = some (.int .u64 (y2 : Int)) := f0 6 _ rfl
      have e7 : wr.cell? ⟨g, 7, none⟩ = some (.int .u64 (y3 : Int)) := f0 7 _ rfl
      have R0 : wr.cell? ⟨w.heap.size + 1, 0, none⟩ = some (.int .u64 0) := (hB.cell (p := ⟨w.heap.size + 1, 0, none⟩) gz).trans r0
      have R1 : wr.cell? ⟨w.heap.size + 1, 1, none⟩ = some (.int .u64 0) := (hB.cell (p := ⟨w.heap.size + 1, 1, none⟩) gz).trans r1
      have R2 : wr.cell? ⟨w.heap.size + 1, 2, none⟩ = some (.int .u64 0) := (hB.cell (p := ⟨w.heap.size + 1, 2, none⟩) gz).trans r2
      have R3 : wr.cell? ⟨w.heap.size + 1, 3, none⟩ = some (.int .u64 0) := (hB.cell (p := ⟨w.heap.size + 1, 3, none⟩) gz).trans r3
      have R4 : wr.cell? ⟨w.heap.size + 1, 4, none⟩ = some (.int .u64 0) := (hB.cell (p := ⟨w.heap.size + 1, 4, none⟩) gz).trans r4
      have R5 : wr.cell? ⟨w.heap.size + 1, 5, none⟩ = some (.int .u64 0) := (hB.cell (p := ⟨w.heap.size + 1, 5, none⟩) gz).trans r5
      have R6 : wr.cell? ⟨w.heap.size + 1, 6, none⟩ = some (.int .u64 0) := (hB.cell (p := ⟨w.heap.size + 1, 6, none⟩) gz).trans r6
      have R7 : wr.cell? ⟨w.heap.size + 1, 7, none⟩ = some (.int .u64 0) := (hB.cell (p := ⟨w.heap.size + 1, 7, none⟩) gz).trans r7
      have MM : ∀ o, wr.frozen? ⟨w.heap.size + 1, o, none⟩ = false := fun o => (hB.frozen (p := ⟨w.heap.size + 1, o, none⟩) gz).trans (mm o)
      have hBw : Below w.heap.size w wr := hB1.trans (hB.mono (by omega))
      clear f0 hB hB1 r0 r1 r2 r3 r4 r5 r6 r7 mm HG0
      go_wp2_with fail
      exact bodyPost_ret (v := .tuple #[.agg #[.int .u64 (x0 : Int), .int .u64 (x1 : Int), .int .u64 (x2 : Int), .int .u64 (x3 : Int), .int .u64 (y0 : Int), .int .u64 (y1 : Int), .int .u64 (y2 : Int), .int .u64 (y3 : Int)], .bool true]) (by simp [results, Try.results60, go_sem, R0, R1, R2, R3, R4, R5, R6, R7, zr, zr']) rfl ⟨rfl, ((((((((hBw.setCell (by show w.heap.size ≤ w.heap.size + 1; omega) _).setCell (by show w.heap.size ≤ w.heap.size + 1; omega) _).setCell (by show w.heap.size ≤ w.heap.size + 1; omega) _).setCell (by show w.heap.size ≤ w.heap.size + 1; omega) _).setCell (by show w.heap.size ≤ w.heap.size + 1; omega) _).setCell (by show w.heap.size ≤ w.heap.size + 1; omega) _).setCell (by show w.heap.size ≤ w.heap.size + 1; omega) _).setCell (by show w.heap.size ≤ w.heap.size + 1; omega) _)⟩

theorem callNum (x0 x1 x2 x3 : Nat) (w : World) :
    Calls Try.prog 61 #[.agg #[.int .u64 (x0 : Int), .int .u64 (x1 : Int), .int .u64 (x2 : Int), .int .u64 (x3 : Int)]] w fun e w' => e = .returned (.int .i64 (numX x0 : Int)) ∧ Below w.heap.size w w' := by
  by_cases h : 2147483647 < x0
  · have N := hid (show numX x0 = 0 by rw [numX, if_pos h])
    go_enter Try.func61, Try.ntmps61
    go_wp2_with fail
    go_ret
    exact ⟨ret_int (by simp [N.out]), bel⟩
  · have N := hid (show numX x0 = x0 by rw [numX, if_neg h])
    have hh : x0 ≤ 2147483647 := by omega
    clear h
    go_enter Try.func61, Try.ntmps61
    go_wp2_with fail
    go_ret
    exact ⟨ret_int (by rw [N.out]), bel⟩
theorem arr3at (b : Nat) (W : World) : (Instr.arrayAt 103 (.slice (some ⟨b, 1, none⟩) 3 3)).run Try.prog W = .ok (.pointer (some ⟨b, 1, none⟩)) W := by kernel_rfl
theorem callOp (x0 x1 x2 x3 : Nat) (w : World) :
    Calls Try.prog 64 #[.agg #[.int .u64 (x0 : Int), .int .u64 (x1 : Int), .int .u64 (x2 : Int), .int .u64 (x3 : Int)]] w fun e w' => e = .returned (ofWords x1 x2 x3) ∧ Below w.heap.size w w' := by
  obtain ⟨k, a, b, c, hO⟩ : ∃ k a b c, ofWords x1 x2 x3 = .tuple #[.agg #[.int .i64 k, .int .i64 a, .int .i64 b], .bool c] := by
    unfold ofWords
    split
    · exact ⟨_, _, _, _, rfl⟩
    · exact ⟨_, _, _, _, rfl⟩
  have O := hid hO
  clear hO
  have AA := arr3at (w.heap.size)
  go_enter Try.func64, Try.ntmps64
  go_wp2_with fail
  refine (opOf x1 x2 x3 _).mono ?_
  rw [O.out]
  rintro e w1 ⟨rfl, hb1⟩
  obtain ⟨hc1, hf1, hz1⟩ := after hb1
  simp at hz1
  have z1 : w.heap.size + 1 < w1.heap.size := by omega
  have k0 : w1.cell? ⟨w.heap.size + 1, 0, none⟩ = some (.int .i64 0) := by rw [hc1 _ _ (by simp)]; exact cellNew (by simp) rfl
  have k1 : w1.cell? ⟨w.heap.size + 1, 1, none⟩ = some (.int .i64 0) := by rw [hc1 _ _ (by simp)]; exact cellNew (by simp) rfl
  have k2 : w1.cell? ⟨w.heap.size + 1, 2, none⟩ = some (.int .i64 0) := by rw [hc1 _ _ (by simp)]; exact cellNew (by simp) rfl
  have m1 : ∀ o, w1.frozen? ⟨w.heap.size + 1, o, none⟩ = false := by intro o; rw [hf1 _ _ (by simp)]; simp
  clear hc1 hf1
  go_wp2_with fail
  exact bodyPost_ret (v := .tuple #[.agg #[.int .i64 k, .int .i64 a, .int .i64 b], .bool c]) (by simp [results, Try.results64, go_sem, k0, k1, k2, z1]) rfl ⟨by rw [O.out], bel⟩
end Go.Proofs.Ytkkhoiahjmfibaa
