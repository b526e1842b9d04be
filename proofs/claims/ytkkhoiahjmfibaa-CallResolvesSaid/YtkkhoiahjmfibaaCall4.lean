/- The walks of package call: what was done, what became of an operation. -/
import Derived.Test.YtkkhoiahjmfibaaCall3
namespace Go.Proofs.Ytkkhoiahjmfibaa
open Go.RowKit
set_option linter.unusedVariables false
set_option linter.unusedSimpArgs false

def dvN (u : Int) (vs : List Nat) (k : Nat) : Nat := vs[(30 + 4 * u).toNat + k]?.getD 0
theorem slice1v (b o len cap c : Nat) (hc : c < cap) (hl : c ≤ len) (W : World) :
    (Instr.slice 41 (.slice (some ⟨b, o, none⟩) len cap) (some (.int .i64 (c : Int))) none none).run Try.prog W = .ok (.slice (some ⟨b, o + c, none⟩) (len - c) (cap - c)) W := by
  have ht : Try.prog.underlying 41 = some (.slice (Try.prog.elem 41)) := by simp [Program.elem, Try.underlying41]
  have hz : (Go.sizeOf (Try.prog.elem 41)).run Try.prog W = .ok 1 W := by kernel_rfl
  rw [run_slice_l W 41 _ _ _ ht .i64 _ (by omega) (by omega), hz]
  have h2 : ¬ cap = c := by omega
  simp [Result.andThen, sliced, h2, Addr.add]
theorem OptPost.open {T : TypeId} {k : IntKind} {w w' : World} {o : Option (List Nat)} {e : Ending} (h : OptPost T k w o e w') :
    ∃ a m cap, e = .returned (.tuple #[.slice a m cap, .bool o.isSome]) ∧ Own T k w' w.heap.size (.slice a m cap) (o.getD []) ∧ Below w.heap.size w w' := by
  rcases h with ⟨r, rfl, a, m, c, he, ho, hb⟩ | ⟨rfl, he, hb⟩
  · exact ⟨a, m, c, he, ho, hb⟩
  · exact ⟨none, 0, 0, he, Own.nil _ _ _ _, hb⟩

set_option maxRecDepth 100000 in
set_option maxHeartbeats 3200000 in
theorem callDone (t p s u : Int) (w : World) (a : Option Addr) (len cap : Nat) (vs : List Nat) (hs : Seen .u32 w a len cap vs) (hf : Fit 4294967296 vs) (hr : rightC t p s = true) (hlen : (len : Int) = cellsN t p) (h0 : 0 ≤ u) (h1 : u < t) :
    Calls Try.prog 71 #[.agg #[.int .i64 t, .int .i64 p, .int .i64 s], .slice a len cap, .int .i64 u] w fun e w' => e = .returned (.tuple #[.int .i64 (dvN u vs 0 : Int), .agg #[.int .i64 (dvN u vs 1 : Int), .int .i64 (dvN u vs 2 : Int), .int .i64 (dvN u vs 3 : Int)]]) ∧ Below w.heap.size w w' := by
  have hlc := hs.2.1
  have hlm : cap ≤ maxLen := hs.2.2.1
  obtain ⟨⟨g1, g2⟩, ⟨g3, g4⟩, g5, g6⟩ := rightC_of hr
  have cb : cellsN t p = 30 + 4 * t + 6 * p := by unfold cellsN; omega
  obtain ⟨c, hc⟩ : ∃ c : Nat, c = (30 + 4 * u).toNat := ⟨_, rfl⟩
  have hci : (c : Int) = 30 + 4 * u := by omega
  have CW := hid (show doneV t p s u 0 = ((c : Nat) : Int) by rw [doneV, if_pos ⟨hr, ⟨h0, by omega⟩, by omega, by omega⟩]; omega)
  have hfit : c + 4 ≤ len := by omega
  obtain ⟨_, _, _, h4⟩ := id hs
  rcases h4 with ⟨h4, _⟩ | ⟨b0, off, rfl, hce⟩
  · omega
  have get : ∀ k, k < 4 → w.cell? ⟨b0, off + c + k, none⟩ = some (.int .u32 (dvN u vs k : Int)) := fun k hk => by
    rw [Nat.add_assoc, dvN, ← hc]; exact hce (c + k) (by omega)
  have hb0 : b0 < w.heap.size := World.block_lt_of_cell? w _ (get 0 (by omega))
  have S0 := hid (show w.cell? ⟨b0, off + c, none⟩ = some (.int .u32 (dvN u vs 0 : Int)) ∧ w.cell? ⟨b0, off + c + 1, none⟩ = some (.int .u32 (dvN u vs 1 : Int)) ∧ w.cell? ⟨b0, off + c + 2, none⟩ = some (.int .u32 (dvN u vs 2 : Int)) ∧ w.cell? ⟨b0, off + c + 3, none⟩ = some (.int .u32 (dvN u vs 3 : Int)) from ⟨get 0 (by omega), get 1 (by omega), get 2 (by omega), get 3 (by omega)⟩)
  have f0 : dvN u vs 0 < 4294967296 := hf.getD (by omega) _
  have f1 : dvN u vs 1 < 4294967296 := hf.getD (by omega) _
  have f2 : dvN u vs 2 < 4294967296 := hf.getD (by omega) _
  have f3 : dvN u vs 3 < 4294967296 := hf.getD (by omega) _
  clear hs hce get hc hci cb hlen hf
  generalize dvN u vs 0 = d0 at *
  generalize dvN u vs 1 = d1 at *
  generalize dvN u vs 2 = d2 at *
  generalize dvN u vs 3 = d3 at *
  have sl := slice1v b0 off len cap c (by omega) (by omega)
  go_enter Try.func71, Try.ntmps71
  go_upto_region 2 with (fail)
  obtain ⟨w1, hw1⟩ : ∃ x : World, x = (((w.alloc (.cells #[.int .i64 t, .int .i64 p, .int .i64 s] 23)).alloc (.cells #[.int .i64 0, .int .i64 0, .int .i64 0] 66)).alloc (.cells #[.int .u32 0, .int .u32 0, .int .u32 0, .int .u32 0] 126)) := ⟨_, rfl⟩
  have hb1 : Below ((((w.alloc (.cells #[.int .i64 t, .int .i64 p, .int .i64 s] 23)).alloc (.cells #[.int .i64 0, .int .i64 0, .int .i64 0] 66)).alloc (.cells #[.int .u32 0, .int .u32 0, .int .u32 0, .int .u32 0] 126))).heap.size ((((w.alloc (.cells #[.int .i64 t, .int .i64 p, .int .i64 s] 23)).alloc (.cells #[.int .i64 0, .int .i64 0, .int .i64 0] 66)).alloc (.cells #[.int .u32 0, .int .u32 0, .int .u32 0, .int .u32 0] 126))) w1 := hw1 ▸ Below.refl _ _
  have z1 : w.heap.size < w1.heap.size := by have := hb1.size; simp at this; omega
  have z1' : w.heap.size + 1 < w1.heap.size := by have := hb1.size; simp at this; omega
  have z1'' : w.heap.size + 2 < w1.heap.size := by have := hb1.size; simp at this; omega
  have q0 : w1.cell? ⟨w.heap.size, 0, none⟩ = some (.int .i64 t) := (hb1.cell (p := ⟨w.heap.size, 0, none⟩) (by first | omega | (simp; done) | (simp; omega))).trans (cellOld (by first | omega | (simp; done) | (simp; omega)) (cellOld (by first | omega | (simp; done) | (simp; omega)) (cellNew rfl rfl)))
  have q1 : w1.cell? ⟨w.heap.size, 1, none⟩ = some (.int .i64 p) := (hb1.cell (p := ⟨w.heap.size, 1, none⟩) (by first | omega | (simp; done) | (simp; omega))).trans (cellOld (by first | omega | (simp; done) | (simp; omega)) (cellOld (by first | omega | (simp; done) | (simp; omega)) (cellNew rfl rfl)))
  have q2 : w1.cell? ⟨w.heap.size, 2, none⟩ = some (.int .i64 s) := (hb1.cell (p := ⟨w.heap.size, 2, none⟩) (by first | omega | (simp; done) | (simp; omega))).trans (cellOld (by first | omega | (simp; done) | (simp; omega)) (cellOld (by first | omega | (simp; done) | (simp; omega)) (cellNew rfl rfl)))
  have r0 : w1.cell? ⟨w.heap.size + 1, 0, none⟩ = some (.int .i64 0) := (hb1.cell (p := ⟨w.heap.size + 1, 0, none⟩) (by first | omega | (simp; done) | (simp; omega))).trans (cellOld (by first | omega | (simp; done) | (simp; omega)) (cellNew (by simp) rfl))
  have r1 : w1.cell? ⟨w.heap.size + 1, 1, none⟩ = some (.int .i64 0) := (hb1.cell (p := ⟨w.heap.size + 1, 1, none⟩) (by first | omega | (simp; done) | (simp; omega))).trans (cellOld (by first | omega | (simp; done) | (simp; omega)) (cellNew (by simp) rfl))
  have r2 : w1.cell? ⟨w.heap.size + 1, 2, none⟩ = some (.int .i64 0) := (hb1.cell (p := ⟨w.heap.size + 1, 2, none⟩) (by first | omega | (simp; done) | (simp; omega))).trans (cellOld (by first | omega | (simp; done) | (simp; omega)) (cellNew (by simp) rfl))
  have mm : ∀ o, w1.frozen? ⟨w.heap.size + 1, o, none⟩ = false := by intro o; rw [hb1.frozen (p := ⟨w.heap.size + 1, o, none⟩) (by first | omega | (simp; done) | (simp; omega)), frozen?_alloc_cells, frozen?_alloc_cells, frozen?_alloc_cells]; simp [World.frozen?]
  have hB1 : Below w.heap.size w w1 := bel
  have hg0 : w1.heap[w.heap.size + 2]? = some (.cells [.int .u32 0, .int .u32 0, .int .u32 0, .int .u32 0].toArray 126 (0, 0)) := by
    have hsz : (((w.alloc (.cells #[.int .i64 t, .int .i64 p, .int .i64 s] 23)).alloc (.cells #[.int .i64 0, .int .i64 0, .int .i64 0] 66))).heap.size = w.heap.size + 2 := by simp
    have h := heap_alloc_new (((w.alloc (.cells #[.int .i64 t, .int .i64 p, .int .i64 s] 23)).alloc (.cells #[.int .i64 0, .int .i64 0, .int .i64 0] 66))) (.cells #[.int .u32 0, .int .u32 0, .int .u32 0, .int .u32 0] 126)
    rw [hsz] at h
    rw [hw1]
    exact h
  rw [← hw1]
  clear hw1 hb1
  obtain ⟨gz0, gz⟩ : w.heap.size < w.heap.size + 2 ∧ w.heap.size + 1 < w.heap.size + 2 := by omega
  have HG := hid hg0
  clear hg0
  generalize w.heap.size + 2 = g at *
  have zd : w1.drew.heap.size = w1.heap.size := rfl
  go_region_held3 (fun w' => (w'.cell? ⟨w.heap.size, 0, none⟩ = some (.int .i64 t) ∧ w'.cell? ⟨w.heap.size, 1, none⟩ = some (.int .i64 p) ∧ w'.cell? ⟨w.heap.size, 2, none⟩ = some (.int .i64 s)) ∧ w.heap.size < w'.heap.size)
    (((go_split_ands); (try dsimp only); (repeat' apply And.intro); (all_goals first | assumption | omega | (simp; omega) | go_keep)))
    (first
      | (go_at_call 101; refine (placeDone t p s u 0 _).mono ?_; rw [CW.out]; rintro e wx ⟨rfl, hbx⟩; (try go_split_ands); obtain ⟨hcx, hfx, hzx⟩ := after hbx; have zx : w.heap.size < wx.heap.size := (by omega); have yy0 : wx.cell? ⟨w.heap.size, 0, none⟩ = some (.int .i64 t) := (hcx _ _ (by first | assumption | omega)).trans (by first | assumption | go_keep); have yy1 : wx.cell? ⟨w.heap.size, 1, none⟩ = some (.int .i64 p) := (hcx _ _ (by first | assumption | omega)).trans (by first | assumption | go_keep); have yy2 : wx.cell? ⟨w.heap.size, 2, none⟩ = some (.int .i64 s) := (hcx _ _ (by first | assumption | omega)).trans (by first | assumption | go_keep); have hgx := hid ((hbx.block g (by omega)).trans HG.out); have hBx : Below g w1 wx := ((Below.refl _ _).drew).trans (hbx.mono (by omega)); have hBwx : Below w.heap.size w wx := hB1.trans (hBx.mono (by omega)))
      | (refine step_copy_splice rfl (.tmp 9) (.tmp 14) 41 41 rfl 25 Try.underlying41 (by kernel_rfl) _ _ _ _ _ _ rfl rfl g 0 [.int .u32 0, .int .u32 0, .int .u32 0, .int .u32 0] 126 hgx.out [.int .u32 (d0 : Int), .int .u32 (d1 : Int), .int .u32 (d2 : Int), .int .u32 (d3 : Int)] (show 4 = min (len - c) 4 by omega) (fun _ => ⟨rfl, ⟨b0, off + c, none⟩, rfl, src4 ((hBwx.cell (p := ⟨b0, off + c, none⟩) hb0).trans S0.out.1) ((hBwx.cell (p := ⟨b0, off + c + 1, none⟩) hb0).trans S0.out.2.1) ((hBwx.cell (p := ⟨b0, off + c + 2, none⟩) hb0).trans S0.out.2.2.1) ((hBwx.cell (p := ⟨b0, off + c + 3, none⟩) hb0).trans S0.out.2.2.2)⟩) (show 0 + 4 ≤ 4 by omega) (by intro v hv; simp at hv; rcases hv with rfl | rfl | rfl | rfl <;> rfl) g w1 hBx (Nat.le_refl _) ?_; intro wy hgy hby; have zy : w.heap.size < wy.heap.size := (by have := hby.size; omega); have yy0 : wy.cell? ⟨w.heap.size, 0, none⟩ = some (.int .i64 t) := (hby.cell (p := ⟨w.heap.size, 0, none⟩) gz0).trans q0; have yy1 : wy.cell? ⟨w.heap.size, 1, none⟩ = some (.int .i64 p) := (hby.cell (p := ⟨w.heap.size, 1, none⟩) gz0).trans q1; have yy2 : wy.cell? ⟨w.heap.size, 2, none⟩ = some (.int .i64 s) := (hby.cell (p := ⟨w.heap.size, 2, none⟩) gz0).trans q2))
  have hg2 : wy.heap[g]? = some (.cells [.int .u32 (d0 : Int), .int .u32 (d1 : Int), .int .u32 (d2 : Int), .int .u32 (d3 : Int)].toArray 126 (0, 0)) := hgy.out
  have e0 := cellIn hg2 0 rfl
  have e1 := cellIn hg2 1 rfl
  have e2 := cellIn hg2 2 rfl
  have e3 := cellIn hg2 3 rfl
  have r0 := (hby.cell (p := ⟨w.heap.size + 1, 0, none⟩) gz).trans r0
  have r1 := (hby.cell (p := ⟨w.heap.size + 1, 1, none⟩) gz).trans r1
  have r2 := (hby.cell (p := ⟨w.heap.size + 1, 2, none⟩) gz).trans r2
  have mm := fun o => (hby.frozen (p := ⟨w.heap.size + 1, o, none⟩) gz).trans (mm o)
  have hBy : Below w.heap.size w wy := hB1.trans (hby.mono (by omega))
  have zy1 : w.heap.size + 1 < wy.heap.size := by have := hby.size; omega
  clear hgy hby hgx hBx hBwx hcx hfx hg2 sl HG
  go_wp2_with fail
  refine (opOfVals d0 d1 d2 d3 _ f0 f1 f2 f3).mono ?_
  rintro e wz ⟨rfl, hbz⟩
  have r0 := (hbz.cell (p := ⟨w.heap.size + 1, 0, none⟩) zy1).trans r0
  have r1 := (hbz.cell (p := ⟨w.heap.size + 1, 1, none⟩) zy1).trans r1
  have r2 := (hbz.cell (p := ⟨w.heap.size + 1, 2, none⟩) zy1).trans r2
  have mm := fun o => (hbz.frozen (p := ⟨w.heap.size + 1, o, none⟩) zy1).trans (mm o)
  have hBz : Below w.heap.size w wz := hBy.trans (hbz.mono (by omega))
  have zz : w.heap.size < wz.heap.size := by have := hbz.size; omega
  have zz' : w.heap.size + 1 < wz.heap.size := by have := hbz.size; omega
  clear hbz hBy
  go_wp2_with fail
  exact bodyPost_ret (v := .tuple #[.int .i64 (d0 : Int), .agg #[.int .i64 (d1 : Int), .int .i64 (d2 : Int), .int .i64 (d3 : Int)]]) (by simp [results, Try.results71, go_sem, r0, r1, r2, zz, zz']) rfl ⟨rfl, bel⟩

set_option maxHeartbeats 3200000 in
theorem callResolveOut (t p s u : Int) (w : World) (a : Option Addr) (len cap : Nat) (ws : List Nat) (num : Int) (o : Option (List Nat)) (SET : RowKit.Hid (∀ w', Below w.heap.size w w' → Calls Try.prog 18 #[.agg #[.int .i64 t, .int .i64 p, .int .i64 s], .slice a len cap] w' (OptPost 25 .u32 w' o))) (hl : len ≤ cap ∧ cap ≤ maxLen) (h : ¬ (okW t p s len ∧ 0 ≤ u ∧ u < t)) :
    Calls Try.prog 31 #[.agg #[.int .i64 t, .int .i64 p, .int .i64 s], .slice a len cap, .int .i64 u, .int .i64 num] w fun e w' => e = .returned (.agg #[.int .i64 0, .int .i64 0, .int .i64 0, .int .i64 0, .int .i64 0, .int .i64 0, .int .i64 0]) ∧ Below w.heap.size w w' := by
  have H := hid h
  have HL := hid hl
  clear h hl
  go_enter Try.func31, Try.ntmps31
  go_wp2_with fail
  refine (callLastNo t p s u _ a len cap ws HL.out H.out).mono ?_
  rintro e w1 ⟨rfl, hb1⟩
  have hC1 : Below (w.heap.size + 2) ((w.alloc (.cells #[.int .i64 t, .int .i64 p, .int .i64 s] 23)).alloc (.cells #[.int .i64 0, .int .i64 0, .int .i64 0, .int .i64 0, .int .i64 0, .int .i64 0, .int .i64 0] 68)) w1 := hb1.mono (by simp)
  have z1 : w.heap.size < w1.heap.size := by have := hb1.size; simp at this; omega
  have z1' : w.heap.size + 1 < w1.heap.size := by have := hb1.size; simp at this; omega
  have hB1 : Below w.heap.size w w1 := bel
  have q0 : w1.cell? ⟨w.heap.size, 0, none⟩ = some (.int .i64 t) := (hC1.cell (p := ⟨w.heap.size, 0, none⟩) (by first | omega | (simp; done) | (simp; omega))).trans (cellOld (by simp) (cellNew rfl rfl))
  have q1 : w1.cell? ⟨w.heap.size, 1, none⟩ = some (.int .i64 p) := (hC1.cell (p := ⟨w.heap.size, 1, none⟩) (by first | omega | (simp; done) | (simp; omega))).trans (cellOld (by simp) (cellNew rfl rfl))
  have q2 : w1.cell? ⟨w.heap.size, 2, none⟩ = some (.int .i64 s) := (hC1.cell (p := ⟨w.heap.size, 2, none⟩) (by first | omega | (simp; done) | (simp; omega))).trans (cellOld (by simp) (cellNew rfl rfl))
  have r0 : w1.cell? ⟨w.heap.size + 1, 0, none⟩ = some (.int .i64 0) := (hC1.cell (p := ⟨w.heap.size + 1, 0, none⟩) (by first | omega | (simp; done) | (simp; omega))).trans (cellNew (by simp) rfl)
  have r1 : w1.cell? ⟨w.heap.size + 1, 1, none⟩ = some (.int .i64 0) := (hC1.cell (p := ⟨w.heap.size + 1, 1, none⟩) (by first | omega | (simp; done) | (simp; omega))).trans (cellNew (by simp) rfl)
  have r2 : w1.cell? ⟨w.heap.size + 1, 2, none⟩ = some (.int .i64 0) := (hC1.cell (p := ⟨w.heap.size + 1, 2, none⟩) (by first | omega | (simp; done) | (simp; omega))).trans (cellNew (by simp) rfl)
  have r3 : w1.cell? ⟨w.heap.size + 1, 3, none⟩ = some (.int .i64 0) := (hC1.cell (p := ⟨w.heap.size + 1, 3, none⟩) (by first | omega | (simp; done) | (simp; omega))).trans (cellNew (by simp) rfl)
  have r4 : w1.cell? ⟨w.heap.size + 1, 4, none⟩ = some (.int .i64 0) := (hC1.cell (p := ⟨w.heap.size + 1, 4, none⟩) (by first | omega | (simp; done) | (simp; omega))).trans (cellNew (by simp) rfl)
  have r5 : w1.cell? ⟨w.heap.size + 1, 5, none⟩ = some (.int .i64 0) := (hC1.cell (p := ⟨w.heap.size + 1, 5, none⟩) (by first | omega | (simp; done) | (simp; omega))).trans (cellNew (by simp) rfl)
  have r6 : w1.cell? ⟨w.heap.size + 1, 6, none⟩ = some (.int .i64 0) := (hC1.cell (p := ⟨w.heap.size + 1, 6, none⟩) (by first | omega | (simp; done) | (simp; omega))).trans (cellNew (by simp) rfl)
  have mm : ∀ o, w1.frozen? ⟨w.heap.size + 1, o, none⟩ = false := by intro o; rw [hC1.frozen (p := ⟨w.heap.size + 1, o, none⟩) (by first | omega | (simp; done) | (simp; omega)), frozen?_alloc_cells, frozen?_alloc_cells]; simp [World.frozen?]
  clear hb1 hC1
  go_wp2_with fail
  refine (SET.out _ hB1).mono ?_
  rintro e w2 hp2
  obtain ⟨a2, m2, cap2, rfl, ho2, hb2⟩ := hp2.open
  clear hp2
  have z2 : w.heap.size < w2.heap.size := by have := hb2.size; omega
  have z2' : w.heap.size + 1 < w2.heap.size := by have := hb2.size; omega
  have hB2 : Below w.heap.size w w2 := hB1.trans (hb2.mono (by omega))
  have q0 := (hb2.cell (p := ⟨w.heap.size, 0, none⟩) z1).trans q0
  have q1 := (hb2.cell (p := ⟨w.heap.size, 1, none⟩) z1).trans q1
  have q2 := (hb2.cell (p := ⟨w.heap.size, 2, none⟩) z1).trans q2
  have r0 := (hb2.cell (p := ⟨w.heap.size + 1, 0, none⟩) z1').trans r0
  have r1 := (hb2.cell (p := ⟨w.heap.size + 1, 1, none⟩) z1').trans r1
  have r2 := (hb2.cell (p := ⟨w.heap.size + 1, 2, none⟩) z1').trans r2
  have r3 := (hb2.cell (p := ⟨w.heap.size + 1, 3, none⟩) z1').trans r3
  have r4 := (hb2.cell (p := ⟨w.heap.size + 1, 4, none⟩) z1').trans r4
  have r5 := (hb2.cell (p := ⟨w.heap.size + 1, 5, none⟩) z1').trans r5
  have r6 := (hb2.cell (p := ⟨w.heap.size + 1, 6, none⟩) z1').trans r6
  have mm := fun o => (hb2.frozen (p := ⟨w.heap.size + 1, o, none⟩) z1').trans (mm o)
  clear hb2 hB1
  go_wp2_with fail
  exact bodyPost_ret (v := .agg #[.int .i64 0, .int .i64 0, .int .i64 0, .int .i64 0, .int .i64 0, .int .i64 0, .int .i64 0]) (by simp [results, Try.results31, go_sem, r0, r1, r2, r3, r4, r5, r6, z2, z2']) rfl ⟨rfl, (((((((hB2.setCell (by show w.heap.size ≤ w.heap.size + 1; omega) _).setCell (by show w.heap.size ≤ w.heap.size + 1; omega) _).setCell (by show w.heap.size ≤ w.heap.size + 1; omega) _).setCell (by show w.heap.size ≤ w.heap.size + 1; omega) _).setCell (by show w.heap.size ≤ w.heap.size + 1; omega) _).setCell (by show w.heap.size ≤ w.heap.size + 1; omega) _).setCell (by show w.heap.size ≤ w.heap.size + 1; omega) _)⟩

set_option maxHeartbeats 3200000 in
theorem callResolveNone (t p s u : Int) (w : World) (a : Option Addr) (len cap : Nat) (ws : List Nat) (num : Int) (SET : RowKit.Hid (∀ w', Below w.heap.size w w' → Calls Try.prog 18 #[.agg #[.int .i64 t, .int .i64 p, .int .i64 s], .slice a len cap] w' (OptPost 25 .u32 w' none))) (hs : Seen .u64 w a len cap ws) (ho : okW t p s len) (h0 : 0 ≤ u) (h1 : u < t) :
    Calls Try.prog 31 #[.agg #[.int .i64 t, .int .i64 p, .int .i64 s], .slice a len cap, .int .i64 u, .int .i64 num] w fun e w' => e = .returned (.agg #[.int .i64 0, .int .i64 0, .int .i64 0, .int .i64 0, .int .i64 0, .int .i64 0, .int .i64 0]) ∧ Below w.heap.size w w' := by
  have HS := hid hs
  have HO := hid ho
  clear hs ho
  go_enter Try.func31, Try.ntmps31
  go_wp2_with fail
  refine (callLastYes t p s u _ a len cap ws (HS.out.below bel) HO.out h0 h1).mono ?_
  rintro e w1 ⟨rfl, hb1⟩
  have hC1 : Below (w.heap.size + 2) ((w.alloc (.cells #[.int .i64 t, .int .i64 p, .int .i64 s] 23)).alloc (.cells #[.int .i64 0, .int .i64 0, .int .i64 0, .int .i64 0, .int .i64 0, .int .i64 0, .int .i64 0] 68)) w1 := hb1.mono (by simp)
  have z1 : w.heap.size < w1.heap.size := by have := hb1.size; simp at this; omega
  have z1' : w.heap.size + 1 < w1.heap.size := by have := hb1.size; simp at this; omega
  have hB1 : Below w.heap.size w w1 := bel
  have q0 : w1.cell? ⟨w.heap.size, 0, none⟩ = some (.int .i64 t) := (hC1.cell (p := ⟨w.heap.size, 0, none⟩) (by first | omega | (simp; done) | (simp; omega))).trans (cellOld (by simp) (cellNew rfl rfl))
  have q1 : w1.cell? ⟨w.heap.size, 1, none⟩ = some (.int .i64 p) := (hC1.cell (p := ⟨w.heap.size, 1, none⟩) (by first | omega | (simp; done) | (simp; omega))).trans (cellOld (by simp) (cellNew rfl rfl))
  have q2 : w1.cell? ⟨w.heap.size, 2, none⟩ = some (.int .i64 s) := (hC1.cell (p := ⟨w.heap.size, 2, none⟩) (by first | omega | (simp; done) | (simp; omega))).trans (cellOld (by simp) (cellNew rfl rfl))
  have r0 : w1.cell? ⟨w.heap.size + 1, 0, none⟩ = some (.int .i64 0) := (hC1.cell (p := ⟨w.heap.size + 1, 0, none⟩) (by first | omega | (simp; done) | (simp; omega))).trans (cellNew (by simp) rfl)
  have r1 : w1.cell? ⟨w.heap.size + 1, 1, none⟩ = some (.int .i64 0) := (hC1.cell (p := ⟨w.heap.size + 1, 1, none⟩) (by first | omega | (simp; done) | (simp; omega))).trans (cellNew (by simp) rfl)
  have r2 : w1.cell? ⟨w.heap.size + 1, 2, none⟩ = some (.int .i64 0) := (hC1.cell (p := ⟨w.heap.size + 1, 2, none⟩) (by first | omega | (simp; done) | (simp; omega))).trans (cellNew (by simp) rfl)
  have r3 : w1.cell? ⟨w.heap.size + 1, 3, none⟩ = some (.int .i64 0) := (hC1.cell (p := ⟨w.heap.size + 1, 3, none⟩) (by first | omega | (simp; done) | (simp; omega))).trans (cellNew (by simp) rfl)
  have r4 : w1.cell? ⟨w.heap.size + 1, 4, none⟩ = some (.int .i64 0) := (hC1.cell (p := ⟨w.heap.size + 1, 4, none⟩) (by first | omega | (simp; done) | (simp; omega))).trans (cellNew (by simp) rfl)
  have r5 : w1.cell? ⟨w.heap.size + 1, 5, none⟩ = some (.int .i64 0) := (hC1.cell (p := ⟨w.heap.size + 1, 5, none⟩) (by first | omega | (simp; done) | (simp; omega))).trans (cellNew (by simp) rfl)
  have r6 : w1.cell? ⟨w.heap.size + 1, 6, none⟩ = some (.int .i64 0) := (hC1.cell (p := ⟨w.heap.size + 1, 6, none⟩) (by first | omega | (simp; done) | (simp; omega))).trans (cellNew (by simp) rfl)
  have mm : ∀ o, w1.frozen? ⟨w.heap.size + 1, o, none⟩ = false := by intro o; rw [hC1.frozen (p := ⟨w.heap.size + 1, o, none⟩) (by first | omega | (simp; done) | (simp; omega)), frozen?_alloc_cells, frozen?_alloc_cells]; simp [World.frozen?]
  clear hb1 hC1
  go_wp2_with fail
  refine (SET.out _ hB1).mono ?_
  rintro e w2 hp2
  obtain ⟨a2, m2, cap2, rfl, ho2, hb2⟩ := hp2.open
  clear hp2
  have z2 : w.heap.size < w2.heap.size := by have := hb2.size; omega
  have z2' : w.heap.size + 1 < w2.heap.size := by have := hb2.size; omega
  have hB2 : Below w.heap.size w w2 := hB1.trans (hb2.mono (by omega))
  have q0 := (hb2.cell (p := ⟨w.heap.size, 0, none⟩) z1).trans q0
  have q1 := (hb2.cell (p := ⟨w.heap.size, 1, none⟩) z1).trans q1
  have q2 := (hb2.cell (p := ⟨w.heap.size, 2, none⟩) z1).trans q2
  have r0 := (hb2.cell (p := ⟨w.heap.size + 1, 0, none⟩) z1').trans r0
  have r1 := (hb2.cell (p := ⟨w.heap.size + 1, 1, none⟩) z1').trans r1
  have r2 := (hb2.cell (p := ⟨w.heap.size + 1, 2, none⟩) z1').trans r2
  have r3 := (hb2.cell (p := ⟨w.heap.size + 1, 3, none⟩) z1').trans r3
  have r4 := (hb2.cell (p := ⟨w.heap.size + 1, 4, none⟩) z1').trans r4
  have r5 := (hb2.cell (p := ⟨w.heap.size + 1, 5, none⟩) z1').trans r5
  have r6 := (hb2.cell (p := ⟨w.heap.size + 1, 6, none⟩) z1').trans r6
  have mm := fun o => (hb2.frozen (p := ⟨w.heap.size + 1, o, none⟩) z1').trans (mm o)
  clear hb2 hB1
  go_wp2_with fail
  exact bodyPost_ret (v := .agg #[.int .i64 0, .int .i64 0, .int .i64 0, .int .i64 0, .int .i64 0, .int .i64 0, .int .i64 0]) (by simp [results, Try.results31, go_sem, r0, r1, r2, r3, r4, r5, r6, z2, z2']) rfl ⟨rfl, (((((((hB2.setCell (by show w.heap.size ≤ w.heap.size + 1; omega) _).setCell (by show w.heap.size ≤ w.heap.size + 1; omega) _).setCell (by show w.heap.size ≤ w.heap.size + 1; omega) _).setCell (by show w.heap.size ≤ w.heap.size + 1; omega) _).setCell (by show w.heap.size ≤ w.heap.size + 1; omega) _).setCell (by show w.heap.size ≤ w.heap.size + 1; omega) _).setCell (by show w.heap.size ≤ w.heap.size + 1; omega) _)⟩

set_option maxHeartbeats 3200000 in
theorem callResolveOther (t p s u : Int) (w : World) (a : Option Addr) (len cap : Nat) (ws : List Nat) (num : Int) (vs : List Nat) (SET : RowKit.Hid (∀ w', Below w.heap.size w w' → Calls Try.prog 18 #[.agg #[.int .i64 t, .int .i64 p, .int .i64 s], .slice a len cap] w' (OptPost 25 .u32 w' (some vs)))) (hs : Seen .u64 w a len cap ws) (ho : okW t p s len) (h0 : 0 ≤ u) (h1 : u < t) (hn : num < 1 ∨ num ≠ (lastN t p u ws : Int)) :
    Calls Try.prog 31 #[.agg #[.int .i64 t, .int .i64 p, .int .i64 s], .slice a len cap, .int .i64 u, .int .i64 num] w fun e w' => e = .returned (.agg #[.int .i64 0, .int .i64 0, .int .i64 0, .int .i64 0, .int .i64 0, .int .i64 0, .int .i64 0]) ∧ Below w.heap.size w w' := by
  have HS := hid hs
  have HO := hid ho
  clear hs ho
  by_cases g1 : num < 1
  · clear hn
    go_enter Try.func31, Try.ntmps31
    go_wp2_with fail
    refine (callLastYes t p s u _ a len cap ws (HS.out.below bel) HO.out h0 h1).mono ?_
    rintro e w1 ⟨rfl, hb1⟩
    have hC1 : Below (w.heap.size + 2) ((w.alloc (.cells #[.int .i64 t, .int .i64 p, .int .i64 s] 23)).alloc (.cells #[.int .i64 0, .int .i64 0, .int .i64 0, .int .i64 0, .int .i64 0, .int .i64 0, .int .i64 0] 68)) w1 := hb1.mono (by simp)
    have z1 : w.heap.size < w1.heap.size := by have := hb1.size; simp at this; omega
    have z1' : w.heap.size + 1 < w1.heap.size := by have := hb1.size; simp at this; omega
    have hB1 : Below w.heap.size w w1 := bel
    have q0 : w1.cell? ⟨w.heap.size, 0, none⟩ = some (.int .i64 t) := (hC1.cell (p := ⟨w.heap.size, 0, none⟩) (by first | omega | (simp; done) | (simp; omega))).trans (cellOld (by simp) (cellNew rfl rfl))
    have q1 : w1.cell? ⟨w.heap.size, 1, none⟩ = some (.int .i64 p) := (hC1.cell (p := ⟨w.heap.size, 1, none⟩) (by first | omega | (simp; done) | (simp; omega))).trans (cellOld (by simp) (cellNew rfl rfl))
    have q2 : w1.cell? ⟨w.heap.size, 2, none⟩ = some (.int .i64 s) := (hC1.cell (p := ⟨w.heap.size, 2, none⟩) (by first | omega | (simp; done) | (simp; omega))).trans (cellOld (by simp) (cellNew rfl rfl))
    have r0 : w1.cell? ⟨w.heap.size + 1, 0, none⟩ = some (.int .i64 0) := (hC1.cell (p := ⟨w.heap.size + 1, 0, none⟩) (by first | omega | (simp; done) | (simp; omega))).trans (cellNew (by simp) rfl)
    have r1 : w1.cell? ⟨w.heap.size + 1, 1, none⟩ = some (.int .i64 0) := (hC1.cell (p := ⟨w.heap.size + 1, 1, none⟩) (by first | omega | (simp; done) | (simp; omega))).trans (cellNew (by simp) rfl)
    have r2 : w1.cell? ⟨w.heap.size + 1, 2, none⟩ = some (.int .i64 0) := (hC1.cell (p := ⟨w.heap.size + 1, 2, none⟩) (by first | omega | (simp; done) | (simp; omega))).trans (cellNew (by simp) rfl)
    have r3 : w1.cell? ⟨w.heap.size + 1, 3, none⟩ = some (.int .i64 0) := (hC1.cell (p := ⟨w.heap.size + 1, 3, none⟩) (by first | omega | (simp; done) | (simp; omega))).trans (cellNew (by simp) rfl)
    have r4 : w1.cell? ⟨w.heap.size + 1, 4, none⟩ = some (.int .i64 0) := (hC1.cell (p := ⟨w.heap.size + 1, 4, none⟩) (by first | omega | (simp; done) | (simp; omega))).trans (cellNew (by simp) rfl)
    have r5 : w1.cell? ⟨w.heap.size + 1, 5, none⟩ = some (.int .i64 0) := (hC1.cell (p := ⟨w.heap.size + 1, 5, none⟩) (by first | omega | (simp; done) | (simp; omega))).trans (cellNew (by simp) rfl)
    have r6 : w1.cell? ⟨w.heap.size + 1, 6, none⟩ = some (.int .i64 0) := (hC1.cell (p := ⟨w.heap.size + 1, 6, none⟩) (by first | omega | (simp; done) | (simp; omega))).trans (cellNew (by simp) rfl)
    have mm : ∀ o, w1.frozen? ⟨w.heap.size + 1, o, none⟩ = false := by intro o; rw [hC1.frozen (p := ⟨w.heap.size + 1, o, none⟩) (by first | omega | (simp; done) | (simp; omega)), frozen?_alloc_cells, frozen?_alloc_cells]; simp [World.frozen?]
    clear hb1 hC1
    go_wp2_with fail
    refine (SET.out _ hB1).mono ?_
    rintro e w2 hp2
    obtain ⟨a2, m2, cap2, rfl, ho2, hb2⟩ := hp2.open
    clear hp2
    have z2 : w.heap.size < w2.heap.size := by have := hb2.size; omega
    have z2' : w.heap.size + 1 < w2.heap.size := by have := hb2.size; omega
    have hB2 : Below w.heap.size w w2 := hB1.trans (hb2.mono (by omega))
    have q0 := (hb2.cell (p := ⟨w.heap.size, 0, none⟩) z1).trans q0
    have q1 := (hb2.cell (p := ⟨w.heap.size, 1, none⟩) z1).trans q1
    have q2 := (hb2.cell (p := ⟨w.heap.size, 2, none⟩) z1).trans q2
    have r0 := (hb2.cell (p := ⟨w.heap.size + 1, 0, none⟩) z1').trans r0
    have r1 := (hb2.cell (p := ⟨w.heap.size + 1, 1, none⟩) z1').trans r1
    have r2 := (hb2.cell (p := ⟨w.heap.size + 1, 2, none⟩) z1').trans r2
    have r3 := (hb2.cell (p := ⟨w.heap.size + 1, 3, none⟩) z1').trans r3
    have r4 := (hb2.cell (p := ⟨w.heap.size + 1, 4, none⟩) z1').trans r4
    have r5 := (hb2.cell (p := ⟨w.heap.size + 1, 5, none⟩) z1').trans r5
    have r6 := (hb2.cell (p := ⟨w.heap.size + 1, 6, none⟩) z1').trans r6
    have mm := fun o => (hb2.frozen (p := ⟨w.heap.size + 1, o, none⟩) z1').trans (mm o)
    clear hb2 hB1
    go_wp2_with fail
    exact bodyPost_ret (v := .agg #[.int .i64 0, .int .i64 0, .int .i64 0, .int .i64 0, .int .i64 0, .int .i64 0, .int .i64 0]) (by simp [results, Try.results31, go_sem, r0, r1, r2, r3, r4, r5, r6, z2, z2']) rfl ⟨rfl, (((((((hB2.setCell (by show w.heap.size ≤ w.heap.size + 1; omega) _).setCell (by show w.heap.size ≤ w.heap.size + 1; omega) _).setCell (by show w.heap.size ≤ w.heap.size + 1; omega) _).setCell (by show w.heap.size ≤ w.heap.size + 1; omega) _).setCell (by show w.heap.size ≤ w.heap.size + 1; omega) _).setCell (by show w.heap.size ≤ w.heap.size + 1; omega) _).setCell (by show w.heap.size ≤ w.heap.size + 1; omega) _)⟩
  · have dn : (num != (lastN t p u ws : Int)) = true := by rw [bne_iff_ne]; omega
    have g2 : 1 ≤ num := by omega
    clear hn g1
    go_enter Try.func31, Try.ntmps31
    go_wp2_with fail
    refine (callLastYes t p s u _ a len cap ws (HS.out.below bel) HO.out h0 h1).mono ?_
    rintro e w1 ⟨rfl, hb1⟩
    have hC1 : Below (w.heap.size + 2) ((w.alloc (.cells #[.int .i64 t, .int .i64 p, .int .i64 s] 23)).alloc (.cells #[.int .i64 0, .int .i64 0, .int .i64 0, .int .i64 0, .int .i64 0, .int .i64 0, .int .i64 0] 68)) w1 := hb1.mono (by simp)
    have z1 : w.heap.size < w1.heap.size := by have := hb1.size; simp at this; omega
    have z1' : w.heap.size + 1 < w1.heap.size := by have := hb1.size; simp at this; omega
    have hB1 : Below w.heap.size w w1 := bel
    have q0 : w1.cell? ⟨w.heap.size, 0, none⟩ = some (.int .i64 t) := (hC1.cell (p := ⟨w.heap.size, 0, none⟩) (by first | omega | (simp; done) | (simp; omega))).trans (cellOld (by simp) (cellNew rfl rfl))
    have q1 : w1.cell? ⟨w.heap.size, 1, none⟩ = some (.int .i64 p) := (hC1.cell (p := ⟨w.heap.size, 1, none⟩) (by first | omega | (simp; done) | (simp; omega))).trans (cellOld (by simp) (cellNew rfl rfl))
    have q2 : w1.cell? ⟨w.heap.size, 2, none⟩ = some (.int .i64 s) := (hC1.cell (p := ⟨w.heap.size, 2, none⟩) (by first | omega | (simp; done) | (simp; omega))).trans (cellOld (by simp) (cellNew rfl rfl))
    have r0 : w1.cell? ⟨w.heap.size + 1, 0, none⟩ = some (.int .i64 0) := (hC1.cell (p := ⟨w.heap.size + 1, 0, none⟩) (by first | omega | (simp; done) | (simp; omega))).trans (cellNew (by simp) rfl)
    have r1 : w1.cell? ⟨w.heap.size + 1, 1, none⟩ = some (.int .i64 0) := (hC1.cell (p := ⟨w.heap.size + 1, 1, none⟩) (by first | omega | (simp; done) | (simp; omega))).trans (cellNew (by simp) rfl)
    have r2 : w1.cell? ⟨w.heap.size + 1, 2, none⟩ = some (.int .i64 0) := (hC1.cell (p := ⟨w.heap.size + 1, 2, none⟩) (by first | omega | (simp; done) | (simp; omega))).trans (cellNew (by simp) rfl)
    have r3 : w1.cell? ⟨w.heap.size + 1, 3, none⟩ = some (.int .i64 0) := (hC1.cell (p := ⟨w.heap.size + 1, 3, none⟩) (by first | omega | (simp; done) | (simp; omega))).trans (cellNew (by simp) rfl)
    have r4 : w1.cell? ⟨w.heap.size + 1, 4, none⟩ = some (.int .i64 0) := (hC1.cell (p := ⟨w.heap.size + 1, 4, none⟩) (by first | omega | (simp; done) | (simp; omega))).trans (cellNew (by simp) rfl)
    have r5 : w1.cell? ⟨w.heap.size + 1, 5, none⟩ = some (.int .i64 0) := (hC1.cell (p := ⟨w.heap.size + 1, 5, none⟩) (by first | omega | (simp; done) | (simp; omega))).trans (cellNew (by simp) rfl)
    have r6 : w1.cell? ⟨w.heap.size + 1, 6, none⟩ = some (.int .i64 0) := (hC1.cell (p := ⟨w.heap.size + 1, 6, none⟩) (by first | omega | (simp; done) | (simp; omega))).trans (cellNew (by simp) rfl)
    have mm : ∀ o, w1.frozen? ⟨w.heap.size + 1, o, none⟩ = false := by intro o; rw [hC1.frozen (p := ⟨w.heap.size + 1, o, none⟩) (by first | omega | (simp; done) | (simp; omega)), frozen?_alloc_cells, frozen?_alloc_cells]; simp [World.frozen?]
    clear hb1 hC1
    go_wp2_with fail
    refine (SET.out _ hB1).mono ?_
    rintro e w2 hp2
    obtain ⟨a2, m2, cap2, rfl, ho2, hb2⟩ := hp2.open
    clear hp2
    have z2 : w.heap.size < w2.heap.size := by have := hb2.size; omega
    have z2' : w.heap.size + 1 < w2.heap.size := by have := hb2.size; omega
    have hB2 : Below w.heap.size w w2 := hB1.trans (hb2.mono (by omega))
    have q0 := (hb2.cell (p := ⟨w.heap.size, 0, none⟩) z1).trans q0
    have q1 := (hb2.cell (p := ⟨w.heap.size, 1, none⟩) z1).trans q1
    have q2 := (hb2.cell (p := ⟨w.heap.size, 2, none⟩) z1).trans q2
    have r0 := (hb2.cell (p := ⟨w.heap.size + 1, 0, none⟩) z1').trans r0
    have r1 := (hb2.cell (p := ⟨w.heap.size + 1, 1, none⟩) z1').trans r1
    have r2 := (hb2.cell (p := ⟨w.heap.size + 1, 2, none⟩) z1').trans r2
    have r3 := (hb2.cell (p := ⟨w.heap.size + 1, 3, none⟩) z1').trans r3
    have r4 := (hb2.cell (p := ⟨w.heap.size + 1, 4, none⟩) z1').trans r4
    have r5 := (hb2.cell (p := ⟨w.heap.size + 1, 5, none⟩) z1').trans r5
    have r6 := (hb2.cell (p := ⟨w.heap.size + 1, 6, none⟩) z1').trans r6
    have mm := fun o => (hb2.frozen (p := ⟨w.heap.size + 1, o, none⟩) z1').trans (mm o)
    clear hb2 hB1
    go_wp2_with fail
    exact bodyPost_ret (v := .agg #[.int .i64 0, .int .i64 0, .int .i64 0, .int .i64 0, .int .i64 0, .int .i64 0, .int .i64 0]) (by simp [results, Try.results31, go_sem, r0, r1, r2, r3, r4, r5, r6, z2, z2']) rfl ⟨rfl, (((((((hB2.setCell (by show w.heap.size ≤ w.heap.size + 1; omega) _).setCell (by show w.heap.size ≤ w.heap.size + 1; omega) _).setCell (by show w.heap.size ≤ w.heap.size + 1; omega) _).setCell (by show w.heap.size ≤ w.heap.size + 1; omega) _).setCell (by show w.heap.size ≤ w.heap.size + 1; omega) _).setCell (by show w.heap.size ≤ w.heap.size + 1; omega) _).setCell (by show w.heap.size ≤ w.heap.size + 1; omega) _)⟩

end Go.Proofs.Ytkkhoiahjmfibaa
