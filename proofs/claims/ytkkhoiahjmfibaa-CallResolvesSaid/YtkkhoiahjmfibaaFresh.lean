/- The walks of the reference's fresh heap, at one configuration. -/
import Derived.Test.YtkkhoiahjmfibaaMake
import Derived.Test.YtkkhoiahjmfibaaHead
import Derived.LoopN
import Derived.Deep.RegionWith
namespace Go.Proofs.Ytkkhoiahjmfibaa
open Go.RowKit
set_option linter.unusedVariables false
set_option linter.unusedSimpArgs false

theorem refLog8 (w : World) : Calls Try.prog 108 #[.int .i64 8] w fun e w' => e = .returned (.int .i64 3) ∧ w = w' := by
  go_enter Try.func108, Try.ntmps108
  go_wp2
  refine wp_loop_rounds 5 ?_
  rw [rounds_succ]; go_wp2
  rw [rounds_succ]; go_wp2
  rw [rounds_succ]; go_wp2
  rw [rounds_succ]; go_wp2
  rw [rounds_succ]; go_wp2
  go_ret
  exact ⟨rfl, rfl⟩
theorem refBinOf8 (w : World) : Calls Try.prog 78 #[.int .i64 8] w fun e w' => e = .returned (.int .i64 3) ∧ w = w' := by
  go_enter Try.func78, Try.ntmps78
  go_wp2_with (go_at_call 108; refine (refLog8 _).mono ?_; rintro e w' ⟨rfl, rfl⟩)
  go_ret
  exact ⟨rfl, rfl⟩
theorem refInfoRight (w : World) : Calls Try.prog 117 #[.agg #[.int .i64 1, .int .i64 8, .int .i64 0]] w fun e w' => e = .returned (.bool true) ∧ Below w.heap.size w w' := by
  go_enter Try.func117, Try.ntmps117
  go_wp2
  go_ret
  exact ⟨rfl, bel⟩
theorem refInfoPut (w : World) : Calls Try.prog 109 #[.agg #[.int .i64 1, .int .i64 8, .int .i64 0]] w fun e w' => e = .returned (.tuple #[.int .u32 129, .bool true]) ∧ Below w.heap.size w w' := by
  go_enter Try.func109, Try.ntmps109
  go_wp2_with fail
  refine (refInfoRight _).mono ?_
  rintro e w1 ⟨rfl, hb1⟩
  obtain ⟨hc1, hf1, hz1⟩ := after hb1
  have z1 : w.heap.size < w1.heap.size := by simp at hz1; omega
  go_wp2_with fail
  go_ret2
  exact ⟨rfl, bel⟩
theorem refInfoValue (w : World) : Calls Try.prog 79 #[.int .i64 1, .int .i64 8, .int .i64 0] w fun e w' => e = .returned (.int .u32 129) ∧ Below w.heap.size w w' := by
  go_enter Try.func79, Try.ntmps79
  go_wp2_with fail
  refine (refInfoPut _).mono ?_
  rintro e w1 ⟨rfl, hb1⟩
  go_wp2_with fail
  go_ret
  exact ⟨rfl, bel⟩

def freshV : List Nat := ((((List.replicate 82 0).set 0 8).set 5 1).set 34 129).set 77 1
/-- What a list of fresh values is. -/
def RowPost (T : TypeId) (k : IntKind) (n : Nat) (w : World) (xs : List Nat) (e : Ending) (w' : World) : Prop := ∃ g cap, e = .returned (.slice (some ⟨g, 0, none⟩) n cap) ∧ w.heap.size ≤ g ∧ g < w'.heap.size ∧ Own T k w' w.heap.size (.slice (some ⟨g, 0, none⟩) n cap) xs ∧ Below w.heap.size w w'

theorem rc18 : rightC 1 8 10 = true := by decide

set_option maxRecDepth 100000 in
set_option maxHeartbeats 1600000 in
theorem freshVals (w : World) : Calls Try.prog 36 #[.agg #[.int .i64 1, .int .i64 8, .int .i64 10]] w (RowPost 25 .u32 82 w freshV) := by
  have C := hid (show cellsC 1 8 10 = 82 by decide)
  have P0 := hid (show pageV 1 8 10 0 0 = 34 by decide)
  have P1 := hid (show pageV 1 8 10 7 1 = 77 by decide)
  have B := hid (show withinV 2 3 11 = 5 by decide)
  go_enter Try.func36, Try.ntmps36
  go_wp2_with fail
  refine (refCells 1 8 10 _).mono ?_
  rw [C.out]
  rintro e w1 ⟨rfl, hb1⟩
  obtain ⟨hc1, hf1, hz1⟩ := after hb1
  have z1 : w.heap.size < w1.heap.size := by simp at hz1; omega
  have c0 : w1.cell? ⟨w.heap.size, 0, none⟩ = some (.int .i64 1) := by rw [hc1 _ _ (by simp)]; exact cellNew rfl rfl
  have c1 : w1.cell? ⟨w.heap.size, 1, none⟩ = some (.int .i64 8) := by rw [hc1 _ _ (by simp)]; exact cellNew rfl rfl
  have c2 : w1.cell? ⟨w.heap.size, 2, none⟩ = some (.int .i64 10) := by rw [hc1 _ _ (by simp)]; exact cellNew rfl rfl
  have hB1 : Below w.heap.size w w1 := bel
  clear hc1 hf1
  go_wp2_with (refine wpMake rfl _ _ 41 25 rfl .u32 4 Try.underlying41 infoU32 _ (w.heap.size + 1) 82 rfl rfl (by decide) (by decide) (by omega) ?_; intro w2 hown2 hgrow2; have hb2 : Below w1.heap.size w1 w2 := (Below.refl _ _).grown hgrow2 (Nat.le_refl _) (by intro k hk; cases hk); obtain ⟨hc2, hf2, hz2⟩ := after hb2; have d0 := (hc2 _ _ z1).trans c0; have d1 := (hc2 _ _ z1).trans c1; have d2 := (hc2 _ _ z1).trans c2; have z2 : w.heap.size < w2.heap.size := (by omega); have u0 : w2.cell? ⟨w1.heap.size, 0, none⟩ = some (.int .u32 0) := hown2.cell rfl 0 (by omega); have u5 : w2.cell? ⟨w1.heap.size, 5, none⟩ = some (.int .u32 0) := hown2.cell rfl 5 (by omega); have u34 : w2.cell? ⟨w1.heap.size, 34, none⟩ = some (.int .u32 0) := hown2.cell rfl 34 (by omega); have u77 : w2.cell? ⟨w1.heap.size, 77, none⟩ = some (.int .u32 0) := hown2.cell rfl 77 (by omega); have fz : ∀ j, w2.frozen? ⟨w1.heap.size, j, none⟩ = false := hown2.unfrozen rfl; have zg : w1.heap.size < w2.heap.size := World.block_lt_of_cell? w2 _ u0; clear hc2 hf2)
  go_wp2_with (first
    | (go_at_call 78; refine (refBinOf8 _).mono ?_; rintro e w' ⟨rfl, rfl⟩)
    | (go_at_call 77; refine (rpBin 3 _).mono ?_; rw [B.out]; rintro e w' ⟨rfl, rfl⟩))
  go_region_with (first
    | (go_at_call 80; refine (rpInfo 1 8 10 0 _).mono ?_; rw [P0.out]; rintro e w3 ⟨rfl, hb3⟩; obtain ⟨hc3, hf3, hz3⟩ := after hb3; have z3 : w.heap.size < w3.heap.size := (by simp at hz3; omega); have z3' : w1.heap.size < w3.heap.size := (by simp at hz3; omega))
    | (go_at_call 79; refine (refInfoValue _).mono ?_; rintro e w4 ⟨rfl, hb4⟩; obtain ⟨hc4, hf4, hz4⟩ := after hb4; have z4 : w.heap.size < w4.heap.size := (by omega); have z4' : w1.heap.size < w4.heap.size := (by omega)))
  all_goals
    have o2 : Own 25 .u32 ((w2.setCell ⟨w1.heap.size, 0, none⟩ (.int .u32 8)).setCell ⟨w1.heap.size, 5, none⟩ (.int .u32 1)).drew (w.heap.size + 1) (.slice (some ⟨w1.heap.size, 0, none⟩) 82 82) (((List.replicate 82 0).set 0 8).set 5 1) := (hown2.stored rfl 0 8).stored rfl 5 1
    have o3 := Own.kept (w' := w3) o2 hb3 (Nat.le_refl _)
    have o4 := Own.kept (w' := w4) o3 hb4 (Nat.le_refl _)
    have o5 : Own 25 .u32 (w4.setCell ⟨w1.heap.size, 34, none⟩ (.int .u32 129)) (w.heap.size + 1) (.slice (some ⟨w1.heap.size, 0, none⟩) 82 82) ((((List.replicate 82 0).set 0 8).set 5 1).set 34 129) := o4.stored rfl 34 129
    have hB3 : Below w1.heap.size w1 w3 := ((hb2.setCell (Nat.le_refl _) _).setCell (Nat.le_refl _) _).drew.trans (hb3.mono (by simp; omega))
    have hB4 : Below w1.heap.size w1 w4 := hB3.trans (hb4.mono (by omega))
    have k0 : w4.cell? ⟨w.heap.size, 0, none⟩ = some (.int .i64 1) := (hB4.cell (p := ⟨w.heap.size, 0, none⟩) z1).trans c0
    have k1 : w4.cell? ⟨w.heap.size, 1, none⟩ = some (.int .i64 8) := (hB4.cell (p := ⟨w.heap.size, 1, none⟩) z1).trans c1
    have k2 : w4.cell? ⟨w.heap.size, 2, none⟩ = some (.int .i64 10) := (hB4.cell (p := ⟨w.heap.size, 2, none⟩) z1).trans c2
    clear hc3 hc4 hf3 hf4
    go_wp2_with fail
    refine (rpFoot 1 8 10 7 _).mono ?_
    rw [P1.out]
    rintro e w5 ⟨rfl, hb5⟩
    have o6 := Own.kept (w' := w5) o5 hb5 (Nat.le_refl _)
    have u77' : w5.cell? ⟨w1.heap.size, 77, none⟩ = some (.int .u32 0) := o6.cell rfl 77 (by omega)
    have f77 := o6.unfrozen rfl 77
    have o7 : Own 25 .u32 (w5.setCell ⟨w1.heap.size, 77, none⟩ (.int .u32 1)) (w.heap.size + 1) (.slice (some ⟨w1.heap.size, 0, none⟩) 82 82) freshV := o6.stored rfl 77 1
    have hB5 : Below w.heap.size w w5 := hB1.trans (((hB4.setCell (Nat.le_refl _) _).trans (hb5.mono (by simp; omega))).mono (by omega))
    have zl : w1.heap.size < w5.heap.size := World.block_lt_of_cell? w5 _ u77'
    go_wp2_with fail
    go_ret
    refine ⟨w1.heap.size, 82, rfl, by omega, by simpa using zl, ?_, hB5.setCell (by show w.heap.size ≤ w1.heap.size; omega) _⟩
    exact o7.rebase (by omega)
end Go.Proofs.Ytkkhoiahjmfibaa
