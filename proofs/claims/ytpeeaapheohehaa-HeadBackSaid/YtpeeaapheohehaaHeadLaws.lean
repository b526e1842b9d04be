/- The walk of the statement on heads' encodings: it answers true. -/
import Derived.Test.YtpeeaapheohehaaHead
import Derived.Deep.RegionHeld3
namespace Go.Proofs.Ytpeeaapheohehaa
open Go.RowKit
set_option linter.unusedVariables false
set_option linter.unusedSimpArgs false

set_option maxHeartbeats 800000 in
theorem liveHead (w : World) : Calls Try.prog 17 #[] w fun e w' => e = .returned (.bool true) ∧ Below w.heap.size w w' := by
  have R := hid (show rightC 2 4 10 = true by decide)
  have C3 := hid (show (headN 2 4 10)[3]?.getD 0 = 440 by rfl)
  have C1 := hid (show (headN 2 4 10)[1]?.getD 0 = 1 by rfl)
  go_enter Try.func17, Try.ntmps17
  go_wp2_with fail
  refine (headEncYes 2 4 10 _ R.out).mono ?_
  rintro e w1 ⟨g, cap, rfl, hg, hgs, hown, hb1⟩
  have k3 := hown.cell rfl 3 (by omega)
  have k1 := hown.cell rfl 1 (by omega)
  rw [C3.out] at k3
  rw [C1.out] at k1
  go_wp2_with fail
  go_ret
  exact ⟨rfl, bel⟩

theorem stepB {w W wx : World} {B : Nat} (h1 : Below W.heap.size W wx) (h2 : Below B w W) (h3 : B ≤ W.heap.size) : Below B w wx := h2.trans (h1.mono h3)

/-- Behind a call that makes memory of its own: what was held of the cells of a configuration's box. -/
def ConfS (w : World) (t p s : Int) (w' : World) : Prop := (w'.cell? ⟨w.heap.size, 0, none⟩ = some (.int .i64 t) ∧ w'.cell? ⟨w.heap.size, 1, none⟩ = some (.int .i64 p) ∧ w'.cell? ⟨w.heap.size, 2, none⟩ = some (.int .i64 s)) ∧ w.heap.size < w'.heap.size ∧ Below w.heap.size w w'

set_option maxHeartbeats 1600000 in
theorem lawHeadEncodes (w : World) (t p s : Int) (t1 : -9223372036854775808 ≤ t) (t2 : t ≤ 9223372036854775807) (p1 : -9223372036854775808 ≤ p) (p2 : p ≤ 9223372036854775807) (s1 : -9223372036854775808 ≤ s) (s2 : s ≤ 9223372036854775807) :
    Calls Try.prog 3 #[.agg #[.int .i64 t, .int .i64 p, .int .i64 s]] w fun e w' => e = .returned (.bool true) ∧ Below w.heap.size w w' := by
  clear t1 t2 p1 p2 s1 s2
  have hr : ∃ c, rightC t p s = c := ⟨_, rfl⟩
  obtain ⟨c, hr⟩ := hr
  cases c
  · have R := hid hr; clear hr
    go_enter Try.func3, Try.ntmps3
    go_wp2_with fail
    go_region_held3 (fun w' => (w'.cell? ⟨w.heap.size, 0, none⟩ = some (.int .i64 t) ∧ w'.cell? ⟨w.heap.size, 1, none⟩ = some (.int .i64 p) ∧ w'.cell? ⟨w.heap.size, 2, none⟩ = some (.int .i64 s)) ∧ w.heap.size < w'.heap.size)
      (((go_split_ands); (try dsimp only); (repeat' apply And.intro); (all_goals first | go_keep | omega)))
      (first
        | (go_at_call 15; refine (headEncNo t p s _ R.out).mono ?_; rintro e wx ⟨rfl, hbx⟩; obtain ⟨hcx, hfx, hzx⟩ := after hbx)
        | (go_at_call 16; refine (refEncNo t p s _ R.out).mono ?_; rintro e wx ⟨rfl, hbx⟩; obtain ⟨hcx, hfx, hzx⟩ := after hbx)
        | (go_at_call 14; refine (refSameWordsB _ none none 0 0 0 0 [] [] (Seen.empty _ _ _ _ (by omega) (fun _ => rfl)) (Seen.empty _ _ _ _ (by omega) (fun _ => rfl))).mono ?_; rintro e wx ⟨rfl, hbx⟩; obtain ⟨hcx, hfx, hzx⟩ := after hbx)
        | (go_at_call 17; refine (liveHead _).mono ?_; rintro e wx ⟨rfl, hbx⟩; obtain ⟨hcx, hfx, hzx⟩ := after hbx))
    all_goals go_wp2
    all_goals go_ret
    all_goals have zz : w.heap.size < (w.alloc (.cells #[.int .i64 t, .int .i64 p, .int .i64 s] 23)).drew.heap.size := by simp
    all_goals exact ⟨rfl, bel⟩
  · have R := hid hr; clear hr
    go_enter Try.func3, Try.ntmps3
    go_wp2_with fail
    go_region_held3 (fun w' => (w'.cell? ⟨w.heap.size, 0, none⟩ = some (.int .i64 t) ∧ w'.cell? ⟨w.heap.size, 1, none⟩ = some (.int .i64 p) ∧ w'.cell? ⟨w.heap.size, 2, none⟩ = some (.int .i64 s)) ∧ w.heap.size < w'.heap.size)
      (((go_split_ands); (try dsimp only); (repeat' apply And.intro); (all_goals first | go_keep | omega)))
      (first
        | (go_at_call 15; refine (headEncYes t p s _ R.out).mono ?_; rintro e wx ⟨g, cap, rfl, hg, hgs, hown, hbx⟩; obtain ⟨hcx, hfx, hzx⟩ := after hbx)
        | (go_at_call 16; refine (refEncYes t p s _ R.out).mono ?_; rintro e wx ⟨g, cap, rfl, hg, hgs, hown, hbx⟩; obtain ⟨hcx, hfx, hzx⟩ := after hbx)
        | (go_at_call 14; refine (refSameWordsB _ _ _ _ _ _ _ (headN t p s) (headN t p s) (Own.seen (Own.kept (by assumption) (by assumption) (Nat.le_refl _))) (Own.seen (by assumption))).mono ?_; simp only [beq_self_eq_true]; rintro e wx ⟨rfl, hbx⟩; obtain ⟨hcx, hfx, hzx⟩ := after hbx)
        | (go_at_call 17; refine (liveHead _).mono ?_; rintro e wx ⟨rfl, hbx⟩; obtain ⟨hcx, hfx, hzx⟩ := after hbx))
    all_goals go_wp2
    all_goals go_ret
    all_goals have zz : w.heap.size < (w.alloc (.cells #[.int .i64 t, .int .i64 p, .int .i64 s] 23)).drew.heap.size := by simp
    all_goals exact ⟨rfl, bel⟩
end Go.Proofs.Ytpeeaapheohehaa
