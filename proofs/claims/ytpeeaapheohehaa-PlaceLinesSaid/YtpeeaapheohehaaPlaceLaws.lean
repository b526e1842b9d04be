/- The walks of the statements on places: each answers true. -/
import Derived.Test.YtpeeaapheohehaaPlaceAt
namespace Go.Proofs.Ytpeeaapheohehaa
open Go.RowKit
set_option linter.unusedVariables false
set_option linter.unusedSimpArgs false


set_option maxHeartbeats 1600000 in
theorem livePlace (w : World) : Calls Try.prog 25 #[] w fun e w' => e = .returned (.bool true) ∧ Below w.heap.size w w' := by
  have C := hid (show cellsC 2 4 10 = 62 by decide)
  have W := hid (show wordsC 2 4 10 = 440 by decide)
  have N := hid (show noteW 2 4 10 0 = 96 by decide)
  have A := hid (show atV 2 4 10 8 = .agg #[.int .i64 2, .int .i64 0, .int .i64 0] by rw [atV, if_pos (by decide), if_neg (by decide), if_pos rfl])
  have PC := hidAll fun w => by have h := placeCells 2 4 10 w; rw [C.out] at h; exact h
  have PW := hidAll fun w => by have h := placeWords 2 4 10 w; rw [W.out] at h; exact h
  have PN := hidAll fun w => by have h := placeNote 2 4 10 0 w; rw [N.out] at h; exact h
  have PA := hidAll fun w => by have h := placeAt 2 4 10 8 w; rw [A.out] at h; exact h
  have hx := extCell
  go_enter Try.func25, Try.ntmps25
  go_wp2_with fail
  refine (PC.out _).mono ?_
  rintro e w1 ⟨rfl, hb1⟩
  obtain ⟨hc1, hf1, hz1⟩ := after hb1
  have z1 : w.heap.size < w1.heap.size := by (try simp at hz1); omega
  go_wp2_with fail
  refine (PW.out _).mono ?_
  rintro e w2 ⟨rfl, hb2⟩
  obtain ⟨hc2, hf2, hz2⟩ := after hb2
  have z2 : w.heap.size < w2.heap.size := by (try simp at hz2); omega
  go_wp2_with fail
  refine (PN.out _).mono ?_
  rintro e w3 ⟨rfl, hb3⟩
  obtain ⟨hc3, hf3, hz3⟩ := after hb3
  have z3 : w.heap.size < w3.heap.size := by (try simp at hz3); omega
  go_wp2_with fail
  refine (PA.out _).mono ?_
  rintro e w4 ⟨rfl, hb4⟩
  obtain ⟨hc4, hf4, hz4⟩ := after hb4
  have z4 : w.heap.size < w4.heap.size := by (try simp at hz4); omega
  go_wp2_with fail
  go_ret
  exact ⟨rfl, bel⟩


set_option maxHeartbeats 3200000 in
theorem lawPlaceCells (w : World) (t p s i f : Int) (t1 : -9223372036854775808 ≤ t) (t2 : t ≤ 9223372036854775807) (p1 : -9223372036854775808 ≤ p) (p2 : p ≤ 9223372036854775807) (s1 : -9223372036854775808 ≤ s) (s2 : s ≤ 9223372036854775807) (i1 : -9223372036854775808 ≤ i) (i2 : i ≤ 9223372036854775807) (f1 : -9223372036854775808 ≤ f) (f2 : f ≤ 9223372036854775807) :
    Calls Try.prog 8 #[.agg #[.int .i64 t, .int .i64 p, .int .i64 s], .int .i64 i, .int .i64 f] w fun e w' => e = .returned (.bool true) ∧ Below w.heap.size w w' := by
  have hx := extCell
  clear t1 t2 p1 p2 s1 s2 i1 i2 f1 f2
  go_enter Try.func8, Try.ntmps8
  go_wp2_with fail
  refine regionBelow (by kernel_rfl) (by kernel_rfl) ?_
  repeat (go_big_quiet_step ((first
    | (go_at_call 37; exact quietSame (placeBin _ _))
    | (go_at_call 38; exact quietSame (rpBin _ _))
    | (go_at_call 39; exact quietSame (placeRack _ _))
    | (go_at_call 40; exact quietSame (rpRack _ _))
    | (go_at_call 41; exact quietSame (placeRoot _ _))
    | (go_at_call 42; exact quietSame (rpRoot _ _))
    | (go_at_call 43; exact quietBelow (placeDone _ _ _ _ _ _))
    | (go_at_call 44; exact quietBelow (refDone _ _ _ _ _ _))
    | (go_at_call 45; exact quietBelow (placeCells _ _ _ _))
    | (go_at_call 46; exact quietBelow (refCells _ _ _ _)))))
  refine wpQuiet_nil ?_
  intro _ hw'
  obtain ⟨na, hw''⟩ := hw'
  subst hw''
  have hn_na := na.below
  have za : w.heap.size < na.to.heap.size := by have := hn_na.size; simp at this; omega
  go_wp2_with fail
  refine regionBelow (by kernel_rfl) (by kernel_rfl) ?_
  repeat (go_big_quiet_step ((first
    | (go_at_call 47; exact quietBelow (placeInfo _ _ _ _ _))
    | (go_at_call 48; exact quietBelow (rpInfo _ _ _ _ _))
    | (go_at_call 49; exact quietBelow (placeFoot _ _ _ _ _))
    | (go_at_call 50; exact quietBelow (rpFoot _ _ _ _ _))
    | (go_at_call 51; exact quietBelow (placeNext _ _ _ _ _))
    | (go_at_call 52; exact quietBelow (rpNext _ _ _ _ _))
    | (go_at_call 53; exact quietBelow (placePrev _ _ _ _ _))
    | (go_at_call 54; exact quietBelow (rpPrev _ _ _ _ _)))))
  refine wpQuiet_nil ?_
  intro _ hw'
  obtain ⟨nb, hw''⟩ := hw'
  subst hw''
  have hn_nb := nb.below
  have zb : w.heap.size < nb.to.heap.size := by have := hn_nb.size; (try simp at this); omega
  go_wp2_with fail
  refine regionBelow (by kernel_rfl) (by kernel_rfl) ?_
  repeat (go_big_quiet_step ((first
    | (go_at_call 55; exact quietBelow (placeSlots _ _ _ _ _))
    | (go_at_call 56; exact quietBelow (rpSlots _ _ _ _ _))
    | (go_at_call 57; exact quietBelow (placeTaken _ _ _ _ _))
    | (go_at_call 58; exact quietBelow (rpTaken _ _ _ _ _))
    | (go_at_call 25; exact quietBelow (livePlace _)))))
  refine wpQuiet_nil ?_
  intro _ hw'
  obtain ⟨nc, hw''⟩ := hw'
  subst hw''
  have hn_nc := nc.below
  go_wp2
  go_ret
  exact ⟨rfl, bel⟩

set_option maxHeartbeats 3200000 in
theorem lawPlaceWords (w : World) (t p s u i : Int) (t1 : -9223372036854775808 ≤ t) (t2 : t ≤ 9223372036854775807) (p1 : -9223372036854775808 ≤ p) (p2 : p ≤ 9223372036854775807) (s1 : -9223372036854775808 ≤ s) (s2 : s ≤ 9223372036854775807) (u1 : -9223372036854775808 ≤ u) (u2 : u ≤ 9223372036854775807) (i1 : -9223372036854775808 ≤ i) (i2 : i ≤ 9223372036854775807) :
    Calls Try.prog 6 #[.agg #[.int .i64 t, .int .i64 p, .int .i64 s], .int .i64 u, .int .i64 i] w fun e w' => e = .returned (.bool true) ∧ Below w.heap.size w w' := by
  have hx := extCell
  clear t1 t2 p1 p2 s1 s2 u1 u2 i1 i2
  obtain ⟨k, a, b, hf⟩ := atForm t p s i
  have F := hid hf
  clear hf
  have PA := hidAll fun w => by have h := placeAt t p s i w; rw [F.out] at h; exact h
  have RA := hidAll fun w => by have h := refAt t p s i w; rw [F.out] at h; exact h
  go_enter Try.func6, Try.ntmps6
  go_wp2_with fail
  refine regionBelow (by kernel_rfl) (by kernel_rfl) ?_
  repeat (go_big_quiet_step ((first
    | (go_at_call 24; exact quietBelow (placeWords _ _ _ _))
    | (go_at_call 27; exact quietBelow (refWords _ _ _ _))
    | (go_at_call 28; exact quietBelow (placeWord _ _ _ _ _))
    | (go_at_call 29; exact quietBelow (refCellW _ _ _ _ _))
    | (go_at_call 30; exact quietBelow (placeCall _ _ _ _ _ _))
    | (go_at_call 31; exact quietBelow (refCallW _ _ _ _ _ _))
    | (go_at_call 32; exact quietBelow (placeNote _ _ _ _ _))
    | (go_at_call 33; exact quietBelow (refNoteW _ _ _ _ _))
    | (go_at_call 34; exact quietBelow (placeLog _ _ _ _ _ _))
    | (go_at_call 35; exact quietBelow (refLogW _ _ _ _ _ _)))))
  refine wpQuiet_nil ?_
  intro _ hw'
  obtain ⟨na, hw''⟩ := hw'
  subst hw''
  have hn_na := na.below
  have za : w.heap.size < na.to.heap.size := by have := hn_na.size; simp at this; omega
  go_wp2_with fail
  refine regionBelow (by kernel_rfl) (by kernel_rfl) ?_
  repeat (go_big_quiet_step ((first
    | (go_at_call 26; exact quietBelow (PA.out _))
    | (go_at_call 36; exact quietBelow (RA.out _))
    | (go_at_call 25; exact quietBelow (livePlace _)))))
  refine wpQuiet_nil ?_
  intro _ hw'
  obtain ⟨nc, hw''⟩ := hw'
  subst hw''
  have hn_nc := nc.below
  go_wp2
  go_ret
  exact ⟨rfl, bel⟩
end Go.Proofs.Ytpeeaapheohehaa
