/- The walks of the statements on the words of changes: each answers true. -/
import Derived.Test.YtdobepeeenjeeaaMark2
namespace Go.Proofs.Ytdobepeeenjeeaa
open Go.RowKit
set_option linter.unusedVariables false
set_option linter.unusedSimpArgs false

set_option maxHeartbeats 800000 in
theorem liveMark (w : World) : Calls Try.prog 46 #[] w fun e w' => e = .returned (.bool true) ∧ Below w.heap.size w w' := by
  have hn := hid (show noteV 2 4 true = .tuple #[.int .u64 10737418244, .bool true] by rw [noteV, if_pos (by decide)]; rfl)
  have ht := hid (show ofTipV 4294967313 = .tuple #[.int .u32 0, .int .i64 0, .bool false] by rw [ofTipV, if_neg (by decide)])
  go_enter Try.func46, Try.ntmps46
  go_wp2_with fail
  refine (markNote 2 4 true _ (by omega) (by omega)).mono ?_
  rw [hn.out]
  rintro e w2 ⟨rfl, hb2⟩
  obtain ⟨hc2, hf2, hz2⟩ := after hb2
  go_wp2_with fail
  refine (refJoin 1 17 _ (by omega) (by omega) (by omega) (by omega)).mono ?_
  rintro e w3 ⟨rfl, rfl⟩
  go_wp2_with fail
  refine (markOfTip 4294967313 _ (by omega) (by omega)).mono ?_
  rw [ht.out]
  rintro e w4 ⟨rfl, rfl⟩
  go_wp2_with fail
  refine (refJoin 2 2147483652 _ (by omega) (by omega) (by omega) (by omega)).mono ?_
  rintro e w5 ⟨rfl, rfl⟩
  go_wp2_with fail
  go_ret
  exact ⟨rfl, bel⟩

theorem noteForm (s c : Int) (o : Bool) : ∃ n b, noteV s c o = .tuple #[.int .u64 n, .bool b] := by
  unfold noteV
  split
  · exact ⟨_, _, rfl⟩
  · exact ⟨_, _, rfl⟩
theorem ofNoteForm (x : Int) : ∃ s o c b, ofNoteV x = .tuple #[.agg #[.int .u32 s, .bool o, .int .i64 c], .bool b] := by
  unfold ofNoteV
  split
  · exact ⟨_, _, _, _, rfl⟩
  · exact ⟨_, _, _, _, rfl⟩
theorem openForm (x s : Int) : ∃ c b, openV x s = .tuple #[.int .i64 c, .bool b] := by
  unfold openV
  split
  · exact ⟨_, _, rfl⟩
  · exact ⟨_, _, rfl⟩

set_option maxHeartbeats 1600000 in
theorem lawMarkNotes (w : World) (x s : Nat) (o : Bool) (c : Int) (t : Nat) (hx : x < 18446744073709551616) (hs : s < 4294967296) (c1 : -9223372036854775808 ≤ c) (c2 : c ≤ 9223372036854775807) (ht : t < 4294967296) :
    Calls Try.prog 10 #[.int .u64 x, .agg #[.int .u32 s, .bool o, .int .i64 c], .int .u32 t] w fun e w' => e = .returned (.bool true) ∧ Below w.heap.size w w' := by
  obtain ⟨n, b, h1⟩ := noteForm s c o
  obtain ⟨a, p, d, g, h2⟩ := ofNoteForm x
  obtain ⟨m, q, h3⟩ := openForm x t
  have F := hid h1; have G := hid h2; have K := hid h3
  clear c1 c2 h1 h2 h3
  go_enter Try.func10, Try.ntmps10
  go_wp2_with fail
  refine (markNote s c o _ (by omega) (by omega)).mono ?_
  rw [F.out]
  rintro e w1 ⟨rfl, hb1⟩
  obtain ⟨hc1, hf1, hz1⟩ := after hb1
  have z1 : w.heap.size < w1.heap.size := by simp at hz1; omega
  go_wp2_with fail
  refine (refNote s c o _ (by omega) (by omega)).mono ?_
  rw [F.out]
  rintro e w2 ⟨rfl, hb2⟩
  have z2 : w.heap.size < w2.heap.size := by have := hb2.size; omega
  go_wp2_with fail
  refine (markOfNote x _ hx).mono ?_
  rw [G.out]
  rintro e w3 ⟨rfl, hb3⟩
  have z3 : w.heap.size < w3.heap.size := by have := hb3.size; omega
  go_wp2_with fail
  refine (refOfNote x _ (by omega) (by omega)).mono ?_
  rw [G.out]
  rintro e w4 ⟨rfl, hb4⟩
  obtain ⟨hc4, hf4, hz4⟩ := after hb4
  have z4 : w3.heap.size < w4.heap.size := by simp at hz4; omega
  have z4' : w.heap.size < w4.heap.size := by omega
  go_wp2_with fail
  refine (markOpen x t _ hx).mono ?_
  rw [K.out]
  rintro e w5 ⟨rfl, hb5⟩
  obtain ⟨hc5, hf5, hz5⟩ := after hb5
  have z5 : w4.heap.size < w5.heap.size := by simp at hz5; omega
  have z5' : w3.heap.size < w5.heap.size := by omega
  have z5'' : w.heap.size < w5.heap.size := by omega
  go_wp2_with fail
  refine (refOpen x t _ (by omega) (by omega)).mono ?_
  rw [K.out]
  rintro e w6 ⟨rfl, hb6⟩
  obtain ⟨hc6, hf6, hz6⟩ := after hb6
  have z6 : w4.heap.size < w6.heap.size := by omega
  have z6' : w3.heap.size < w6.heap.size := by omega
  have z6'' : w.heap.size < w6.heap.size := by omega
  go_wp2_with fail
  refine (liveMark _).mono ?_
  rintro e w7 ⟨rfl, hb7⟩
  go_wp2
  go_ret
  exact ⟨rfl, bel⟩

theorem tipForm (s u : Int) : ∃ n b, tipV s u = .tuple #[.int .u64 n, .bool b] := by
  unfold tipV
  split
  · exact ⟨_, _, rfl⟩
  · exact ⟨_, _, rfl⟩
theorem ofTipForm (x : Int) : ∃ s u b, ofTipV x = .tuple #[.int .u32 s, .int .i64 u, .bool b] := by
  unfold ofTipV
  split
  · exact ⟨_, _, _, rfl⟩
  · exact ⟨_, _, _, rfl⟩
theorem entryForm (c v : Int) : ∃ n b, entryV c v = .tuple #[.int .u64 n, .bool b] := by
  unfold entryV
  split
  · exact ⟨_, _, rfl⟩
  · exact ⟨_, _, rfl⟩
theorem ofEntryForm (x : Int) : ∃ c v b, ofEntryV x = .tuple #[.agg #[.int .i64 c, .int .u32 v], .bool b] := by
  unfold ofEntryV
  split
  · exact ⟨_, _, _, rfl⟩
  · exact ⟨_, _, _, rfl⟩

theorem markCell (s v : Int) (w : World) (s0 : 0 ≤ s) (s1 : s < 4294967296) (v0 : 0 ≤ v) (v1 : v < 4294967296) :
    Calls Try.prog 55 #[.int .u32 s, .int .u32 v] w fun e w' => e = .returned (.int .u64 (s * 4294967296 + v)) ∧ w = w' := by
  go_enter Try.func55, Try.ntmps55
  go_wp2_with fail
  refine (halfJoin s v _ s0 s1 v0 v1).mono ?_
  rintro e w1 ⟨rfl, rfl⟩
  go_wp2_with fail
  go_ret
  exact ⟨rfl, rfl⟩
theorem markStamp (x : Int) (w : World) (x0 : 0 ≤ x) (hx : x < 18446744073709551616) :
    Calls Try.prog 57 #[.int .u64 x] w fun e w' => e = .returned (.int .u32 (x / 4294967296)) ∧ w = w' := by
  go_enter Try.func57, Try.ntmps57
  go_wp2_with fail
  refine (halfHi x _ x0 hx).mono ?_
  rintro e w1 ⟨rfl, rfl⟩
  go_wp2_with fail
  go_ret
  exact ⟨rfl, rfl⟩
theorem markVal (x : Int) (w : World) (x0 : 0 ≤ x) (hx : x < 18446744073709551616) :
    Calls Try.prog 59 #[.int .u64 x] w fun e w' => e = .returned (.int .u32 (x % 4294967296)) ∧ w = w' := by
  go_enter Try.func59, Try.ntmps59
  go_wp2_with fail
  refine (halfLo x _ x0 hx).mono ?_
  rintro e w1 ⟨rfl, rfl⟩
  go_wp2_with fail
  go_ret
  exact ⟨rfl, rfl⟩

set_option maxHeartbeats 1600000 in
theorem lawMarkWords (w : World) (x s : Nat) (c : Int) (v : Nat) (hx : x < 18446744073709551616) (hs : s < 4294967296) (c1 : -9223372036854775808 ≤ c) (c2 : c ≤ 9223372036854775807) (hv : v < 4294967296) :
    Calls Try.prog 11 #[.int .u64 x, .int .u32 s, .agg #[.int .i64 c, .int .u32 v]] w fun e w' => e = .returned (.bool true) ∧ Below w.heap.size w w' := by
  obtain ⟨n, b, h1⟩ := tipForm s c
  obtain ⟨a, p, d, h2⟩ := ofTipForm x
  obtain ⟨m, q, h3⟩ := entryForm c v
  obtain ⟨f, g, k, h4⟩ := ofEntryForm x
  have T := hid h1; have O := hid h2; have E := hid h3; have G := hid h4
  have hq := extCell
  clear c1 c2 h1 h2 h3 h4
  go_enter Try.func11, Try.ntmps11
  go_wp2_with fail
  refine (markTip s c _ (by omega) (by omega)).mono ?_
  rw [T.out]
  rintro e w1 ⟨rfl, rfl⟩
  go_wp2_with fail
  refine (refTip s c _ (by omega) (by omega)).mono ?_
  rw [T.out]
  rintro e w1 ⟨rfl, rfl⟩
  go_wp2_with fail
  refine (markOfTip x _ (by omega) (by omega)).mono ?_
  rw [O.out]
  rintro e w1 ⟨rfl, rfl⟩
  go_wp2_with fail
  refine (refOfTip x _ (by omega) (by omega)).mono ?_
  rw [O.out]
  rintro e w1 ⟨rfl, rfl⟩
  go_wp2_with fail
  refine (markEntry c v _ (by omega) (by omega)).mono ?_
  rw [E.out]
  rintro e w1 ⟨rfl, hb1⟩
  obtain ⟨hc1, hf1, hz1⟩ := after hb1
  have z1 : w.heap.size < w1.heap.size := by simp at hz1; omega
  go_wp2_with fail
  refine (refEntry c v _ (by omega) (by omega)).mono ?_
  rw [E.out]
  rintro e w2 ⟨rfl, hb2⟩
  obtain ⟨hc2, hf2, hz2⟩ := after hb2
  have z2 : w.heap.size < w2.heap.size := by omega
  go_wp2_with fail
  refine (markOfEntry x _ (by omega) (by omega)).mono ?_
  rw [G.out]
  rintro e w3 ⟨rfl, hb3⟩
  obtain ⟨hc3, hf3, hz3⟩ := after hb3
  have z3 : w.heap.size < w3.heap.size := by omega
  go_wp2_with fail
  refine (refOfEntry x _ (by omega) (by omega)).mono ?_
  rw [G.out]
  rintro e w4 ⟨rfl, hb4⟩
  obtain ⟨hc4, hf4, hz4⟩ := after hb4
  have z4 : w3.heap.size < w4.heap.size := by simp at hz4; omega
  have z4' : w.heap.size < w4.heap.size := by omega
  go_wp2_with fail
  refine regionBelow (by kernel_rfl) (by kernel_rfl) ?_
  repeat (go_big_quiet_step ((first
    | (go_at_call 55; exact quietSame (markCell _ _ _ (by omega) (by omega) (by omega) (by omega)))
    | (go_at_call 56; exact quietSame (refJoin _ _ _ (by omega) (by omega) (by omega) (by omega)))
    | (go_at_call 57; exact quietSame (markStamp _ _ (by omega) (by omega)))
    | (go_at_call 58; exact quietSame (refHi _ _ (by omega) (by omega)))
    | (go_at_call 59; exact quietSame (markVal _ _ (by omega) (by omega)))
    | (go_at_call 60; exact quietSame (refLo _ _ (by omega) (by omega)))
    | (go_at_call 46; exact quietBelow (liveMark _)))))
  refine wpQuiet_nil ?_
  intro _ hw'
  obtain ⟨nq, hw''⟩ := hw'
  subst hw''
  go_wp2
  go_ret
  have hn := nq.below
  exact ⟨rfl, bel⟩
end Go.Proofs.Ytdobepeeenjeeaa
