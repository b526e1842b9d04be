/- The walk of the statement on what is put and got: it answers true. -/
import Derived.Test.YtdobepeeenjeeaaMarkLaws
namespace Go.Proofs.Ytdobepeeenjeeaa
open Go.RowKit
set_option linter.unusedVariables false
set_option linter.unusedSimpArgs false

theorem noteBack {s c : Int} (o : Bool) (s0 : 0 ≤ s) (s1 : s < 4294967296) (h : 0 ≤ c ∧ c ≤ 96) (t : Int) (ht : t ≠ s) :
    ∃ n : Nat, n < 18446744073709551616 ∧ noteV s c o = .tuple #[.int .u64 n, .bool true] ∧ ofNoteV n = .tuple #[.agg #[.int .u32 s, .bool o, .int .i64 c], .bool true] ∧
      openV n s = .tuple #[.int .i64 (if o then c else 0), .bool o] ∧ openV n t = .tuple #[.int .i64 0, .bool false] := by
  obtain ⟨h1, h2⟩ := h
  obtain ⟨n, hn⟩ := Int.eq_ofNat_of_zero_le (show 0 ≤ s * 4294967296 + c + (if o then 2147483648 else 0) by cases o <;> simp <;> omega)
  have e : noteV s c o = .tuple #[.int .u64 n, .bool true] := by rw [noteV, if_pos ⟨h1, h2⟩, hn]
  refine ⟨n, by cases o <;> simp at hn <;> omega, e, ?_⟩
  cases o
  · simp at hn
    have e1 : (n : Int) % 2147483648 = c := by omega
    have e2 : (n : Int) / 2147483648 % 2 = 0 := by omega
    have e3 : (n : Int) / 4294967296 = s := by omega
    refine ⟨?_, ?_, ?_⟩
    · rw [ofNote_shut (by omega) e2, e1, e3]
    · rw [openV, if_neg (by omega)]; rfl
    · rw [openV, if_neg (by omega)]
  · simp at hn
    have e1 : (n : Int) % 2147483648 = c := by omega
    have e2 : (n : Int) / 2147483648 % 2 = 1 := by omega
    have e3 : (n : Int) / 4294967296 = s := by omega
    refine ⟨?_, ?_, ?_⟩
    · rw [ofNote_open (by omega) e2, e1, e3]
    · rw [openV, if_pos ⟨by omega, e2, e3⟩, e1]; rfl
    · rw [openV, if_neg (fun h => ht (by omega))]
theorem noteAgain (x : Nat) (hx : x < 18446744073709551616) : ofNoteV x = .tuple #[.agg #[.int .u32 0, .bool false, .int .i64 0], .bool false] ∨
    ∃ (s : Nat) (o : Bool) (c : Int), s < 4294967296 ∧ ofNoteV x = .tuple #[.agg #[.int .u32 s, .bool o, .int .i64 c], .bool true] ∧ noteV s c o = .tuple #[.int .u64 x, .bool true] := by
  by_cases h : (x : Int) % 2147483648 ≤ 96
  · right
    rcases (show (x : Int) / 2147483648 % 2 = 0 ∨ (x : Int) / 2147483648 % 2 = 1 by omega) with h2 | h2
    · refine ⟨x / 4294967296, false, (x : Int) % 2147483648, by omega, ?_, ?_⟩
      · rw [ofNote_shut h h2]; rfl
      · rw [noteV, if_pos ⟨by omega, h⟩]
        have : ((x / 4294967296 : Nat) : Int) * 4294967296 + (x : Int) % 2147483648 + (if false = true then 2147483648 else 0) = x := by simp; omega
        rw [this]
    · refine ⟨x / 4294967296, true, (x : Int) % 2147483648, by omega, ?_, ?_⟩
      · rw [ofNote_open h h2]; rfl
      · rw [noteV, if_pos ⟨by omega, h⟩]
        have : ((x / 4294967296 : Nat) : Int) * 4294967296 + (x : Int) % 2147483648 + (if true = true then 2147483648 else 0) = x := by simp; omega
        rw [this]
  · exact .inl (ofNote_no h)
theorem entryBack (c : Int) (v : Nat) (hv : v < 4294967296) : entryV c v = .tuple #[.int .u64 0, .bool false] ∨
    ∃ n : Nat, n < 18446744073709551616 ∧ entryV c v = .tuple #[.int .u64 n, .bool true] ∧ ofEntryV n = .tuple #[.agg #[.int .i64 c, .int .u32 v], .bool true] := by
  by_cases h : 0 ≤ c ∧ c ≤ 65535
  · right
    obtain ⟨n, hn⟩ := Int.eq_ofNat_of_zero_le (show 0 ≤ c * 4294967296 + v by omega)
    refine ⟨n, by omega, by rw [entryV, if_pos h, hn], ?_⟩
    have e1 : (n : Int) / 4294967296 = c := by omega
    have e2 : (n : Int) % 4294967296 = v := by omega
    rw [ofEntryV, e1, e2, if_pos h.2]
  · left
    rw [entryV, if_neg h]
theorem xorOne (s : Nat) (hs : s < 4294967296) : ∃ t : Nat, t < 4294967296 ∧ (t : Int) ≠ s ∧ bits .xor .u32 (s : Int) 1 = (t : Int) := by
  refine ⟨s ^^^ 1, Nat.xor_lt_two_pow (n := 32) (by omega) (by omega), ?_, u32_xor_nat s 1 hs (by omega)⟩
  intro h
  have h1 : s ^^^ 1 = s := by omega
  have h2 := congrArg (fun n => s ^^^ n) h1
  simp only [← Nat.xor_assoc, Nat.xor_self, Nat.zero_xor] at h2
  omega


set_option maxHeartbeats 3200000 in
theorem markBack000 (w : World) (x s : Nat) (o : Bool) (c p : Int) (v n t a m : Nat) (d : Bool) (g : Int) (hx : x < 18446744073709551616) (hs : s < 4294967296) (hv : v < 4294967296)
    (N : Hid (noteV s c o = .tuple #[.int .u64 0, .bool false])) (A : Hid (ofNoteV x = .tuple #[.agg #[.int .u32 0, .bool false, .int .i64 0], .bool false])) (E : Hid (entryV p v = .tuple #[.int .u64 0, .bool false])) :
    Calls Try.prog 14 #[.int .u64 x, .agg #[.int .u32 s, .bool o, .int .i64 c], .agg #[.int .i64 p, .int .u32 v]] w fun e w' => e = .returned (.bool true) ∧ Below w.heap.size w w' := by
  go_enter Try.func14, Try.ntmps14
  go_wp2_with fail
  refine (markNote s c o _ (by omega) (by omega)).mono ?_
  rw [N.out]
  rintro e w1 ⟨rfl, hb1⟩
  obtain ⟨hc1, hf1, hz1⟩ := after hb1
  have z1 : w.heap.size ≤ w1.heap.size := by (try simp at hz1); omega
  have y1_0 : w.heap.size < w1.heap.size := by (try simp at hz1); omega
  have y1_1 : w.heap.size + 1 < w1.heap.size := by (try simp at hz1); omega
  go_wp2_with fail
  refine (markOfNote x _ hx).mono ?_
  rw [A.out]
  rintro e w2 ⟨rfl, hb2⟩
  obtain ⟨hc2, hf2, hz2⟩ := after hb2
  have z2 : w1.heap.size ≤ w2.heap.size := by (try simp at hz2); omega
  have y2_0 : w.heap.size < w2.heap.size := by (try simp at hz2); omega
  have y2_1 : w.heap.size + 1 < w2.heap.size := by (try simp at hz2); omega
  go_wp2_with fail
  refine (markEntry p v _ (by omega) (by omega)).mono ?_
  rw [E.out]
  rintro e w3 ⟨rfl, hb3⟩
  obtain ⟨hc3, hf3, hz3⟩ := after hb3
  have z3 : w2.heap.size ≤ w3.heap.size := by (try simp at hz3); omega
  have y3_0 : w.heap.size < w3.heap.size := by (try simp at hz3); omega
  have y3_1 : w.heap.size + 1 < w3.heap.size := by (try simp at hz3); omega
  go_wp2_with fail
  refine (liveMark _).mono ?_
  rintro e w4 ⟨rfl, hb4⟩
  obtain ⟨hc4, hf4, hz4⟩ := after hb4
  have z4 : w3.heap.size ≤ w4.heap.size := by (try simp at hz4); omega
  have y4_0 : w.heap.size < w4.heap.size := by (try simp at hz4); omega
  have y4_1 : w.heap.size + 1 < w4.heap.size := by (try simp at hz4); omega
  go_wp2
  go_ret
  exact ⟨rfl, bel⟩

set_option maxHeartbeats 3200000 in
theorem markBack001 (w : World) (x s : Nat) (o : Bool) (c p : Int) (v n t a m : Nat) (d : Bool) (g : Int) (hx : x < 18446744073709551616) (hs : s < 4294967296) (hv : v < 4294967296)
    (N : Hid (noteV s c o = .tuple #[.int .u64 0, .bool false])) (A : Hid (ofNoteV x = .tuple #[.agg #[.int .u32 0, .bool false, .int .i64 0], .bool false])) (E : Hid (entryV p v = .tuple #[.int .u64 m, .bool true])) (hm : m < 18446744073709551616) (F : Hid (ofEntryV m = .tuple #[.agg #[.int .i64 p, .int .u32 v], .bool true])) :
    Calls Try.prog 14 #[.int .u64 x, .agg #[.int .u32 s, .bool o, .int .i64 c], .agg #[.int .i64 p, .int .u32 v]] w fun e w' => e = .returned (.bool true) ∧ Below w.heap.size w w' := by
  go_enter Try.func14, Try.ntmps14
  go_wp2_with fail
  refine (markNote s c o _ (by omega) (by omega)).mono ?_
  rw [N.out]
  rintro e w1 ⟨rfl, hb1⟩
  obtain ⟨hc1, hf1, hz1⟩ := after hb1
  have z1 : w.heap.size ≤ w1.heap.size := by (try simp at hz1); omega
  have y1_0 : w.heap.size < w1.heap.size := by (try simp at hz1); omega
  have y1_1 : w.heap.size + 1 < w1.heap.size := by (try simp at hz1); omega
  go_wp2_with fail
  refine (markOfNote x _ hx).mono ?_
  rw [A.out]
  rintro e w2 ⟨rfl, hb2⟩
  obtain ⟨hc2, hf2, hz2⟩ := after hb2
  have z2 : w1.heap.size ≤ w2.heap.size := by (try simp at hz2); omega
  have y2_0 : w.heap.size < w2.heap.size := by (try simp at hz2); omega
  have y2_1 : w.heap.size + 1 < w2.heap.size := by (try simp at hz2); omega
  go_wp2_with fail
  refine (markEntry p v _ (by omega) (by omega)).mono ?_
  rw [E.out]
  rintro e w3 ⟨rfl, hb3⟩
  obtain ⟨hc3, hf3, hz3⟩ := after hb3
  have z3 : w2.heap.size ≤ w3.heap.size := by (try simp at hz3); omega
  have y3_0 : w.heap.size < w3.heap.size := by (try simp at hz3); omega
  have y3_1 : w.heap.size + 1 < w3.heap.size := by (try simp at hz3); omega
  go_wp2_with fail
  refine (markOfEntry m _ (by omega) (by omega)).mono ?_
  rw [F.out]
  rintro e w4 ⟨rfl, hb4⟩
  obtain ⟨hc4, hf4, hz4⟩ := after hb4
  have z4 : w3.heap.size ≤ w4.heap.size := by (try simp at hz4); omega
  have y4_0 : w.heap.size < w4.heap.size := by (try simp at hz4); omega
  have y4_1 : w.heap.size + 1 < w4.heap.size := by (try simp at hz4); omega
  go_wp2_with fail
  refine (liveMark _).mono ?_
  rintro e w5 ⟨rfl, hb5⟩
  obtain ⟨hc5, hf5, hz5⟩ := after hb5
  have z5 : w4.heap.size ≤ w5.heap.size := by (try simp at hz5); omega
  have y5_0 : w.heap.size < w5.heap.size := by (try simp at hz5); omega
  have y5_1 : w.heap.size + 1 < w5.heap.size := by (try simp at hz5); omega
  have y5_2 : w4.heap.size < w5.heap.size := by (try simp at hz5); omega
  go_wp2
  go_ret
  exact ⟨rfl, bel⟩

set_option maxHeartbeats 3200000 in
theorem markBack010 (w : World) (x s : Nat) (o : Bool) (c p : Int) (v n t a m : Nat) (d : Bool) (g : Int) (hx : x < 18446744073709551616) (hs : s < 4294967296) (hv : v < 4294967296)
    (N : Hid (noteV s c o = .tuple #[.int .u64 0, .bool false])) (A : Hid (ofNoteV x = .tuple #[.agg #[.int .u32 a, .bool d, .int .i64 g], .bool true])) (ha : a < 4294967296) (B : Hid (noteV a g d = .tuple #[.int .u64 x, .bool true])) (E : Hid (entryV p v = .tuple #[.int .u64 0, .bool false])) :
    Calls Try.prog 14 #[.int .u64 x, .agg #[.int .u32 s, .bool o, .int .i64 c], .agg #[.int .i64 p, .int .u32 v]] w fun e w' => e = .returned (.bool true) ∧ Below w.heap.size w w' := by
  go_enter Try.func14, Try.ntmps14
  go_wp2_with fail
  refine (markNote s c o _ (by omega) (by omega)).mono ?_
  rw [N.out]
  rintro e w1 ⟨rfl, hb1⟩
  obtain ⟨hc1, hf1, hz1⟩ := after hb1
  have z1 : w.heap.size ≤ w1.heap.size := by (try simp at hz1); omega
  have y1_0 : w.heap.size < w1.heap.size := by (try simp at hz1); omega
  have y1_1 : w.heap.size + 1 < w1.heap.size := by (try simp at hz1); omega
  go_wp2_with fail
  refine (markOfNote x _ hx).mono ?_
  rw [A.out]
  rintro e w2 ⟨rfl, hb2⟩
  obtain ⟨hc2, hf2, hz2⟩ := after hb2
  have z2 : w1.heap.size ≤ w2.heap.size := by (try simp at hz2); omega
  have y2_0 : w.heap.size < w2.heap.size := by (try simp at hz2); omega
  have y2_1 : w.heap.size + 1 < w2.heap.size := by (try simp at hz2); omega
  go_wp2_with fail
  refine (markNote _ _ _ _ (by omega) (by omega)).mono ?_
  rw [B.out]
  rintro e w3 ⟨rfl, hb3⟩
  obtain ⟨hc3, hf3, hz3⟩ := after hb3
  have z3 : w2.heap.size ≤ w3.heap.size := by (try simp at hz3); omega
  have y3_0 : w.heap.size < w3.heap.size := by (try simp at hz3); omega
  have y3_1 : w.heap.size + 1 < w3.heap.size := by (try simp at hz3); omega
  have y3_2 : w2.heap.size < w3.heap.size := by (try simp at hz3); omega
  go_wp2_with fail
  refine (markEntry p v _ (by omega) (by omega)).mono ?_
  rw [E.out]
  rintro e w4 ⟨rfl, hb4⟩
  obtain ⟨hc4, hf4, hz4⟩ := after hb4
  have z4 : w3.heap.size ≤ w4.heap.size := by (try simp at hz4); omega
  have y4_0 : w.heap.size < w4.heap.size := by (try simp at hz4); omega
  have y4_1 : w.heap.size + 1 < w4.heap.size := by (try simp at hz4); omega
  have y4_2 : w2.heap.size < w4.heap.size := by (try simp at hz4); omega
  go_wp2_with fail
  refine (liveMark _).mono ?_
  rintro e w5 ⟨rfl, hb5⟩
  obtain ⟨hc5, hf5, hz5⟩ := after hb5
  have z5 : w4.heap.size ≤ w5.heap.size := by (try simp at hz5); omega
  have y5_0 : w.heap.size < w5.heap.size := by (try simp at hz5); omega
  have y5_1 : w.heap.size + 1 < w5.heap.size := by (try simp at hz5); omega
  have y5_2 : w2.heap.size < w5.heap.size := by (try simp at hz5); omega
  go_wp2
  go_ret
  exact ⟨rfl, bel⟩

set_option maxHeartbeats 3200000 in
theorem markBack011 (w : World) (x s : Nat) (o : Bool) (c p : Int) (v n t a m : Nat) (d : Bool) (g : Int) (hx : x < 18446744073709551616) (hs : s < 4294967296) (hv : v < 4294967296)
    (N : Hid (noteV s c o = .tuple #[.int .u64 0, .bool false])) (A : Hid (ofNoteV x = .tuple #[.agg #[.int .u32 a, .bool d, .int .i64 g], .bool true])) (ha : a < 4294967296) (B : Hid (noteV a g d = .tuple #[.int .u64 x, .bool true])) (E : Hid (entryV p v = .tuple #[.int .u64 m, .bool true])) (hm : m < 18446744073709551616) (F : Hid (ofEntryV m = .tuple #[.agg #[.int .i64 p, .int .u32 v], .bool true])) :
    Calls Try.prog 14 #[.int .u64 x, .agg #[.int .u32 s, .bool o, .int .i64 c], .agg #[.int .i64 p, .int .u32 v]] w fun e w' => e = .returned (.bool true) ∧ Below w.heap.size w w' := by
  go_enter Try.func14, Try.ntmps14
  go_wp2_with fail
  refine (markNote s c o _ (by omega) (by omega)).mono ?_
  rw [N.out]
  rintro e w1 ⟨rfl, hb1⟩
  obtain ⟨hc1, hf1, hz1⟩ := after hb1
  have z1 : w.heap.size ≤ w1.heap.size := by (try simp at hz1); omega
  have y1_0 : w.heap.size < w1.heap.size := by (try simp at hz1); omega
  have y1_1 : w.heap.size + 1 < w1.heap.size := by (try simp at hz1); omega
  go_wp2_with fail
  refine (markOfNote x _ hx).mono ?_
  rw [A.out]
  rintro e w2 ⟨rfl, hb2⟩
  obtain ⟨hc2, hf2, hz2⟩ := after hb2
  have z2 : w1.heap.size ≤ w2.heap.size := by (try simp at hz2); omega
  have y2_0 : w.heap.size < w2.heap.size := by (try simp at hz2); omega
  have y2_1 : w.heap.size + 1 < w2.heap.size := by (try simp at hz2); omega
  go_wp2_with fail
  refine (markNote _ _ _ _ (by omega) (by omega)).mono ?_
  rw [B.out]
  rintro e w3 ⟨rfl, hb3⟩
  obtain ⟨hc3, hf3, hz3⟩ := after hb3
  have z3 : w2.heap.size ≤ w3.heap.size := by (try simp at hz3); omega
  have y3_0 : w.heap.size < w3.heap.size := by (try simp at hz3); omega
  have y3_1 : w.heap.size + 1 < w3.heap.size := by (try simp at hz3); omega
  have y3_2 : w2.heap.size < w3.heap.size := by (try simp at hz3); omega
  go_wp2_with fail
  refine (markEntry p v _ (by omega) (by omega)).mono ?_
  rw [E.out]
  rintro e w4 ⟨rfl, hb4⟩
  obtain ⟨hc4, hf4, hz4⟩ := after hb4
  have z4 : w3.heap.size ≤ w4.heap.size := by (try simp at hz4); omega
  have y4_0 : w.heap.size < w4.heap.size := by (try simp at hz4); omega
  have y4_1 : w.heap.size + 1 < w4.heap.size := by (try simp at hz4); omega
  have y4_2 : w2.heap.size < w4.heap.size := by (try simp at hz4); omega
  go_wp2_with fail
  refine (markOfEntry m _ (by omega) (by omega)).mono ?_
  rw [F.out]
  rintro e w5 ⟨rfl, hb5⟩
  obtain ⟨hc5, hf5, hz5⟩ := after hb5
  have z5 : w4.heap.size ≤ w5.heap.size := by (try simp at hz5); omega
  have y5_0 : w.heap.size < w5.heap.size := by (try simp at hz5); omega
  have y5_1 : w.heap.size + 1 < w5.heap.size := by (try simp at hz5); omega
  have y5_2 : w2.heap.size < w5.heap.size := by (try simp at hz5); omega
  go_wp2_with fail
  refine (liveMark _).mono ?_
  rintro e w6 ⟨rfl, hb6⟩
  obtain ⟨hc6, hf6, hz6⟩ := after hb6
  have z6 : w5.heap.size ≤ w6.heap.size := by (try simp at hz6); omega
  have y6_0 : w.heap.size < w6.heap.size := by (try simp at hz6); omega
  have y6_1 : w.heap.size + 1 < w6.heap.size := by (try simp at hz6); omega
  have y6_2 : w2.heap.size < w6.heap.size := by (try simp at hz6); omega
  have y6_3 : w5.heap.size < w6.heap.size := by (try simp at hz6); omega
  go_wp2
  go_ret
  exact ⟨rfl, bel⟩

set_option maxHeartbeats 3200000 in
theorem markBack100 (w : World) (x s : Nat) (o : Bool) (c p : Int) (v n t a m : Nat) (d : Bool) (g : Int) (hx : x < 18446744073709551616) (hs : s < 4294967296) (hv : v < 4294967296)
    (N : Hid (noteV s c false = .tuple #[.int .u64 n, .bool true])) (hn : n < 18446744073709551616) (M : Hid (ofNoteV n = .tuple #[.agg #[.int .u32 s, .bool false, .int .i64 c], .bool true])) (O : Hid (openV n s = .tuple #[.int .i64 0, .bool false])) (P : Hid (openV n t = .tuple #[.int .i64 0, .bool false])) (X : bits .xor .u32 (s : Int) 1 = (t : Int)) (ht : t < 4294967296) (A : Hid (ofNoteV x = .tuple #[.agg #[.int .u32 0, .bool false, .int .i64 0], .bool false])) (E : Hid (entryV p v = .tuple #[.int .u64 0, .bool false])) :
    Calls Try.prog 14 #[.int .u64 x, .agg #[.int .u32 s, .bool false, .int .i64 c], .agg #[.int .i64 p, .int .u32 v]] w fun e w' => e = .returned (.bool true) ∧ Below w.heap.size w w' := by
  go_enter Try.func14, Try.ntmps14
  go_wp2_with fail
  refine (markNote s c false _ (by omega) (by omega)).mono ?_
  rw [N.out]
  rintro e w1 ⟨rfl, hb1⟩
  obtain ⟨hc1, hf1, hz1⟩ := after hb1
  have z1 : w.heap.size ≤ w1.heap.size := by (try simp at hz1); omega
  have y1_0 : w.heap.size < w1.heap.size := by (try simp at hz1); omega
  have y1_1 : w.heap.size + 1 < w1.heap.size := by (try simp at hz1); omega
  go_wp2_with fail
  refine (markOfNote n _ hn).mono ?_
  rw [M.out]
  rintro e w2 ⟨rfl, hb2⟩
  obtain ⟨hc2, hf2, hz2⟩ := after hb2
  have z2 : w1.heap.size ≤ w2.heap.size := by (try simp at hz2); omega
  have y2_0 : w.heap.size < w2.heap.size := by (try simp at hz2); omega
  have y2_1 : w.heap.size + 1 < w2.heap.size := by (try simp at hz2); omega
  go_wp2_with fail
  refine (markOpen n s _ hn).mono ?_
  rw [O.out]
  rintro e w3 ⟨rfl, hb3⟩
  obtain ⟨hc3, hf3, hz3⟩ := after hb3
  have z3 : w2.heap.size ≤ w3.heap.size := by (try simp at hz3); omega
  have y3_0 : w.heap.size < w3.heap.size := by (try simp at hz3); omega
  have y3_1 : w.heap.size + 1 < w3.heap.size := by (try simp at hz3); omega
  have y3_2 : w2.heap.size < w3.heap.size := by (try simp at hz3); omega
  go_wp2_with fail
  refine (markOpen n t _ hn).mono ?_
  rw [P.out]
  rintro e w4 ⟨rfl, hb4⟩
  obtain ⟨hc4, hf4, hz4⟩ := after hb4
  have z4 : w3.heap.size ≤ w4.heap.size := by (try simp at hz4); omega
  have y4_0 : w.heap.size < w4.heap.size := by (try simp at hz4); omega
  have y4_1 : w.heap.size + 1 < w4.heap.size := by (try simp at hz4); omega
  have y4_2 : w2.heap.size < w4.heap.size := by (try simp at hz4); omega
  go_wp2_with fail
  refine (markOfNote x _ hx).mono ?_
  rw [A.out]
  rintro e w5 ⟨rfl, hb5⟩
  obtain ⟨hc5, hf5, hz5⟩ := after hb5
  have z5 : w4.heap.size ≤ w5.heap.size := by (try simp at hz5); omega
  have y5_0 : w.heap.size < w5.heap.size := by (try simp at hz5); omega
  have y5_1 : w.heap.size + 1 < w5.heap.size := by (try simp at hz5); omega
  have y5_2 : w2.heap.size < w5.heap.size := by (try simp at hz5); omega
  go_wp2_with fail
  refine (markEntry p v _ (by omega) (by omega)).mono ?_
  rw [E.out]
  rintro e w6 ⟨rfl, hb6⟩
  obtain ⟨hc6, hf6, hz6⟩ := after hb6
  have z6 : w5.heap.size ≤ w6.heap.size := by (try simp at hz6); omega
  have y6_0 : w.heap.size < w6.heap.size := by (try simp at hz6); omega
  have y6_1 : w.heap.size + 1 < w6.heap.size := by (try simp at hz6); omega
  have y6_2 : w2.heap.size < w6.heap.size := by (try simp at hz6); omega
  go_wp2_with fail
  refine (liveMark _).mono ?_
  rintro e w7 ⟨rfl, hb7⟩
  obtain ⟨hc7, hf7, hz7⟩ := after hb7
  have z7 : w6.heap.size ≤ w7.heap.size := by (try simp at hz7); omega
  have y7_0 : w.heap.size < w7.heap.size := by (try simp at hz7); omega
  have y7_1 : w.heap.size + 1 < w7.heap.size := by (try simp at hz7); omega
  have y7_2 : w2.heap.size < w7.heap.size := by (try simp at hz7); omega
  go_wp2
  go_ret
  exact ⟨rfl, bel⟩

set_option maxHeartbeats 3200000 in
theorem markBack101 (w : World) (x s : Nat) (o : Bool) (c p : Int) (v n t a m : Nat) (d : Bool) (g : Int) (hx : x < 18446744073709551616) (hs : s < 4294967296) (hv : v < 4294967296)
    (N : Hid (noteV s c false = .tuple #[.int .u64 n, .bool true])) (hn : n < 18446744073709551616) (M : Hid (ofNoteV n = .tuple #[.agg #[.int .u32 s, .bool false, .int .i64 c], .bool true])) (O : Hid (openV n s = .tuple #[.int .i64 0, .bool false])) (P : Hid (openV n t = .tuple #[.int .i64 0, .bool false])) (X : bits .xor .u32 (s : Int) 1 = (t : Int)) (ht : t < 4294967296) (A : Hid (ofNoteV x = .tuple #[.agg #[.int .u32 0, .bool false, .int .i64 0], .bool false])) (E : Hid (entryV p v = .tuple #[.int .u64 m, .bool true])) (hm : m < 18446744073709551616) (F : Hid (ofEntryV m = .tuple #[.agg #[.int .i64 p, .int .u32 v], .bool true])) :
    Calls Try.prog 14 #[.int .u64 x, .agg #[.int .u32 s, .bool false, .int .i64 c], .agg #[.int .i64 p, .int .u32 v]] w fun e w' => e = .returned (.bool true) ∧ Below w.heap.size w w' := by
  go_enter Try.func14, Try.ntmps14
  go_wp2_with fail
  refine (markNote s c false _ (by omega) (by omega)).mono ?_
  rw [N.out]
  rintro e w1 ⟨rfl, hb1⟩
  obtain ⟨hc1, hf1, hz1⟩ := after hb1
  have z1 : w.heap.size ≤ w1.heap.size := by (try simp at hz1); omega
  have y1_0 : w.heap.size < w1.heap.size := by (try simp at hz1); omega
  have y1_1 : w.heap.size + 1 < w1.heap.size := by (try simp at hz1); omega
  go_wp2_with fail
  refine (markOfNote n _ hn).mono ?_
  rw [M.out]
  rintro e w2 ⟨rfl, hb2⟩
  obtain ⟨hc2, hf2, hz2⟩ := after hb2
  have z2 : w1.heap.size ≤ w2.heap.size := by (try simp at hz2); omega
  have y2_0 : w.heap.size < w2.heap.size := by (try simp at hz2); omega
  have y2_1 : w.heap.size + 1 < w2.heap.size := by (try simp at hz2); omega
  go_wp2_with fail
  refine (markOpen n s _ hn).mono ?_
  rw [O.out]
  rintro e w3 ⟨rfl, hb3⟩
  obtain ⟨hc3, hf3, hz3⟩ := after hb3
  have z3 : w2.heap.size ≤ w3.heap.size := by (try simp at hz3); omega
  have y3_0 : w.heap.size < w3.heap.size := by (try simp at hz3); omega
  have y3_1 : w.heap.size + 1 < w3.heap.size := by (try simp at hz3); omega
  have y3_2 : w2.heap.size < w3.heap.size := by (try simp at hz3); omega
  go_wp2_with fail
  refine (markOpen n t _ hn).mono ?_
  rw [P.out]
  rintro e w4 ⟨rfl, hb4⟩
  obtain ⟨hc4, hf4, hz4⟩ := after hb4
  have z4 : w3.heap.size ≤ w4.heap.size := by (try simp at hz4); omega
  have y4_0 : w.heap.size < w4.heap.size := by (try simp at hz4); omega
  have y4_1 : w.heap.size + 1 < w4.heap.size := by (try simp at hz4); omega
  have y4_2 : w2.heap.size < w4.heap.size := by (try simp at hz4); omega
  go_wp2_with fail
  refine (markOfNote x _ hx).mono ?_
  rw [A.out]
  rintro e w5 ⟨rfl, hb5⟩
  obtain ⟨hc5, hf5, hz5⟩ := after hb5
  have z5 : w4.heap.size ≤ w5.heap.size := by (try simp at hz5); omega
  have y5_0 : w.heap.size < w5.heap.size := by (try simp at hz5); omega
  have y5_1 : w.heap.size + 1 < w5.heap.size := by (try simp at hz5); omega
  have y5_2 : w2.heap.size < w5.heap.size := by (try simp at hz5); omega
  go_wp2_with fail
  refine (markEntry p v _ (by omega) (by omega)).mono ?_
  rw [E.out]
  rintro e w6 ⟨rfl, hb6⟩
  obtain ⟨hc6, hf6, hz6⟩ := after hb6
  have z6 : w5.heap.size ≤ w6.heap.size := by (try simp at hz6); omega
  have y6_0 : w.heap.size < w6.heap.size := by (try simp at hz6); omega
  have y6_1 : w.heap.size + 1 < w6.heap.size := by (try simp at hz6); omega
  have y6_2 : w2.heap.size < w6.heap.size := by (try simp at hz6); omega
  go_wp2_with fail
  refine (markOfEntry m _ (by omega) (by omega)).mono ?_
  rw [F.out]
  rintro e w7 ⟨rfl, hb7⟩
  obtain ⟨hc7, hf7, hz7⟩ := after hb7
  have z7 : w6.heap.size ≤ w7.heap.size := by (try simp at hz7); omega
  have y7_0 : w.heap.size < w7.heap.size := by (try simp at hz7); omega
  have y7_1 : w.heap.size + 1 < w7.heap.size := by (try simp at hz7); omega
  have y7_2 : w2.heap.size < w7.heap.size := by (try simp at hz7); omega
  go_wp2_with fail
  refine (liveMark _).mono ?_
  rintro e w8 ⟨rfl, hb8⟩
  obtain ⟨hc8, hf8, hz8⟩ := after hb8
  have z8 : w7.heap.size ≤ w8.heap.size := by (try simp at hz8); omega
  have y8_0 : w.heap.size < w8.heap.size := by (try simp at hz8); omega
  have y8_1 : w.heap.size + 1 < w8.heap.size := by (try simp at hz8); omega
  have y8_2 : w2.heap.size < w8.heap.size := by (try simp at hz8); omega
  have y8_3 : w7.heap.size < w8.heap.size := by (try simp at hz8); omega
  go_wp2
  go_ret
  exact ⟨rfl, bel⟩

set_option maxHeartbeats 3200000 in
theorem markBack110 (w : World) (x s : Nat) (o : Bool) (c p : Int) (v n t a m : Nat) (d : Bool) (g : Int) (hx : x < 18446744073709551616) (hs : s < 4294967296) (hv : v < 4294967296)
    (N : Hid (noteV s c false = .tuple #[.int .u64 n, .bool true])) (hn : n < 18446744073709551616) (M : Hid (ofNoteV n = .tuple #[.agg #[.int .u32 s, .bool false, .int .i64 c], .bool true])) (O : Hid (openV n s = .tuple #[.int .i64 0, .bool false])) (P : Hid (openV n t = .tuple #[.int .i64 0, .bool false])) (X : bits .xor .u32 (s : Int) 1 = (t : Int)) (ht : t < 4294967296) (A : Hid (ofNoteV x = .tuple #[.agg #[.int .u32 a, .bool d, .int .i64 g], .bool true])) (ha : a < 4294967296) (B : Hid (noteV a g d = .tuple #[.int .u64 x, .bool true])) (E : Hid (entryV p v = .tuple #[.int .u64 0, .bool false])) :
    Calls Try.prog 14 #[.int .u64 x, .agg #[.int .u32 s, .bool false, .int .i64 c], .agg #[.int .i64 p, .int .u32 v]] w fun e w' => e = .returned (.bool true) ∧ Below w.heap.size w w' := by
  go_enter Try.func14, Try.ntmps14
  go_wp2_with fail
  refine (markNote s c false _ (by omega) (by omega)).mono ?_
  rw [N.out]
  rintro e w1 ⟨rfl, hb1⟩
  obtain ⟨hc1, hf1, hz1⟩ := after hb1
  have z1 : w.heap.size ≤ w1.heap.size := by (try simp at hz1); omega
  have y1_0 : w.heap.size < w1.heap.size := by (try simp at hz1); omega
  have y1_1 : w.heap.size + 1 < w1.heap.size := by (try simp at hz1); omega
  go_wp2_with fail
  refine (markOfNote n _ hn).mono ?_
  rw [M.out]
  rintro e w2 ⟨rfl, hb2⟩
  obtain ⟨hc2, hf2, hz2⟩ := after hb2
  have z2 : w1.heap.size ≤ w2.heap.size := by (try simp at hz2); omega
  have y2_0 : w.heap.size < w2.heap.size := by (try simp at hz2); omega
  have y2_1 : w.heap.size + 1 < w2.heap.size := by (try simp at hz2); omega
  go_wp2_with fail
  refine (markOpen n s _ hn).mono ?_
  rw [O.out]
  rintro e w3 ⟨rfl, hb3⟩
  obtain ⟨hc3, hf3, hz3⟩ := after hb3
  have z3 : w2.heap.size ≤ w3.heap.size := by (try simp at hz3); omega
  have y3_0 : w.heap.size < w3.heap.size := by (try simp at hz3); omega
  have y3_1 : w.heap.size + 1 < w3.heap.size := by (try simp at hz3); omega
  have y3_2 : w2.heap.size < w3.heap.size := by (try simp at hz3); omega
  go_wp2_with fail
  refine (markOpen n t _ hn).mono ?_
  rw [P.out]
  rintro e w4 ⟨rfl, hb4⟩
  obtain ⟨hc4, hf4, hz4⟩ := after hb4
  have z4 : w3.heap.size ≤ w4.heap.size := by (try simp at hz4); omega
  have y4_0 : w.heap.size < w4.heap.size := by (try simp at hz4); omega
  have y4_1 : w.heap.size + 1 < w4.heap.size := by (try simp at hz4); omega
  have y4_2 : w2.heap.size < w4.heap.size := by (try simp at hz4); omega
  go_wp2_with fail
  refine (markOfNote x _ hx).mono ?_
  rw [A.out]
  rintro e w5 ⟨rfl, hb5⟩
  obtain ⟨hc5, hf5, hz5⟩ := after hb5
  have z5 : w4.heap.size ≤ w5.heap.size := by (try simp at hz5); omega
  have y5_0 : w.heap.size < w5.heap.size := by (try simp at hz5); omega
  have y5_1 : w.heap.size + 1 < w5.heap.size := by (try simp at hz5); omega
  have y5_2 : w2.heap.size < w5.heap.size := by (try simp at hz5); omega
  go_wp2_with fail
  refine (markNote _ _ _ _ (by omega) (by omega)).mono ?_
  rw [B.out]
  rintro e w6 ⟨rfl, hb6⟩
  obtain ⟨hc6, hf6, hz6⟩ := after hb6
  have z6 : w5.heap.size ≤ w6.heap.size := by (try simp at hz6); omega
  have y6_0 : w.heap.size < w6.heap.size := by (try simp at hz6); omega
  have y6_1 : w.heap.size + 1 < w6.heap.size := by (try simp at hz6); omega
  have y6_2 : w2.heap.size < w6.heap.size := by (try simp at hz6); omega
  have y6_3 : w5.heap.size < w6.heap.size := by (try simp at hz6); omega
  go_wp2_with fail
  refine (markEntry p v _ (by omega) (by omega)).mono ?_
  rw [E.out]
  rintro e w7 ⟨rfl, hb7⟩
  obtain ⟨hc7, hf7, hz7⟩ := after hb7
  have z7 : w6.heap.size ≤ w7.heap.size := by (try simp at hz7); omega
  have y7_0 : w.heap.size < w7.heap.size := by (try simp at hz7); omega
  have y7_1 : w.heap.size + 1 < w7.heap.size := by (try simp at hz7); omega
  have y7_2 : w2.heap.size < w7.heap.size := by (try simp at hz7); omega
  have y7_3 : w5.heap.size < w7.heap.size := by (try simp at hz7); omega
  go_wp2_with fail
  refine (liveMark _).mono ?_
  rintro e w8 ⟨rfl, hb8⟩
  obtain ⟨hc8, hf8, hz8⟩ := after hb8
  have z8 : w7.heap.size ≤ w8.heap.size := by (try simp at hz8); omega
  have y8_0 : w.heap.size < w8.heap.size := by (try simp at hz8); omega
  have y8_1 : w.heap.size + 1 < w8.heap.size := by (try simp at hz8); omega
  have y8_2 : w2.heap.size < w8.heap.size := by (try simp at hz8); omega
  have y8_3 : w5.heap.size < w8.heap.size := by (try simp at hz8); omega
  go_wp2
  go_ret
  exact ⟨rfl, bel⟩

set_option maxHeartbeats 3200000 in
theorem markBack111 (w : World) (x s : Nat) (o : Bool) (c p : Int) (v n t a m : Nat) (d : Bool) (g : Int) (hx : x < 18446744073709551616) (hs : s < 4294967296) (hv : v < 4294967296)
    (N : Hid (noteV s c false = .tuple #[.int .u64 n, .bool true])) (hn : n < 18446744073709551616) (M : Hid (ofNoteV n = .tuple #[.agg #[.int .u32 s, .bool false, .int .i64 c], .bool true])) (O : Hid (openV n s = .tuple #[.int .i64 0, .bool false])) (P : Hid (openV n t = .tuple #[.int .i64 0, .bool false])) (X : bits .xor .u32 (s : Int) 1 = (t : Int)) (ht : t < 4294967296) (A : Hid (ofNoteV x = .tuple #[.agg #[.int .u32 a, .bool d, .int .i64 g], .bool true])) (ha : a < 4294967296) (B : Hid (noteV a g d = .tuple #[.int .u64 x, .bool true])) (E : Hid (entryV p v = .tuple #[.int .u64 m, .bool true])) (hm : m < 18446744073709551616) (F : Hid (ofEntryV m = .tuple #[.agg #[.int .i64 p, .int .u32 v], .bool true])) :
    Calls Try.prog 14 #[.int .u64 x, .agg #[.int .u32 s, .bool false, .int .i64 c], .agg #[.int .i64 p, .int .u32 v]] w fun e w' => e = .returned (.bool true) ∧ Below w.heap.size w w' := by
  go_enter Try.func14, Try.ntmps14
  go_wp2_with fail
  refine (markNote s c false _ (by omega) (by omega)).mono ?_
  rw [N.out]
  rintro e w1 ⟨rfl, hb1⟩
  obtain ⟨hc1, hf1, hz1⟩ := after hb1
  have z1 : w.heap.size ≤ w1.heap.size := by (try simp at hz1); omega
  have y1_0 : w.heap.size < w1.heap.size := by (try simp at hz1); omega
  have y1_1 : w.heap.size + 1 < w1.heap.size := by (try simp at hz1); omega
  go_wp2_with fail
  refine (markOfNote n _ hn).mono ?_
  rw [M.out]
  rintro e w2 ⟨rfl, hb2⟩
  obtain ⟨hc2, hf2, hz2⟩ := after hb2
  have z2 : w1.heap.size ≤ w2.heap.size := by (try simp at hz2); omega
  have y2_0 : w.heap.size < w2.heap.size := by (try simp at hz2); omega
  have y2_1 : w.heap.size + 1 < w2.heap.size := by (try simp at hz2); omega
  go_wp2_with fail
  refine (markOpen n s _ hn).mono ?_
  rw [O.out]
  rintro e w3 ⟨rfl, hb3⟩
  obtain ⟨hc3, hf3, hz3⟩ := after hb3
  have z3 : w2.heap.size ≤ w3.heap.size := by (try simp at hz3); omega
  have y3_0 : w.heap.size < w3.heap.size := by (try simp at hz3); omega
  have y3_1 : w.heap.size + 1 < w3.heap.size := by (try simp at hz3); omega
  have y3_2 : w2.heap.size < w3.heap.size := by (try simp at hz3); omega
  go_wp2_with fail
  refine (markOpen n t _ hn).mono ?_
  rw [P.out]
  rintro e w4 ⟨rfl, hb4⟩
  obtain ⟨hc4, hf4, hz4⟩ := after hb4
  have z4 : w3.heap.size ≤ w4.heap.size := by (try simp at hz4); omega
  have y4_0 : w.heap.size < w4.heap.size := by (try simp at hz4); omega
  have y4_1 : w.heap.size + 1 < w4.heap.size := by (try simp at hz4); omega
  have y4_2 : w2.heap.size < w4.heap.size := by (try simp at hz4); omega
  go_wp2_with fail
  refine (markOfNote x _ hx).mono ?_
  rw [A.out]
  rintro e w5 ⟨rfl, hb5⟩
  obtain ⟨hc5, hf5, hz5⟩ := after hb5
  have z5 : w4.heap.size ≤ w5.heap.size := by (try simp at hz5); omega
  have y5_0 : w.heap.size < w5.heap.size := by (try simp at hz5); omega
  have y5_1 : w.heap.size + 1 < w5.heap.size := by (try simp at hz5); omega
  have y5_2 : w2.heap.size < w5.heap.size := by (try simp at hz5); omega
  go_wp2_with fail
  refine (markNote _ _ _ _ (by omega) (by omega)).mono ?_
  rw [B.out]
  rintro e w6 ⟨rfl, hb6⟩
  obtain ⟨hc6, hf6, hz6⟩ := after hb6
  have z6 : w5.heap.size ≤ w6.heap.size := by (try simp at hz6); omega
  have y6_0 : w.heap.size < w6.heap.size := by (try simp at hz6); omega
  have y6_1 : w.heap.size + 1 < w6.heap.size := by (try simp at hz6); omega
  have y6_2 : w2.heap.size < w6.heap.size := by (try simp at hz6); omega
  have y6_3 : w5.heap.size < w6.heap.size := by (try simp at hz6); omega
  go_wp2_with fail
  refine (markEntry p v _ (by omega) (by omega)).mono ?_
  rw [E.out]
  rintro e w7 ⟨rfl, hb7⟩
  obtain ⟨hc7, hf7, hz7⟩ := after hb7
  have z7 : w6.heap.size ≤ w7.heap.size := by (try simp at hz7); omega
  have y7_0 : w.heap.size < w7.heap.size := by (try simp at hz7); omega
  have y7_1 : w.heap.size + 1 < w7.heap.size := by (try simp at hz7); omega
  have y7_2 : w2.heap.size < w7.heap.size := by (try simp at hz7); omega
  have y7_3 : w5.heap.size < w7.heap.size := by (try simp at hz7); omega
  go_wp2_with fail
  refine (markOfEntry m _ (by omega) (by omega)).mono ?_
  rw [F.out]
  rintro e w8 ⟨rfl, hb8⟩
  obtain ⟨hc8, hf8, hz8⟩ := after hb8
  have z8 : w7.heap.size ≤ w8.heap.size := by (try simp at hz8); omega
  have y8_0 : w.heap.size < w8.heap.size := by (try simp at hz8); omega
  have y8_1 : w.heap.size + 1 < w8.heap.size := by (try simp at hz8); omega
  have y8_2 : w2.heap.size < w8.heap.size := by (try simp at hz8); omega
  have y8_3 : w5.heap.size < w8.heap.size := by (try simp at hz8); omega
  go_wp2_with fail
  refine (liveMark _).mono ?_
  rintro e w9 ⟨rfl, hb9⟩
  obtain ⟨hc9, hf9, hz9⟩ := after hb9
  have z9 : w8.heap.size ≤ w9.heap.size := by (try simp at hz9); omega
  have y9_0 : w.heap.size < w9.heap.size := by (try simp at hz9); omega
  have y9_1 : w.heap.size + 1 < w9.heap.size := by (try simp at hz9); omega
  have y9_2 : w2.heap.size < w9.heap.size := by (try simp at hz9); omega
  have y9_3 : w5.heap.size < w9.heap.size := by (try simp at hz9); omega
  have y9_4 : w8.heap.size < w9.heap.size := by (try simp at hz9); omega
  go_wp2
  go_ret
  exact ⟨rfl, bel⟩

set_option maxHeartbeats 3200000 in
theorem markBack200 (w : World) (x s : Nat) (o : Bool) (c p : Int) (v n t a m : Nat) (d : Bool) (g : Int) (hx : x < 18446744073709551616) (hs : s < 4294967296) (hv : v < 4294967296)
    (N : Hid (noteV s c true = .tuple #[.int .u64 n, .bool true])) (hn : n < 18446744073709551616) (M : Hid (ofNoteV n = .tuple #[.agg #[.int .u32 s, .bool true, .int .i64 c], .bool true])) (O : Hid (openV n s = .tuple #[.int .i64 c, .bool true])) (P : Hid (openV n t = .tuple #[.int .i64 0, .bool false])) (X : bits .xor .u32 (s : Int) 1 = (t : Int)) (ht : t < 4294967296) (A : Hid (ofNoteV x = .tuple #[.agg #[.int .u32 0, .bool false, .int .i64 0], .bool false])) (E : Hid (entryV p v = .tuple #[.int .u64 0, .bool false])) :
    Calls Try.prog 14 #[.int .u64 x, .agg #[.int .u32 s, .bool true, .int .i64 c], .agg #[.int .i64 p, .int .u32 v]] w fun e w' => e = .returned (.bool true) ∧ Below w.heap.size w w' := by
  go_enter Try.func14, Try.ntmps14
  go_wp2_with fail
  refine (markNote s c true _ (by omega) (by omega)).mono ?_
  rw [N.out]
  rintro e w1 ⟨rfl, hb1⟩
  obtain ⟨hc1, hf1, hz1⟩ := after hb1
  have z1 : w.heap.size ≤ w1.heap.size := by (try simp at hz1); omega
  have y1_0 : w.heap.size < w1.heap.size := by (try simp at hz1); omega
  have y1_1 : w.heap.size + 1 < w1.heap.size := by (try simp at hz1); omega
  go_wp2_with fail
  refine (markOfNote n _ hn).mono ?_
  rw [M.out]
  rintro e w2 ⟨rfl, hb2⟩
  obtain ⟨hc2, hf2, hz2⟩ := after hb2
  have z2 : w1.heap.size ≤ w2.heap.size := by (try simp at hz2); omega
  have y2_0 : w.heap.size < w2.heap.size := by (try simp at hz2); omega
  have y2_1 : w.heap.size + 1 < w2.heap.size := by (try simp at hz2); omega
  go_wp2_with fail
  refine (markOpen n s _ hn).mono ?_
  rw [O.out]
  rintro e w3 ⟨rfl, hb3⟩
  obtain ⟨hc3, hf3, hz3⟩ := after hb3
  have z3 : w2.heap.size ≤ w3.heap.size := by (try simp at hz3); omega
  have y3_0 : w.heap.size < w3.heap.size := by (try simp at hz3); omega
  have y3_1 : w.heap.size + 1 < w3.heap.size := by (try simp at hz3); omega
  have y3_2 : w2.heap.size < w3.heap.size := by (try simp at hz3); omega
  go_wp2_with fail
  refine (markOpen n t _ hn).mono ?_
  rw [P.out]
  rintro e w4 ⟨rfl, hb4⟩
  obtain ⟨hc4, hf4, hz4⟩ := after hb4
  have z4 : w3.heap.size ≤ w4.heap.size := by (try simp at hz4); omega
  have y4_0 : w.heap.size < w4.heap.size := by (try simp at hz4); omega
  have y4_1 : w.heap.size + 1 < w4.heap.size := by (try simp at hz4); omega
  have y4_2 : w2.heap.size < w4.heap.size := by (try simp at hz4); omega
  go_wp2_with fail
  refine (markOfNote x _ hx).mono ?_
  rw [A.out]
  rintro e w5 ⟨rfl, hb5⟩
  obtain ⟨hc5, hf5, hz5⟩ := after hb5
  have z5 : w4.heap.size ≤ w5.heap.size := by (try simp at hz5); omega
  have y5_0 : w.heap.size < w5.heap.size := by (try simp at hz5); omega
  have y5_1 : w.heap.size + 1 < w5.heap.size := by (try simp at hz5); omega
  have y5_2 : w2.heap.size < w5.heap.size := by (try simp at hz5); omega
  go_wp2_with fail
  refine (markEntry p v _ (by omega) (by omega)).mono ?_
  rw [E.out]
  rintro e w6 ⟨rfl, hb6⟩
  obtain ⟨hc6, hf6, hz6⟩ := after hb6
  have z6 : w5.heap.size ≤ w6.heap.size := by (try simp at hz6); omega
  have y6_0 : w.heap.size < w6.heap.size := by (try simp at hz6); omega
  have y6_1 : w.heap.size + 1 < w6.heap.size := by (try simp at hz6); omega
  have y6_2 : w2.heap.size < w6.heap.size := by (try simp at hz6); omega
  go_wp2_with fail
  refine (liveMark _).mono ?_
  rintro e w7 ⟨rfl, hb7⟩
  obtain ⟨hc7, hf7, hz7⟩ := after hb7
  have z7 : w6.heap.size ≤ w7.heap.size := by (try simp at hz7); omega
  have y7_0 : w.heap.size < w7.heap.size := by (try simp at hz7); omega
  have y7_1 : w.heap.size + 1 < w7.heap.size := by (try simp at hz7); omega
  have y7_2 : w2.heap.size < w7.heap.size := by (try simp at hz7); omega
  go_wp2
  go_ret
  exact ⟨rfl, bel⟩

set_option maxHeartbeats 3200000 in
theorem markBack201 (w : World) (x s : Nat) (o : Bool) (c p : Int) (v n t a m : Nat) (d : Bool) (g : Int) (hx : x < 18446744073709551616) (hs : s < 4294967296) (hv : v < 4294967296)
    (N : Hid (noteV s c true = .tuple #[.int .u64 n, .bool true])) (hn : n < 18446744073709551616) (M : Hid (ofNoteV n = .tuple #[.agg #[.int .u32 s, .bool true, .int .i64 c], .bool true])) (O : Hid (openV n s = .tuple #[.int .i64 c, .bool true])) (P : Hid (openV n t = .tuple #[.int .i64 0, .bool false])) (X : bits .xor .u32 (s : Int) 1 = (t : Int)) (ht : t < 4294967296) (A : Hid (ofNoteV x = .tuple #[.agg #[.int .u32 0, .bool false, .int .i64 0], .bool false])) (E : Hid (entryV p v = .tuple #[.int .u64 m, .bool true])) (hm : m < 18446744073709551616) (F : Hid (ofEntryV m = .tuple #[.agg #[.int .i64 p, .int .u32 v], .bool true])) :
    Calls Try.prog 14 #[.int .u64 x, .agg #[.int .u32 s, .bool true, .int .i64 c], .agg #[.int .i64 p, .int .u32 v]] w fun e w' => e = .returned (.bool true) ∧ Below w.heap.size w w' := by
  go_enter Try.func14, Try.ntmps14
  go_wp2_with fail
  refine (markNote s c true _ (by omega) (by omega)).mono ?_
  rw [N.out]
  rintro e w1 ⟨rfl, hb1⟩
  obtain ⟨hc1, hf1, hz1⟩ := after hb1
  have z1 : w.heap.size ≤ w1.heap.size := by (try simp at hz1); omega
  have y1_0 : w.heap.size < w1.heap.size := by (try simp at hz1); omega
  have y1_1 : w.heap.size + 1 < w1.heap.size := by (try simp at hz1); omega
  go_wp2_with fail
  refine (markOfNote n _ hn).mono ?_
  rw [M.out]
  rintro e w2 ⟨rfl, hb2⟩
  obtain ⟨hc2, hf2, hz2⟩ := after hb2
  have z2 : w1.heap.size ≤ w2.heap.size := by (try simp at hz2); omega
  have y2_0 : w.heap.size < w2.heap.size := by (try simp at hz2); omega
  have y2_1 : w.heap.size + 1 < w2.heap.size := by (try simp at hz2); omega
  go_wp2_with fail
  refine (markOpen n s _ hn).mono ?_
  rw [O.out]
  rintro e w3 ⟨rfl, hb3⟩
  obtain ⟨hc3, hf3, hz3⟩ := after hb3
  have z3 : w2.heap.size ≤ w3.heap.size := by (try simp at hz3); omega
  have y3_0 : w.heap.size < w3.heap.size := by (try simp at hz3); omega
  have y3_1 : w.heap.size + 1 < w3.heap.size := by (try simp at hz3); omega
  have y3_2 : w2.heap.size < w3.heap.size := by (try simp at hz3); omega
  go_wp2_with fail
  refine (markOpen n t _ hn).mono ?_
  rw [P.out]
  rintro e w4 ⟨rfl, hb4⟩
  obtain ⟨hc4, hf4, hz4⟩ := after hb4
  have z4 : w3.heap.size ≤ w4.heap.size := by (try simp at hz4); omega
  have y4_0 : w.heap.size < w4.heap.size := by (try simp at hz4); omega
  have y4_1 : w.heap.size + 1 < w4.heap.size := by (try simp at hz4); omega
  have y4_2 : w2.heap.size < w4.heap.size := by (try simp at hz4); omega
  go_wp2_with fail
  refine (markOfNote x _ hx).mono ?_
  rw [A.out]
  rintro e w5 ⟨rfl, hb5⟩
  obtain ⟨hc5, hf5, hz5⟩ := after hb5
  have z5 : w4.heap.size ≤ w5.heap.size := by (try simp at hz5); omega
  have y5_0 : w.heap.size < w5.heap.size := by (try simp at hz5); omega
  have y5_1 : w.heap.size + 1 < w5.heap.size := by (try simp at hz5); omega
  have y5_2 : w2.heap.size < w5.heap.size := by (try simp at hz5); omega
  go_wp2_with fail
  refine (markEntry p v _ (by omega) (by omega)).mono ?_
  rw [E.out]
  rintro e w6 ⟨rfl, hb6⟩
  obtain ⟨hc6, hf6, hz6⟩ := after hb6
  have z6 : w5.heap.size ≤ w6.heap.size := by (try simp at hz6); omega
  have y6_0 : w.heap.size < w6.heap.size := by (try simp at hz6); omega
  have y6_1 : w.heap.size + 1 < w6.heap.size := by (try simp at hz6); omega
  have y6_2 : w2.heap.size < w6.heap.size := by (try simp at hz6); omega
  go_wp2_with fail
  refine (markOfEntry m _ (by omega) (by omega)).mono ?_
  rw [F.out]
  rintro e w7 ⟨rfl, hb7⟩
  obtain ⟨hc7, hf7, hz7⟩ := after hb7
  have z7 : w6.heap.size ≤ w7.heap.size := by (try simp at hz7); omega
  have y7_0 : w.heap.size < w7.heap.size := by (try simp at hz7); omega
  have y7_1 : w.heap.size + 1 < w7.heap.size := by (try simp at hz7); omega
  have y7_2 : w2.heap.size < w7.heap.size := by (try simp at hz7); omega
  go_wp2_with fail
  refine (liveMark _).mono ?_
  rintro e w8 ⟨rfl, hb8⟩
  obtain ⟨hc8, hf8, hz8⟩ := after hb8
  have z8 : w7.heap.size ≤ w8.heap.size := by (try simp at hz8); omega
  have y8_0 : w.heap.size < w8.heap.size := by (try simp at hz8); omega
  have y8_1 : w.heap.size + 1 < w8.heap.size := by (try simp at hz8); omega
  have y8_2 : w2.heap.size < w8.heap.size := by (try simp at hz8); omega
  have y8_3 : w7.heap.size < w8.heap.size := by (try simp at hz8); omega
  go_wp2
  go_ret
  exact ⟨rfl, bel⟩

set_option maxHeartbeats 3200000 in
theorem markBack210 (w : World) (x s : Nat) (o : Bool) (c p : Int) (v n t a m : Nat) (d : Bool) (g : Int) (hx : x < 18446744073709551616) (hs : s < 4294967296) (hv : v < 4294967296)
    (N : Hid (noteV s c true = .tuple #[.int .u64 n, .bool true])) (hn : n < 18446744073709551616) (M : Hid (ofNoteV n = .tuple #[.agg #[.int .u32 s, .bool true, .int .i64 c], .bool true])) (O : Hid (openV n s = .tuple #[.int .i64 c, .bool true])) (P : Hid (openV n t = .tuple #[.int .i64 0, .bool false])) (X : bits .xor .u32 (s : Int) 1 = (t : Int)) (ht : t < 4294967296) (A : Hid (ofNoteV x = .tuple #[.agg #[.int .u32 a, .bool d, .int .i64 g], .bool true])) (ha : a < 4294967296) (B : Hid (noteV a g d = .tuple #[.int .u64 x, .bool true])) (E : Hid (entryV p v = .tuple #[.int .u64 0, .bool false])) :
    Calls Try.prog 14 #[.int .u64 x, .agg #[.int .u32 s, .bool true, .int .i64 c], .agg #[.int .i64 p, .int .u32 v]] w fun e w' => e = .returned (.bool true) ∧ Below w.heap.size w w' := by
  go_enter Try.func14, Try.ntmps14
  go_wp2_with fail
  refine (markNote s c true _ (by omega) (by omega)).mono ?_
  rw [N.out]
  rintro e w1 ⟨rfl, hb1⟩
  obtain ⟨hc1, hf1, hz1⟩ := after hb1
  have z1 : w.heap.size ≤ w1.heap.size := by (try simp at hz1); omega
  have y1_0 : w.heap.size < w1.heap.size := by (try simp at hz1); omega
  have y1_1 : w.heap.size + 1 < w1.heap.size := by (try simp at hz1); omega
  go_wp2_with fail
  refine (markOfNote n _ hn).mono ?_
  rw [M.out]
  rintro e w2 ⟨rfl, hb2⟩
  obtain ⟨hc2, hf2, hz2⟩ := after hb2
  have z2 : w1.heap.size ≤ w2.heap.size := by (try simp at hz2); omega
  have y2_0 : w.heap.size < w2.heap.size := by (try simp at hz2); omega
  have y2_1 : w.heap.size + 1 < w2.heap.size := by (try simp at hz2); omega
  go_wp2_with fail
  refine (markOpen n s _ hn).mono ?_
  rw [O.out]
  rintro e w3 ⟨rfl, hb3⟩
  obtain ⟨hc3, hf3, hz3⟩ := after hb3
  have z3 : w2.heap.size ≤ w3.heap.size := by (try simp at hz3); omega
  have y3_0 : w.heap.size < w3.heap.size := by (try simp at hz3); omega
  have y3_1 : w.heap.size + 1 < w3.heap.size := by (try simp at hz3); omega
  have y3_2 : w2.heap.size < w3.heap.size := by (try simp at hz3); omega
  go_wp2_with fail
  refine (markOpen n t _ hn).mono ?_
  rw [P.out]
  rintro e w4 ⟨rfl, hb4⟩
  obtain ⟨hc4, hf4, hz4⟩ := after hb4
  have z4 : w3.heap.size ≤ w4.heap.size := by (try simp at hz4); omega
  have y4_0 : w.heap.size < w4.heap.size := by (try simp at hz4); omega
  have y4_1 : w.heap.size + 1 < w4.heap.size := by (try simp at hz4); omega
  have y4_2 : w2.heap.size < w4.heap.size := by (try simp at hz4); omega
  go_wp2_with fail
  refine (markOfNote x _ hx).mono ?_
  rw [A.out]
  rintro e w5 ⟨rfl, hb5⟩
  obtain ⟨hc5, hf5, hz5⟩ := after hb5
  have z5 : w4.heap.size ≤ w5.heap.size := by (try simp at hz5); omega
  have y5_0 : w.heap.size < w5.heap.size := by (try simp at hz5); omega
  have y5_1 : w.heap.size + 1 < w5.heap.size := by (try simp at hz5); omega
  have y5_2 : w2.heap.size < w5.heap.size := by (try simp at hz5); omega
  go_wp2_with fail
  refine (markNote _ _ _ _ (by omega) (by omega)).mono ?_
  rw [B.out]
  rintro e w6 ⟨rfl, hb6⟩
  obtain ⟨hc6, hf6, hz6⟩ := after hb6
  have z6 : w5.heap.size ≤ w6.heap.size := by (try simp at hz6); omega
  have y6_0 : w.heap.size < w6.heap.size := by (try simp at hz6); omega
  have y6_1 : w.heap.size + 1 < w6.heap.size := by (try simp at hz6); omega
  have y6_2 : w2.heap.size < w6.heap.size := by (try simp at hz6); omega
  have y6_3 : w5.heap.size < w6.heap.size := by (try simp at hz6); omega
  go_wp2_with fail
  refine (markEntry p v _ (by omega) (by omega)).mono ?_
  rw [E.out]
  rintro e w7 ⟨rfl, hb7⟩
  obtain ⟨hc7, hf7, hz7⟩ := after hb7
  have z7 : w6.heap.size ≤ w7.heap.size := by (try simp at hz7); omega
  have y7_0 : w.heap.size < w7.heap.size := by (try simp at hz7); omega
  have y7_1 : w.heap.size + 1 < w7.heap.size := by (try simp at hz7); omega
  have y7_2 : w2.heap.size < w7.heap.size := by (try simp at hz7); omega
  have y7_3 : w5.heap.size < w7.heap.size := by (try simp at hz7); omega
  go_wp2_with fail
  refine (liveMark _).mono ?_
  rintro e w8 ⟨rfl, hb8⟩
  obtain ⟨hc8, hf8, hz8⟩ := after hb8
  have z8 : w7.heap.size ≤ w8.heap.size := by (try simp at hz8); omega
  have y8_0 : w.heap.size < w8.heap.size := by (try simp at hz8); omega
  have y8_1 : w.heap.size + 1 < w8.heap.size := by (try simp at hz8); omega
  have y8_2 : w2.heap.size < w8.heap.size := by (try simp at hz8); omega
  have y8_3 : w5.heap.size < w8.heap.size := by (try simp at hz8); omega
  go_wp2
  go_ret
  exact ⟨rfl, bel⟩

set_option maxHeartbeats 3200000 in
theorem markBack211 (w : World) (x s : Nat) (o : Bool) (c p : Int) (v n t a m : Nat) (d : Bool) (g : Int) (hx : x < 18446744073709551616) (hs : s < 4294967296) (hv : v < 4294967296)
    (N : Hid (noteV s c true = .tuple #[.int .u64 n, .bool true])) (hn : n < 18446744073709551616) (M : Hid (ofNoteV n = .tuple #[.agg #[.int .u32 s, .bool true, .int .i64 c], .bool true])) (O : Hid (openV n s = .tuple #[.int .i64 c, .bool true])) (P : Hid (openV n t = .tuple #[.int .i64 0, .bool false])) (X : bits .xor .u32 (s : Int) 1 = (t : Int)) (ht : t < 4294967296) (A : Hid (ofNoteV x = .tuple #[.agg #[.int .u32 a, .bool d, .int .i64 g], .bool true])) (ha : a < 4294967296) (B : Hid (noteV a g d = .tuple #[.int .u64 x, .bool true])) (E : Hid (entryV p v = .tuple #[.int .u64 m, .bool true])) (hm : m < 18446744073709551616) (F : Hid (ofEntryV m = .tuple #[.agg #[.int .i64 p, .int .u32 v], .bool true])) :
    Calls Try.prog 14 #[.int .u64 x, .agg #[.int .u32 s, .bool true, .int .i64 c], .agg #[.int .i64 p, .int .u32 v]] w fun e w' => e = .returned (.bool true) ∧ Below w.heap.size w w' := by
  go_enter Try.func14, Try.ntmps14
  go_wp2_with fail
  refine (markNote s c true _ (by omega) (by omega)).mono ?_
  rw [N.out]
  rintro e w1 ⟨rfl, hb1⟩
  obtain ⟨hc1, hf1, hz1⟩ := after hb1
  have z1 : w.heap.size ≤ w1.heap.size := by (try simp at hz1); omega
  have y1_0 : w.heap.size < w1.heap.size := by (try simp at hz1); omega
  have y1_1 : w.heap.size + 1 < w1.heap.size := by (try simp at hz1); omega
  go_wp2_with fail
  refine (markOfNote n _ hn).mono ?_
  rw [M.out]
  rintro e w2 ⟨rfl, hb2⟩
  obtain ⟨hc2, hf2, hz2⟩ := after hb2
  have z2 : w1.heap.size ≤ w2.heap.size := by (try simp at hz2); omega
  have y2_0 : w.heap.size < w2.heap.size := by (try simp at hz2); omega
  have y2_1 : w.heap.size + 1 < w2.heap.size := by (try simp at hz2); omega
  go_wp2_with fail
  refine (markOpen n s _ hn).mono ?_
  rw [O.out]
  rintro e w3 ⟨rfl, hb3⟩
  obtain ⟨hc3, hf3, hz3⟩ := after hb3
  have z3 : w2.heap.size ≤ w3.heap.size := by (try simp at hz3); omega
  have y3_0 : w.heap.size < w3.heap.size := by (try simp at hz3); omega
  have y3_1 : w.heap.size + 1 < w3.heap.size := by (try simp at hz3); omega
  have y3_2 : w2.heap.size < w3.heap.size := by (try simp at hz3); omega
  go_wp2_with fail
  refine (markOpen n t _ hn).mono ?_
  rw [P.out]
  rintro e w4 ⟨rfl, hb4⟩
  obtain ⟨hc4, hf4, hz4⟩ := after hb4
  have z4 : w3.heap.size ≤ w4.heap.size := by (try simp at hz4); omega
  have y4_0 : w.heap.size < w4.heap.size := by (try simp at hz4); omega
  have y4_1 : w.heap.size + 1 < w4.heap.size := by (try simp at hz4); omega
  have y4_2 : w2.heap.size < w4.heap.size := by (try simp at hz4); omega
  go_wp2_with fail
  refine (markOfNote x _ hx).mono ?_
  rw [A.out]
  rintro e w5 ⟨rfl, hb5⟩
  obtain ⟨hc5, hf5, hz5⟩ := after hb5
  have z5 : w4.heap.size ≤ w5.heap.size := by (try simp at hz5); omega
  have y5_0 : w.heap.size < w5.heap.size := by (try simp at hz5); omega
  have y5_1 : w.heap.size + 1 < w5.heap.size := by (try simp at hz5); omega
  have y5_2 : w2.heap.size < w5.heap.size := by (try simp at hz5); omega
  go_wp2_with fail
  refine (markNote _ _ _ _ (by omega) (by omega)).mono ?_
  rw [B.out]
  rintro e w6 ⟨rfl, hb6⟩
  obtain ⟨hc6, hf6, hz6⟩ := after hb6
  have z6 : w5.heap.size ≤ w6.heap.size := by (try simp at hz6); omega
  have y6_0 : w.heap.size < w6.heap.size := by (try simp at hz6); omega
  have y6_1 : w.heap.size + 1 < w6.heap.size := by (try simp at hz6); omega
  have y6_2 : w2.heap.size < w6.heap.size := by (try simp at hz6); omega
  have y6_3 : w5.heap.size < w6.heap.size := by (try simp at hz6); omega
  go_wp2_with fail
  refine (markEntry p v _ (by omega) (by omega)).mono ?_
  rw [E.out]
  rintro e w7 ⟨rfl, hb7⟩
  obtain ⟨hc7, hf7, hz7⟩ := after hb7
  have z7 : w6.heap.size ≤ w7.heap.size := by (try simp at hz7); omega
  have y7_0 : w.heap.size < w7.heap.size := by (try simp at hz7); omega
  have y7_1 : w.heap.size + 1 < w7.heap.size := by (try simp at hz7); omega
  have y7_2 : w2.heap.size < w7.heap.size := by (try simp at hz7); omega
  have y7_3 : w5.heap.size < w7.heap.size := by (try simp at hz7); omega
  go_wp2_with fail
  refine (markOfEntry m _ (by omega) (by omega)).mono ?_
  rw [F.out]
  rintro e w8 ⟨rfl, hb8⟩
  obtain ⟨hc8, hf8, hz8⟩ := after hb8
  have z8 : w7.heap.size ≤ w8.heap.size := by (try simp at hz8); omega
  have y8_0 : w.heap.size < w8.heap.size := by (try simp at hz8); omega
  have y8_1 : w.heap.size + 1 < w8.heap.size := by (try simp at hz8); omega
  have y8_2 : w2.heap.size < w8.heap.size := by (try simp at hz8); omega
  have y8_3 : w5.heap.size < w8.heap.size := by (try simp at hz8); omega
  go_wp2_with fail
  refine (liveMark _).mono ?_
  rintro e w9 ⟨rfl, hb9⟩
  obtain ⟨hc9, hf9, hz9⟩ := after hb9
  have z9 : w8.heap.size ≤ w9.heap.size := by (try simp at hz9); omega
  have y9_0 : w.heap.size < w9.heap.size := by (try simp at hz9); omega
  have y9_1 : w.heap.size + 1 < w9.heap.size := by (try simp at hz9); omega
  have y9_2 : w2.heap.size < w9.heap.size := by (try simp at hz9); omega
  have y9_3 : w5.heap.size < w9.heap.size := by (try simp at hz9); omega
  have y9_4 : w8.heap.size < w9.heap.size := by (try simp at hz9); omega
  go_wp2
  go_ret
  exact ⟨rfl, bel⟩

theorem lawMarkBack (w : World) (x s : Nat) (o : Bool) (c p : Int) (v : Nat) (hx : x < 18446744073709551616) (hs : s < 4294967296) (c1 : -9223372036854775808 ≤ c) (c2 : c ≤ 9223372036854775807) (p1 : -9223372036854775808 ≤ p) (p2 : p ≤ 9223372036854775807) (hv : v < 4294967296) :
    Calls Try.prog 14 #[.int .u64 x, .agg #[.int .u32 s, .bool o, .int .i64 c], .agg #[.int .i64 p, .int .u32 v]] w fun e w' => e = .returned (.bool true) ∧ Below w.heap.size w w' := by
  obtain ⟨t, ht1, ht2, ht3⟩ := xorOne s hs
  by_cases hc : 0 ≤ c ∧ c ≤ 96
  · obtain ⟨n, hn, N, M, O, P⟩ := noteBack o (by omega) (by omega) hc t ht2
    cases o
    · rcases noteAgain x hx with A | ⟨a, d, g, ha, A, B⟩ <;> rcases entryBack p v hv with E | ⟨m, hm, E, F⟩
      · exact markBack100 w x s false c p v n t 0 0 false 0 hx hs hv (hid N) hn (hid M) (hid O) (hid P) ht3 ht1 (hid A) (hid E)
      · exact markBack101 w x s false c p v n t 0 m false 0 hx hs hv (hid N) hn (hid M) (hid O) (hid P) ht3 ht1 (hid A) (hid E) hm (hid F)
      · exact markBack110 w x s false c p v n t a 0 d g hx hs hv (hid N) hn (hid M) (hid O) (hid P) ht3 ht1 (hid A) ha (hid B) (hid E)
      · exact markBack111 w x s false c p v n t a m d g hx hs hv (hid N) hn (hid M) (hid O) (hid P) ht3 ht1 (hid A) ha (hid B) (hid E) hm (hid F)
    · rcases noteAgain x hx with A | ⟨a, d, g, ha, A, B⟩ <;> rcases entryBack p v hv with E | ⟨m, hm, E, F⟩
      · exact markBack200 w x s true c p v n t 0 0 false 0 hx hs hv (hid N) hn (hid M) (hid O) (hid P) ht3 ht1 (hid A) (hid E)
      · exact markBack201 w x s true c p v n t 0 m false 0 hx hs hv (hid N) hn (hid M) (hid O) (hid P) ht3 ht1 (hid A) (hid E) hm (hid F)
      · exact markBack210 w x s true c p v n t a 0 d g hx hs hv (hid N) hn (hid M) (hid O) (hid P) ht3 ht1 (hid A) ha (hid B) (hid E)
      · exact markBack211 w x s true c p v n t a m d g hx hs hv (hid N) hn (hid M) (hid O) (hid P) ht3 ht1 (hid A) ha (hid B) (hid E) hm (hid F)
  · have N : noteV s c o = .tuple #[.int .u64 0, .bool false] := by rw [noteV, if_neg hc]
    rcases noteAgain x hx with A | ⟨a, d, g, ha, A, B⟩ <;> rcases entryBack p v hv with E | ⟨m, hm, E, F⟩
    · exact markBack000 w x s o c p v 0 t 0 0 false 0 hx hs hv (hid N) (hid A) (hid E)
    · exact markBack001 w x s o c p v 0 t 0 m false 0 hx hs hv (hid N) (hid A) (hid E) hm (hid F)
    · exact markBack010 w x s o c p v 0 t a 0 d g hx hs hv (hid N) (hid A) ha (hid B) (hid E)
    · exact markBack011 w x s o c p v 0 t a m d g hx hs hv (hid N) (hid A) ha (hid B) (hid E) hm (hid F)
end Go.Proofs.Ytdobepeeenjeeaa
