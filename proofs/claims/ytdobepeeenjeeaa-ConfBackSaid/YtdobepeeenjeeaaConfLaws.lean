/- The walks of the statements on configurations: each answers true. -/
import Derived.Test.YtdobepeeenjeeaaConf4
namespace Go.Proofs.Ytdobepeeenjeeaa
open Go.RowKit
set_option linter.unusedVariables false

theorem checkC_bd (t p s : Int) : -9223372036854775808 ≤ checkC t p s ∧ checkC t p s ≤ 9223372036854775807 := by
  unfold checkC
  split <;> omega

set_option maxHeartbeats 800000 in
theorem liveConf (w : World) : Calls Try.prog 39 #[] w fun e w' => e = .returned (.bool true) ∧ Below w.heap.size w w' := by
  have hb := hid (show bytesC 2 64 10 = 65536 by decide)
  have hw := hid (show wordC 2 64 10 = .tuple #[.int .u64 42953867266, .bool true] from rfl)
  go_enter Try.func39, Try.ntmps39
  go_wp2_with fail
  refine (confWord 2 64 10 _).mono ?_
  rw [hw.out]
  rintro e w2 ⟨rfl, hb2⟩
  obtain ⟨hc2, hf2, hz2⟩ := after hb2
  simp at hz2
  go_wp2_with fail
  refine (confBytes 2 64 10 _).mono ?_
  rw [hb.out]
  rintro e w3 ⟨rfl, hb3⟩
  go_wp2_with fail
  go_ret
  exact ⟨rfl, bel⟩

set_option maxHeartbeats 1600000 in
theorem lawConfChecks (w : World) (t p s : Int) (t1 : -9223372036854775808 ≤ t) (t2 : t ≤ 9223372036854775807) (p1 : -9223372036854775808 ≤ p) (p2 : p ≤ 9223372036854775807) (s1 : -9223372036854775808 ≤ s) (s2 : s ≤ 9223372036854775807) :
    Calls Try.prog 9 #[.agg #[.int .i64 t, .int .i64 p, .int .i64 s]] w fun e w' => e = .returned (.bool true) ∧ Below w.heap.size w w' := by
  have hx := extCell
  have hk := checkC_bd t p s
  clear t1 t2 p1 p2 s1 s2
  go_enter Try.func9, Try.ntmps9
  go_wp2_with fail
  refine regionBelow (by kernel_rfl) (by kernel_rfl) ?_
  repeat (go_big_quiet_step ((first
    | (go_at_call 33; exact quietBelow (confCheck _ _ _ _))
    | (go_at_call 34; exact quietBelow (refCheckC _ _ _ _))
    | (go_at_call 32; exact quietSame (confNum _ _ hk.1 hk.2))
    | (go_at_call 35; exact quietBelow (confPage _ _ _ _))
    | (go_at_call 36; exact quietBelow (refPage _ _ _ _))
    | (go_at_call 37; exact quietBelow (confBytes _ _ _ _))
    | (go_at_call 38; exact quietBelow (refBytes _ _ _ _))
    | (go_at_call 39; exact quietBelow (liveConf _)))))
  refine wpQuiet_nil ?_
  intro _ hw'
  obtain ⟨nq, hw''⟩ := hw'
  subst hw''
  go_wp2
  go_ret
  have hn := nq.below
  exact ⟨rfl, bel⟩

theorem wordForm (t p s : Int) : ∃ n c, wordC t p s = .tuple #[.int .u64 n, .bool c] := by
  unfold wordC
  split
  · exact ⟨_, _, rfl⟩
  · exact ⟨_, _, rfl⟩
theorem ofForm (x : Int) : ∃ t p s c, ofC x = .tuple #[.agg #[.int .i64 t, .int .i64 p, .int .i64 s], .bool c] := by
  unfold ofC
  split
  · exact ⟨_, _, _, _, rfl⟩
  · exact ⟨_, _, _, _, rfl⟩

set_option maxHeartbeats 1600000 in
theorem lawConfWords (w : World) (t p s : Int) (x : Nat) (t1 : -9223372036854775808 ≤ t) (t2 : t ≤ 9223372036854775807) (p1 : -9223372036854775808 ≤ p) (p2 : p ≤ 9223372036854775807) (s1 : -9223372036854775808 ≤ s) (s2 : s ≤ 9223372036854775807) (hx : x < 18446744073709551616) :
    Calls Try.prog 12 #[.agg #[.int .i64 t, .int .i64 p, .int .i64 s], .int .u64 x] w fun e w' => e = .returned (.bool true) ∧ Below w.heap.size w w' := by
  obtain ⟨n, c, hf⟩ := wordForm t p s
  obtain ⟨a, b, d, e, ho⟩ := ofForm x
  have F := hid hf; have O := hid ho
  clear t1 t2 p1 p2 s1 s2 hf ho
  go_enter Try.func12, Try.ntmps12
  go_wp2_with fail
  refine (confWord t p s _).mono ?_
  rw [F.out]
  rintro e w1 ⟨rfl, hb1⟩
  obtain ⟨hc1, hf1, hz1⟩ := after hb1
  have z1 : w.heap.size < w1.heap.size := by simp at hz1; omega
  go_wp2_with fail
  refine (refWord t p s _).mono ?_
  rw [F.out]
  rintro e w2 ⟨rfl, hb2⟩
  have z2 : w.heap.size < w2.heap.size := by have := hb2.size; omega
  go_wp2_with fail
  refine (confOf x _ hx).mono ?_
  rw [O.out]
  rintro e w3 ⟨rfl, hb3⟩
  have z3 : w.heap.size < w3.heap.size := by have := hb3.size; omega
  go_wp2_with fail
  refine (refOfC x _ (by omega) (by omega)).mono ?_
  rw [O.out]
  rintro e w4 ⟨rfl, hb4⟩
  obtain ⟨hc4, hf4, hz4⟩ := after hb4
  have z4 : w3.heap.size < w4.heap.size := by simp at hz4; omega
  have z5 : w.heap.size < w4.heap.size := by omega
  go_wp2_with fail
  refine (liveConf _).mono ?_
  rintro e w5 ⟨rfl, hb5⟩
  go_wp2
  go_ret
  exact ⟨rfl, bel⟩

theorem confOfI (x : Int) (w : World) (h0 : 0 ≤ x) (h1 : x < 18446744073709551616) :
    Calls Try.prog 63 #[.int .u64 x] w fun e w' => e = .returned (ofC x) ∧ Below w.heap.size w w' := by
  obtain ⟨n, rfl⟩ := Int.eq_ofNat_of_zero_le h0
  exact confOf n w (by omega)

theorem ofWord {t p s : Int} (h : rightC t p s = true) : ofC (t + p * 65536 + s * 4294967296) = .tuple #[.agg #[.int .i64 t, .int .i64 p, .int .i64 s], .bool true] := by
  obtain ⟨⟨h1, h2⟩, ⟨h3, h4⟩, h5, h6⟩ := rightC_of h
  have e1 : (t + p * 65536 + s * 4294967296) % 65536 = t := by omega
  have e2 : (t + p * 65536 + s * 4294967296) / 65536 % 65536 = p := by omega
  have e3 : (t + p * 65536 + s * 4294967296) / 4294967296 = s := by omega
  rw [ofC, e1, e2, e3, if_pos ⟨h6, h⟩]
theorem wordOf (x : Int) (h0 : 0 ≤ x) (h : x / 4294967296 ≤ 20 ∧ rightC (x % 65536) (x / 65536 % 65536) (x / 4294967296) = true) :
    wordC (x % 65536) (x / 65536 % 65536) (x / 4294967296) = .tuple #[.int .u64 x, .bool true] := by
  rw [wordC, if_pos h.2]
  have : x % 65536 + x / 65536 % 65536 * 65536 + x / 4294967296 * 4294967296 = x := by omega
  rw [this]
theorem bytesBack {t p s : Int} (h : rightC t p s = true) : 4096 ≤ bytesC t p s ∧ bytesC t p s ≤ 1073741824 ∧ (bytesC t p s).tmod (pageC t p s) = 0 ∧ 1 ≤ pageC t p s := by
  have hb := @bytes_bound t p s
  obtain ⟨⟨h1, h2⟩, ⟨h3, h4⟩, h5, h6⟩ := rightC_of h
  have e : pageC t p s = ((2 ^ s.toNat : Nat) : Int) := by rw [pageC, if_pos h]
  have hm : (1024 : Nat) ≤ 2 ^ s.toNat := pow_mono (a := 10) (by omega)
  have hp : (1024 : Int) ≤ pageC t p s := by rw [e]; omega
  refine ⟨?_, hb.2.1, ?_, by omega⟩
  · have := Int.mul_le_mul hp h3 (by omega) (by omega)
    unfold bytesC
    omega
  · unfold bytesC
    exact Int.mul_tmod_right _ _

set_option maxHeartbeats 3200000 in
theorem lawConfBack (w : World) (t p s : Int) (x : Nat) (t1 : -9223372036854775808 ≤ t) (t2 : t ≤ 9223372036854775807) (p1 : -9223372036854775808 ≤ p) (p2 : p ≤ 9223372036854775807) (s1 : -9223372036854775808 ≤ s) (s2 : s ≤ 9223372036854775807) (hx : x < 18446744073709551616) :
    Calls Try.prog 13 #[.agg #[.int .i64 t, .int .i64 p, .int .i64 s], .int .u64 x] w fun e w' => e = .returned (.bool true) ∧ Below w.heap.size w w' := by
  have hr : ∃ c, rightC t p s = c := ⟨_, rfl⟩
  obtain ⟨c, hr⟩ := hr
  have hx' := extCell
  have hk := checkC_bd t p s
  clear t1 t2 p1 p2 s1 s2
  have ho : ((x : Int) / 4294967296 ≤ 20 ∧ rightC ((x : Int) % 65536) ((x : Int) / 65536 % 65536) ((x : Int) / 4294967296) = true) ∨ ¬ ((x : Int) / 4294967296 ≤ 20 ∧ rightC ((x : Int) % 65536) ((x : Int) / 65536 % 65536) ((x : Int) / 4294967296) = true) := Classical.em _
  cases c <;> rcases ho with ho | ho
  · have O := hid (show ofC x = .tuple #[.agg #[.int .i64 ((x : Int) % 65536), .int .i64 ((x : Int) / 65536 % 65536), .int .i64 ((x : Int) / 4294967296)], .bool true] by rw [ofC, if_pos ho])
    have B := hid (wordOf x (by omega) ho)
    clear ho
    have W := hid (show wordC t p s = .tuple #[.int .u64 0, .bool false] by rw [wordC, hr]; rfl)
    have K := hid (show checkC t p s = 1 by rw [checkC, hr]; rfl)
    clear hr
    go_enter Try.func13, Try.ntmps13
    go_wp2_with fail
    refine (confWord t p s _).mono ?_
    rw [W.out]
    rintro e w1 ⟨rfl, hb1⟩
    obtain ⟨hc1, hf1, hz1⟩ := after hb1
    have z1 : w.heap.size < w1.heap.size := by simp at hz1; omega
    go_wp2_with fail
    refine (confCheck t p s _).mono ?_
    rw [K.out]
    rintro e w2 ⟨rfl, hb2⟩
    have z2 : w.heap.size < w2.heap.size := by have := hb2.size; omega
    go_wp2_with fail
    refine (confNum _ _ (by omega) (by omega)).mono ?_
    rintro e w3 ⟨rfl, rfl⟩
    go_wp2_with fail
    refine (confOf x _ hx).mono ?_
    rw [O.out]
    rintro e w5 ⟨rfl, hb5⟩
    have z5 : w.heap.size < w5.heap.size := by have := hb5.size; omega
    go_wp2_with fail
    refine (confWord _ _ _ _).mono ?_
    rw [B.out]
    rintro e w6 ⟨rfl, hb6⟩
    have z6 : w5.heap.size < w6.heap.size := by have := hb6.size; simp at this; omega
    go_wp2_with fail
    refine (liveConf _).mono ?_
    rintro e w7 ⟨rfl, hb7⟩
    go_wp2
    go_ret
    exact ⟨rfl, bel⟩
  · have O := hid (show ofC x = .tuple #[.agg #[.int .i64 0, .int .i64 0, .int .i64 0], .bool false] by rw [ofC, if_neg ho])
    clear ho
    have W := hid (show wordC t p s = .tuple #[.int .u64 0, .bool false] by rw [wordC, hr]; rfl)
    have K := hid (show checkC t p s = 1 by rw [checkC, hr]; rfl)
    clear hr
    go_enter Try.func13, Try.ntmps13
    go_wp2_with fail
    refine (confWord t p s _).mono ?_
    rw [W.out]
    rintro e w1 ⟨rfl, hb1⟩
    obtain ⟨hc1, hf1, hz1⟩ := after hb1
    have z1 : w.heap.size < w1.heap.size := by simp at hz1; omega
    go_wp2_with fail
    refine (confCheck t p s _).mono ?_
    rw [K.out]
    rintro e w2 ⟨rfl, hb2⟩
    have z2 : w.heap.size < w2.heap.size := by have := hb2.size; omega
    go_wp2_with fail
    refine (confNum _ _ (by omega) (by omega)).mono ?_
    rintro e w3 ⟨rfl, rfl⟩
    go_wp2_with fail
    refine (confOf x _ hx).mono ?_
    rw [O.out]
    rintro e w5 ⟨rfl, hb5⟩
    have z5 : w.heap.size < w5.heap.size := by have := hb5.size; omega
    go_wp2_with fail
    refine (liveConf _).mono ?_
    rintro e w7 ⟨rfl, hb7⟩
    go_wp2
    go_ret
    exact ⟨rfl, bel⟩
  · have O := hid (show ofC x = .tuple #[.agg #[.int .i64 ((x : Int) % 65536), .int .i64 ((x : Int) / 65536 % 65536), .int .i64 ((x : Int) / 4294967296)], .bool true] by rw [ofC, if_pos ho])
    have B := hid (wordOf x (by omega) ho)
    clear ho
    have W := hid (show wordC t p s = .tuple #[.int .u64 (t + p * 65536 + s * 4294967296), .bool true] by rw [wordC, hr]; rfl)
    have K := hid (show checkC t p s = 0 by rw [checkC, hr]; rfl)
    have Q := hid (ofWord hr)
    obtain ⟨b1, b2, b3, b4⟩ := bytesBack hr
    obtain ⟨⟨h1, h2⟩, ⟨h3, h4⟩, h5, h6⟩ := rightC_of hr
    have d1 : decide (bytesC t p s < 4096) = false := by simpa using b1
    have d2 : decide (1073741824 < bytesC t p s) = false := by simpa using b2
    have d3 : (bytesC t p s % pageC t p s != 0) = false := by rw [← Int.tmod_eq_emod_of_nonneg (by omega)]; simpa using b3
    have d4 : (pageC t p s == 0) = false := by rw [beq_eq_false_iff_ne]; omega
    have d5 : ¬ pageC t p s = 0 := by omega
    clear hr b3
    go_enter Try.func13, Try.ntmps13
    go_wp2_with fail
    refine (confWord t p s _).mono ?_
    rw [W.out]
    rintro e w1 ⟨rfl, hb1⟩
    obtain ⟨hc1, hf1, hz1⟩ := after hb1
    have z1 : w.heap.size < w1.heap.size := by simp at hz1; omega
    go_wp2_with fail
    refine (confCheck t p s _).mono ?_
    rw [K.out]
    rintro e w2 ⟨rfl, hb2⟩
    obtain ⟨hc2, hf2, hz2⟩ := after hb2
    have z2 : w.heap.size < w2.heap.size := by omega
    go_wp2_with fail
    refine (confNum _ _ (by omega) (by omega)).mono ?_
    rintro e w3 ⟨rfl, rfl⟩
    go_wp2_with fail
    refine (confOfI _ _ (by omega) (by omega)).mono ?_
    rw [Q.out]
    rintro e w4 ⟨rfl, hb4⟩
    obtain ⟨hc4, hf4, hz4⟩ := after hb4
    have z4 : w.heap.size < w4.heap.size := by omega
    have z4' : w.heap.size ≤ w4.heap.size := by omega
    go_wp2_with fail
    refine regionBelow (by kernel_rfl) (by kernel_rfl) ?_
    repeat (go_big_quiet_step ((first
      | (go_at_call 37; exact quietBelow (confBytes _ _ _ _))
      | (go_at_call 35; exact quietBelow (confPage _ _ _ _)))))
    refine wpQuiet_nil ?_
    intro _ hw'
    obtain ⟨nq, hw''⟩ := hw'
    subst hw''
    have hn := nq.below
    have zn : w4.heap.size < nq.to.heap.size := by have := hn.size; simp at this; omega
    go_wp2_with fail
    refine (confOf x _ hx).mono ?_
    rw [O.out]
    rintro e w5 ⟨rfl, hb5⟩
    have z5 : w.heap.size < w5.heap.size := by have := hb5.size; omega
    go_wp2_with fail
    refine (confWord _ _ _ _).mono ?_
    rw [B.out]
    rintro e w6 ⟨rfl, hb6⟩
    have z6 : w5.heap.size < w6.heap.size := by have := hb6.size; simp at this; omega
    go_wp2_with fail
    refine (liveConf _).mono ?_
    rintro e w7 ⟨rfl, hb7⟩
    go_wp2
    go_ret
    exact ⟨rfl, bel⟩
  · have O := hid (show ofC x = .tuple #[.agg #[.int .i64 0, .int .i64 0, .int .i64 0], .bool false] by rw [ofC, if_neg ho])
    clear ho
    have W := hid (show wordC t p s = .tuple #[.int .u64 (t + p * 65536 + s * 4294967296), .bool true] by rw [wordC, hr]; rfl)
    have K := hid (show checkC t p s = 0 by rw [checkC, hr]; rfl)
    have Q := hid (ofWord hr)
    obtain ⟨b1, b2, b3, b4⟩ := bytesBack hr
    obtain ⟨⟨h1, h2⟩, ⟨h3, h4⟩, h5, h6⟩ := rightC_of hr
    have d1 : decide (bytesC t p s < 4096) = false := by simpa using b1
    have d2 : decide (1073741824 < bytesC t p s) = false := by simpa using b2
    have d3 : (bytesC t p s % pageC t p s != 0) = false := by rw [← Int.tmod_eq_emod_of_nonneg (by omega)]; simpa using b3
    have d4 : (pageC t p s == 0) = false := by rw [beq_eq_false_iff_ne]; omega
    have d5 : ¬ pageC t p s = 0 := by omega
    clear hr b3
    go_enter Try.func13, Try.ntmps13
    go_wp2_with fail
    refine (confWord t p s _).mono ?_
    rw [W.out]
    rintro e w1 ⟨rfl, hb1⟩
    obtain ⟨hc1, hf1, hz1⟩ := after hb1
    have z1 : w.heap.size < w1.heap.size := by simp at hz1; omega
    go_wp2_with fail
    refine (confCheck t p s _).mono ?_
    rw [K.out]
    rintro e w2 ⟨rfl, hb2⟩
    obtain ⟨hc2, hf2, hz2⟩ := after hb2
    have z2 : w.heap.size < w2.heap.size := by omega
    go_wp2_with fail
    refine (confNum _ _ (by omega) (by omega)).mono ?_
    rintro e w3 ⟨rfl, rfl⟩
    go_wp2_with fail
    refine (confOfI _ _ (by omega) (by omega)).mono ?_
    rw [Q.out]
    rintro e w4 ⟨rfl, hb4⟩
    obtain ⟨hc4, hf4, hz4⟩ := after hb4
    have z4 : w.heap.size < w4.heap.size := by omega
    have z4' : w.heap.size ≤ w4.heap.size := by omega
    go_wp2_with fail
    refine regionBelow (by kernel_rfl) (by kernel_rfl) ?_
    repeat (go_big_quiet_step ((first
      | (go_at_call 37; exact quietBelow (confBytes _ _ _ _))
      | (go_at_call 35; exact quietBelow (confPage _ _ _ _)))))
    refine wpQuiet_nil ?_
    intro _ hw'
    obtain ⟨nq, hw''⟩ := hw'
    subst hw''
    have hn := nq.below
    have zn : w4.heap.size < nq.to.heap.size := by have := hn.size; simp at this; omega
    go_wp2_with fail
    refine (confOf x _ hx).mono ?_
    rw [O.out]
    rintro e w5 ⟨rfl, hb5⟩
    have z5 : w.heap.size < w5.heap.size := by have := hb5.size; omega
    go_wp2_with fail
    refine (liveConf _).mono ?_
    rintro e w7 ⟨rfl, hb7⟩
    go_wp2
    go_ret
    exact ⟨rfl, bel⟩
end Go.Proofs.Ytdobepeeenjeeaa
