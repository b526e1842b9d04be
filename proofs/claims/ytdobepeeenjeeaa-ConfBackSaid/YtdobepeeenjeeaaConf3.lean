/- The walks of package conf, and of the reference's configurations: pages, bytes. -/
import Derived.Test.YtdobepeeenjeeaaConf2
namespace Go.Proofs.Ytdobepeeenjeeaa
open Go.RowKit
set_option linter.unusedVariables false

theorem refCheckC (t p s : Int) (w : World) :
    Calls Try.prog 34 #[.agg #[.int .i64 t, .int .i64 p, .int .i64 s]] w fun e w' => e = .returned (.int .i64 (checkC t p s)) ∧ Below w.heap.size w w' := by
  have hr : ∃ c, rightC t p s = c := ⟨_, rfl⟩
  obtain ⟨c, hr⟩ := hr
  cases c
  · have H := hid (show checkC t p s = 1 by rw [checkC, hr]; rfl)
    have R := hid hr; clear hr
    go_enter Try.func34, Try.ntmps34
    go_wp2_with (go_at_call 72; refine (refRightC _ _ _ _).mono ?_; rw [R.out]; rintro e w2 ⟨rfl, hb2⟩)
    go_ret
    exact ⟨ret_int (by rw [H.out]), bel⟩
  · have H := hid (show checkC t p s = 0 by rw [checkC, hr]; rfl)
    have R := hid hr; clear hr
    go_enter Try.func34, Try.ntmps34
    go_wp2_with (go_at_call 72; refine (refRightC _ _ _ _).mono ?_; rw [R.out]; rintro e w2 ⟨rfl, hb2⟩)
    go_ret
    exact ⟨ret_int (by rw [H.out]), bel⟩

theorem confNum (n : Int) (w : World) (h1 : -9223372036854775808 ≤ n) (h2 : n ≤ 9223372036854775807) : Calls Try.prog 32 #[.int .i64 n] w fun e w' => e = .returned (.int .i64 n) ∧ w = w' := by
  go_enter Try.func32, Try.ntmps32
  go_wp2
  go_ret
  exact ⟨rfl, rfl⟩

/-- How many bytes a page has. -/
def pageC (t p s : Int) : Int := if rightC t p s then ((2 ^ s.toNat : Nat) : Int) else 0
/-- How many bytes all pages have. -/
def bytesC (t p s : Int) : Int := pageC t p s * p

theorem pow_bound {n : Nat} (h : n ≤ 20) : (1 : Int) ≤ ((2 ^ n : Nat) : Int) ∧ ((2 ^ n : Nat) : Int) ≤ 1048576 := by
  have h1 := pow_mono (b := 20) h
  have h2 := pow_pos' n
  have e : (2 : Nat) ^ 20 = 1048576 := rfl
  omega

theorem confPage (t p s : Int) (w : World) :
    Calls Try.prog 35 #[.agg #[.int .i64 t, .int .i64 p, .int .i64 s]] w fun e w' => e = .returned (.int .i64 (pageC t p s)) ∧ Below w.heap.size w w' := by
  have hr : ∃ c, rightC t p s = c := ⟨_, rfl⟩
  obtain ⟨c, hr⟩ := hr
  cases c
  · have H := hid (show pageC t p s = 0 by rw [pageC, hr]; rfl)
    have R := hid (show checkC t p s = 1 by rw [checkC, hr]; rfl)
    clear hr
    go_enter Try.func35, Try.ntmps35
    go_wp2_with (go_at_call 33; refine (confCheck _ _ _ _).mono ?_; rw [R.out]; rintro e w2 ⟨rfl, hb2⟩)
    go_ret
    exact ⟨ret_int (by rw [H.out]), bel⟩
  · have H := hid (show pageC t p s = ((2 ^ s.toNat : Nat) : Int) by rw [pageC, hr]; rfl)
    have R := hid (show checkC t p s = 0 by rw [checkC, hr]; rfl)
    obtain ⟨_, _, hs1, hs2⟩ := rightC_of hr
    clear hr
    obtain ⟨n, rfl⟩ := Int.eq_ofNat_of_zero_le (show 0 ≤ s by omega)
    have hp := pow_bound (n := n) (by omega)
    go_enter Try.func35, Try.ntmps35
    go_wp2_with (go_at_call 33; refine (confCheck _ _ _ _).mono ?_; rw [R.out]; rintro e w2 ⟨rfl, hb2⟩; obtain ⟨hc2, hf2, hz2⟩ := after hb2)
    go_ret
    refine ⟨ret_int ?_, bel⟩
    rw [H.out, Int.toNat_natCast, show ((2 : Int) ^ n) = ((2 ^ n : Nat) : Int) from by rw [Int.natCast_pow]; rfl]
    exact IntWalk.wrap64_in _ (by omega)

theorem refPage (t p s : Int) (w : World) :
    Calls Try.prog 36 #[.agg #[.int .i64 t, .int .i64 p, .int .i64 s]] w fun e w' => e = .returned (.int .i64 (pageC t p s)) ∧ Below w.heap.size w w' := by
  have hr : ∃ c, rightC t p s = c := ⟨_, rfl⟩
  obtain ⟨c, hr⟩ := hr
  cases c
  · have H := hid (show pageC t p s = 0 by rw [pageC, hr]; rfl)
    have R := hid hr
    clear hr
    go_enter Try.func36, Try.ntmps36
    go_wp2_with (go_at_call 72; refine (refRightC _ _ _ _).mono ?_; rw [R.out]; rintro e w2 ⟨rfl, hb2⟩)
    go_ret
    exact ⟨ret_int (by rw [H.out]), bel⟩
  · have H := hid (show pageC t p s = ((2 ^ s.toNat : Nat) : Int) by rw [pageC, hr]; rfl)
    have R := hid hr
    obtain ⟨_, _, hs1, hs2⟩ := rightC_of hr
    clear hr
    obtain ⟨n, rfl⟩ := Int.eq_ofNat_of_zero_le (show 0 ≤ s by omega)
    go_enter Try.func36, Try.ntmps36
    go_wp2_with (go_at_call 72; refine (refRightC _ _ _ _).mono ?_; rw [R.out]; rintro e w2 ⟨rfl, hb2⟩; obtain ⟨hc2, hf2, hz2⟩ := after hb2)
    have hcell : w2.cell? ⟨w.heap.size, 2, none⟩ = some (.int .i64 n) := by rw [hc2 _ _ (by simp)]; exact cellNew rfl rfl
    clear hc2
    go_loop [3, 4] (fun v i => ∃ k : Nat, k ≤ n ∧ i = .int .i64 k ∧ v = .int .i64 ((2 ^ k : Nat) : Int)) (fun _ i => n - (intOf i).toNat)
    case atStart => exact ⟨0, by omega, rfl, rfl⟩
    case round =>
      obtain ⟨k, hk, rfl, rfl⟩ := hrel
      have hp := pow_bound (n := k) (by omega)
      have hsucc := hid (show (2 : Nat) ^ (k + 1) = 2 ^ k * 2 from Nat.pow_succ 2 k)
      generalize hq : 2 ^ k = q at hp hsucc
      by_cases hlt : k < n
      · go_wp2
        go_round
        case rel => exact ⟨k + 1, by omega, by go_num, by rw [hsucc.out]; go_num⟩
        case measure => simp [intOf]; omega
      · obtain rfl : k = n := by omega
        have Q := hid hq; clear hq
        go_wp2
        go_ret
        exact ⟨ret_int (by rw [H.out, Int.toNat_natCast, Q.out]), bel⟩

theorem bytes_bound {t p s : Int} : 0 ≤ bytesC t p s ∧ bytesC t p s ≤ 1073741824 ∧ 0 ≤ pageC t p s ∧ pageC t p s ≤ 1048576 := by
  unfold bytesC pageC
  by_cases h : rightC t p s = true
  · rw [h, if_pos rfl]
    obtain ⟨_, ⟨h1, h2⟩, h3, h4⟩ := rightC_of h
    have hp := pow_bound (n := s.toNat) (by omega)
    generalize ((2 ^ s.toNat : Nat) : Int) = q at hp
    have hq := Int.mul_le_mul hp.2 h2 (by omega) (by omega)
    have hq0 := Int.mul_nonneg (show 0 ≤ q by omega) (show 0 ≤ p by omega)
    omega
  · rw [if_neg h]; omega

theorem confBytes (t p s : Int) (w : World) :
    Calls Try.prog 37 #[.agg #[.int .i64 t, .int .i64 p, .int .i64 s]] w fun e w' => e = .returned (.int .i64 (bytesC t p s)) ∧ Below w.heap.size w w' := by
  have hb := @bytes_bound t p s
  have hx := extCell
  have hw := hid (show bytesC t p s = pageC t p s * p from rfl)
  generalize bytesC t p s = r at *
  go_enter Try.func37, Try.ntmps37
  go_wp2_with fail
  refine regionBelow (by kernel_rfl) (by kernel_rfl) ?_
  repeat (go_big_quiet_step ((first
    | (go_at_call 35; exact quietBelow (confPage _ _ _ _)))))
  refine wpQuiet_nil ?_
  intro _ hw'
  obtain ⟨nq, hw''⟩ := hw'
  subst hw''
  go_wp2
  go_ret
  have hn := nq.below
  exact ⟨ret_int (by show wrap64 (pageC t p s * p) = r; rw [← hw.out]; exact IntWalk.wrap64_in r (by omega)), bel⟩

theorem refBytes (t p s : Int) (w : World) :
    Calls Try.prog 38 #[.agg #[.int .i64 t, .int .i64 p, .int .i64 s]] w fun e w' => e = .returned (.int .i64 (bytesC t p s)) ∧ Below w.heap.size w w' := by
  have hb := @bytes_bound t p s
  have hx := extCell
  have hr : ∃ c, rightC t p s = c := ⟨_, rfl⟩
  obtain ⟨c, hr⟩ := hr
  cases c
  · have H := hid (show bytesC t p s = 0 by rw [bytesC, pageC, hr]; simp)
    have R := hid hr
    clear hr hb
    go_enter Try.func38, Try.ntmps38
    go_wp2_with (go_at_call 72; refine (refRightC _ _ _ _).mono ?_; rw [R.out]; rintro e w2 ⟨rfl, hb2⟩)
    go_ret
    exact ⟨ret_int (by rw [H.out]), bel⟩
  · have hw := hid (show bytesC t p s = pageC t p s * p from rfl)
    generalize bytesC t p s = r at *
    have R := hid hr
    clear hr
    go_enter Try.func38, Try.ntmps38
    go_wp2_with (first
      | (go_at_call 72; refine (refRightC _ _ _ _).mono ?_; rw [R.out]; rintro e w2 ⟨rfl, hb2⟩; obtain ⟨hc2, hf2, hz2⟩ := after hb2; simp at hz2)
      | (go_at_call 36; fail))
    have hz3 : w.heap.size < w2.heap.size := by omega
    refine regionBelow (by kernel_rfl) (by kernel_rfl) ?_
    repeat (go_big_quiet_step ((first
      | (go_at_call 36; exact quietBelow (refPage _ _ _ _)))))
    refine wpQuiet_nil ?_
    intro _ hw'
    obtain ⟨nq, hw''⟩ := hw'
    subst hw''
    go_wp2
    go_ret
    have hn := nq.below
    exact ⟨ret_int (by show wrap64 (pageC t p s * p) = r; rw [← hw.out]; exact IntWalk.wrap64_in r (by omega)), bel⟩

/-! ### a configuration's word -/
/-- A configuration's word, and whether it has one. -/
def wordC (t p s : Int) : Value := if rightC t p s then .tuple #[.int .u64 (t + p * 65536 + s * 4294967296), .bool true] else .tuple #[.int .u64 0, .bool false]
/-- The configuration that a word is. -/
def ofC (x : Int) : Value := if x / 4294967296 ≤ 20 ∧ rightC (x % 65536) (x / 65536 % 65536) (x / 4294967296) = true
  then .tuple #[.agg #[.int .i64 (x % 65536), .int .i64 (x / 65536 % 65536), .int .i64 (x / 4294967296)], .bool true]
  else .tuple #[.agg #[.int .i64 0, .int .i64 0, .int .i64 0], .bool false]

theorem refWord (t p s : Int) (w : World) :
    Calls Try.prog 62 #[.agg #[.int .i64 t, .int .i64 p, .int .i64 s]] w fun e w' => e = .returned (wordC t p s) ∧ Below w.heap.size w w' := by
  have hr : ∃ c, rightC t p s = c := ⟨_, rfl⟩
  obtain ⟨c, hr⟩ := hr
  cases c
  · have H := hid (show wordC t p s = .tuple #[.int .u64 0, .bool false] by rw [wordC, hr]; rfl)
    have R := hid hr
    clear hr
    go_enter Try.func62, Try.ntmps62
    go_wp2_with (go_at_call 72; refine (refRightC _ _ _ _).mono ?_; rw [R.out]; rintro e w2 ⟨rfl, hb2⟩)
    go_ret2
    exact ⟨by rw [H.out]; rfl, bel⟩
  · have H := hid (show wordC t p s = .tuple #[.int .u64 (t + p * 65536 + s * 4294967296), .bool true] by rw [wordC, hr]; rfl)
    have R := hid hr
    obtain ⟨⟨h1, h2⟩, ⟨h3, h4⟩, h5, h6⟩ := rightC_of hr
    clear hr
    go_enter Try.func62, Try.ntmps62
    go_wp2_with (go_at_call 72; refine (refRightC _ _ _ _).mono ?_; rw [R.out]; rintro e w2 ⟨rfl, hb2⟩; obtain ⟨hc2, hf2, hz2⟩ := after hb2)
    go_ret2
    exact ⟨by rw [H.out]; rfl, bel⟩

set_option maxHeartbeats 800000 in
theorem refOfC (x : Int) (w : World) (h0 : 0 ≤ x) (h1 : x < 18446744073709551616) :
    Calls Try.prog 64 #[.int .u64 x] w fun e w' => e = .returned (ofC x) ∧ Below w.heap.size w w' := by
  have hr : ∃ c, rightC (x % 65536) (x / 65536 % 65536) (x / 4294967296) = c := ⟨_, rfl⟩
  obtain ⟨c, hr⟩ := hr
  by_cases hg : x / 4294967296 ≤ 20
  · have d : decide (20 < x / 4294967296) = false := by simpa using hg
    cases c
    · have H := hid (show ofC x = .tuple #[.agg #[.int .i64 0, .int .i64 0, .int .i64 0], .bool false] by rw [ofC, hr, if_neg (by simp)])
      have R := hid hr
      clear hr
      go_enter Try.func64, Try.ntmps64
      go_wp2_with (go_at_call 72; refine (refRightC _ _ _ _).mono ?_; rw [R.out]; rintro e w2 ⟨rfl, hb2⟩; obtain ⟨hc2, hf2, hz2⟩ := after hb2; simp at hz2)
      have k0 : w2.cell? ⟨w.heap.size, 0, none⟩ = some (.int .i64 0) := by rw [hc2 _ _ (by simp; omega)]; exact cellOld (by simp) (cellNew rfl rfl)
      have k1 : w2.cell? ⟨w.heap.size, 1, none⟩ = some (.int .i64 0) := by rw [hc2 _ _ (by simp; omega)]; exact cellOld (by simp) (cellNew rfl rfl)
      have k2 : w2.cell? ⟨w.heap.size, 2, none⟩ = some (.int .i64 0) := by rw [hc2 _ _ (by simp; omega)]; exact cellOld (by simp) (cellNew rfl rfl)
      exact bodyPost_ret (v := .tuple #[.agg #[.int .i64 0, .int .i64 0, .int .i64 0], .bool false]) (by simp [results, Try.results64, go_sem, k0, k1, k2]) rfl ⟨by rw [H.out], bel⟩
    · have H := hid (show ofC x = .tuple #[.agg #[.int .i64 (x % 65536), .int .i64 (x / 65536 % 65536), .int .i64 (x / 4294967296)], .bool true] by rw [ofC, hr, if_pos ⟨hg, rfl⟩])
      have R := hid hr
      clear hr
      go_enter Try.func64, Try.ntmps64
      go_wp2_with (go_at_call 72; refine (refRightC _ _ _ _).mono ?_; rw [R.out]; rintro e w2 ⟨rfl, hb2⟩; obtain ⟨hc2, hf2, hz2⟩ := after hb2; simp at hz2)
      have k0 : w2.cell? ⟨w.heap.size, 0, none⟩ = some (.int .i64 0) := by rw [hc2 _ _ (by simp; omega)]; exact cellOld (by simp) (cellNew rfl rfl)
      have k1 : w2.cell? ⟨w.heap.size, 1, none⟩ = some (.int .i64 0) := by rw [hc2 _ _ (by simp; omega)]; exact cellOld (by simp) (cellNew rfl rfl)
      have k2 : w2.cell? ⟨w.heap.size, 2, none⟩ = some (.int .i64 0) := by rw [hc2 _ _ (by simp; omega)]; exact cellOld (by simp) (cellNew rfl rfl)
      exact bodyPost_ret (v := .tuple #[.agg #[.int .i64 (x % 65536), .int .i64 (x / 65536 % 65536), .int .i64 (x / 4294967296)], .bool true]) (by simp [results, Try.results64, go_sem, k0, k1, k2]) rfl ⟨by rw [H.out], bel⟩
  · have d : decide (20 < x / 4294967296) = true := by simpa using hg
    have H := hid (show ofC x = .tuple #[.agg #[.int .i64 0, .int .i64 0, .int .i64 0], .bool false] by rw [ofC, if_neg (fun h => hg h.1)])
    clear hr
    go_enter Try.func64, Try.ntmps64
    go_wp2
    exact bodyPost_ret (v := .tuple #[.agg #[.int .i64 0, .int .i64 0, .int .i64 0], .bool false]) (by simp [results, Try.results64, go_sem]) rfl ⟨by rw [H.out], bel⟩
end Go.Proofs.Ytdobepeeenjeeaa
