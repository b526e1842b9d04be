/- The walks of package mark, and of the reference's words of changes, behind notes' words: notes got, tips, entries. -/
import Derived.Test.YtkkhoiahjmfibaaMark
namespace Go.Proofs.Ytkkhoiahjmfibaa
open Go.RowKit
set_option linter.unusedVariables false
set_option linter.unusedSimpArgs false

theorem ofNote_no {x : Int} (h : ¬ x % 2147483648 ≤ 96) : ofNoteV x = .tuple #[.agg #[.int .u32 0, .bool false, .int .i64 0], .bool false] := by rw [ofNoteV, if_neg h]
theorem ofNote_open {x : Int} (h : x % 2147483648 ≤ 96) (h2 : x / 2147483648 % 2 = 1) : ofNoteV x = .tuple #[.agg #[.int .u32 (x / 4294967296), .bool true, .int .i64 (x % 2147483648)], .bool true] := by rw [ofNoteV, if_pos h, h2]; rfl
theorem ofNote_shut {x : Int} (h : x % 2147483648 ≤ 96) (h2 : x / 2147483648 % 2 = 0) : ofNoteV x = .tuple #[.agg #[.int .u32 (x / 4294967296), .bool false, .int .i64 (x % 2147483648)], .bool true] := by rw [ofNoteV, if_pos h, h2]; rfl

set_option maxHeartbeats 1600000 in
theorem markOfNote (x : Nat) (w : World) (hx : x < 18446744073709551616) :
    Calls Try.prog 39 #[.int .u64 x] w fun e w' => e = .returned (ofNoteV x) ∧ Below w.heap.size w w' := by
  by_cases h1 : (x : Int) % 65536 ≤ 96
  · by_cases h2 : (x : Int) / 65536 % 32768 = 0
    · have h12 : (x : Int) % 2147483648 = (x : Int) % 65536 := by omega
      have d2 : ((x : Int) / 65536 % 32768 != 0) = false := by rw [bne_eq_false_iff_eq]; exact h2
      by_cases h3 : (x : Int) / 2147483648 % 2 = 1
      · have H := hid (ofNote_open (x := x) (by omega) h3)
        have d3 : ((x : Int) / 2147483648 % 2 == 1) = true := by rw [beq_iff_eq]; exact h3
        have E := hid h12
        clear h12 h2 h3
        go_enter Try.func39, Try.ntmps39
        go_wp2_with fail
        refine (getCount x _ hx).mono ?_
        rintro e w1 ⟨rfl, n1, rfl⟩
        go_wp2_with fail
        refine (getRest x _ hx).mono ?_
        rintro e w2 ⟨rfl, n2, rfl⟩
        go_wp2_with fail
        refine (halfHi x _ (by omega) (by omega)).mono ?_
        rintro e w3 ⟨rfl, rfl⟩
        go_wp2_with fail
        refine (getOpen x _ hx).mono ?_
        rintro e w4 ⟨rfl, n4, rfl⟩
        go_wp2_with fail
        exact bodyPost_ret (v := .tuple #[.agg #[.int .u32 ((x : Int) / 4294967296), .bool true, .int .i64 ((x : Int) % 65536)], .bool true]) (by simp [results, Try.results39, go_sem]) rfl ⟨by rw [H.out, E.out], bel⟩
      · have h3 : (x : Int) / 2147483648 % 2 = 0 := by omega
        have H := hid (ofNote_shut (x := x) (by omega) h3)
        have d3 : ((x : Int) / 2147483648 % 2 == 1) = false := by rw [beq_eq_false_iff_ne]; omega
        have E := hid h12
        clear h12 h2 h3
        go_enter Try.func39, Try.ntmps39
        go_wp2_with fail
        refine (getCount x _ hx).mono ?_
        rintro e w1 ⟨rfl, n1, rfl⟩
        go_wp2_with fail
        refine (getRest x _ hx).mono ?_
        rintro e w2 ⟨rfl, n2, rfl⟩
        go_wp2_with fail
        refine (halfHi x _ (by omega) (by omega)).mono ?_
        rintro e w3 ⟨rfl, rfl⟩
        go_wp2_with fail
        refine (getOpen x _ hx).mono ?_
        rintro e w4 ⟨rfl, n4, rfl⟩
        go_wp2_with fail
        exact bodyPost_ret (v := .tuple #[.agg #[.int .u32 ((x : Int) / 4294967296), .bool false, .int .i64 ((x : Int) % 65536)], .bool true]) (by simp [results, Try.results39, go_sem]) rfl ⟨by rw [H.out, E.out], bel⟩
    · have H := hid (ofNote_no (x := x) (by omega))
      have d2 : ((x : Int) / 65536 % 32768 != 0) = true := by rw [bne_iff_ne]; exact h2
      go_enter Try.func39, Try.ntmps39
      go_wp2_with fail
      refine (getCount x _ hx).mono ?_
      rintro e w1 ⟨rfl, n1, rfl⟩
      go_wp2_with fail
      refine (getRest x _ hx).mono ?_
      rintro e w2 ⟨rfl, n2, rfl⟩
      go_wp2_with fail
      exact bodyPost_ret (v := .tuple #[.agg #[.int .u32 0, .bool false, .int .i64 0], .bool false]) (by simp [results, Try.results39, go_sem]) rfl ⟨by rw [H.out], bel⟩
  · have H := hid (ofNote_no (x := x) (by omega))
    go_enter Try.func39, Try.ntmps39
    go_wp2_with fail
    refine (getCount x _ hx).mono ?_
    rintro e w1 ⟨rfl, n1, rfl⟩
    go_wp2_with fail
    exact bodyPost_ret (v := .tuple #[.agg #[.int .u32 0, .bool false, .int .i64 0], .bool false]) (by simp [results, Try.results39, go_sem]) rfl ⟨by rw [H.out], bel⟩

set_option maxHeartbeats 1600000 in
theorem refOfNote (x : Int) (w : World) (x0 : 0 ≤ x) (hx : x < 18446744073709551616) :
    Calls Try.prog 44 #[.int .u64 x] w fun e w' => e = .returned (ofNoteV x) ∧ Below w.heap.size w w' := by
  by_cases h3 : x / 2147483648 % 2 = 1
  · have e3 : x % 4294967296 - 2147483648 = x % 2147483648 := by omega
    by_cases h1 : x % 2147483648 ≤ 96
    · have H := hid (ofNote_open (x := x) h1 h3)
      have E := hid e3
      have b1 : 2147483648 ≤ x % 4294967296 := by omega
      have b2 : x % 4294967296 - 2147483648 ≤ 96 := by omega
      clear h3 h1 e3
      go_enter Try.func44, Try.ntmps44
      go_wp2_with (first
        | (go_at_call 23; refine (refLo x _ (by omega) (by omega)).mono ?_; rintro e w1 ⟨rfl, rfl⟩)
        | (go_at_call 75; refine (refHi x _ (by omega) (by omega)).mono ?_; rintro e w1 ⟨rfl, rfl⟩))
      exact bodyPost_ret (v := .tuple #[.agg #[.int .u32 (x / 4294967296), .bool true, .int .i64 (x % 4294967296 - 2147483648)], .bool true]) (by simp [results, Try.results44, go_sem]) rfl ⟨by rw [H.out, E.out], bel⟩
    · have H := hid (ofNote_no (x := x) h1)
      have b1 : 2147483648 ≤ x % 4294967296 := by omega
      have b2 : 96 < x % 4294967296 - 2147483648 := by omega
      clear h3 h1 e3
      go_enter Try.func44, Try.ntmps44
      go_wp2_with (first
        | (go_at_call 23; refine (refLo x _ (by omega) (by omega)).mono ?_; rintro e w1 ⟨rfl, rfl⟩)
        | (go_at_call 75; refine (refHi x _ (by omega) (by omega)).mono ?_; rintro e w1 ⟨rfl, rfl⟩))
      exact bodyPost_ret (v := .tuple #[.agg #[.int .u32 0, .bool false, .int .i64 0], .bool false]) (by simp [results, Try.results44, go_sem]) rfl ⟨by rw [H.out], bel⟩
  · have e3 : x % 4294967296 = x % 2147483648 := by omega
    by_cases h1 : x % 2147483648 ≤ 96
    · have H := hid (ofNote_shut (x := x) h1 (by omega))
      have E := hid e3
      have b1 : x % 4294967296 < 2147483648 := by omega
      have b2 : x % 4294967296 ≤ 96 := by omega
      clear h3 h1 e3
      go_enter Try.func44, Try.ntmps44
      go_wp2_with (first
        | (go_at_call 23; refine (refLo x _ (by omega) (by omega)).mono ?_; rintro e w1 ⟨rfl, rfl⟩)
        | (go_at_call 75; refine (refHi x _ (by omega) (by omega)).mono ?_; rintro e w1 ⟨rfl, rfl⟩))
      exact bodyPost_ret (v := .tuple #[.agg #[.int .u32 (x / 4294967296), .bool false, .int .i64 (x % 4294967296)], .bool true]) (by simp [results, Try.results44, go_sem]) rfl ⟨by rw [H.out, E.out], bel⟩
    · have H := hid (ofNote_no (x := x) h1)
      have b1 : x % 4294967296 < 2147483648 := by omega
      have b2 : 96 < x % 4294967296 := by omega
      clear h3 h1 e3
      go_enter Try.func44, Try.ntmps44
      go_wp2_with (first
        | (go_at_call 23; refine (refLo x _ (by omega) (by omega)).mono ?_; rintro e w1 ⟨rfl, rfl⟩)
        | (go_at_call 75; refine (refHi x _ (by omega) (by omega)).mono ?_; rintro e w1 ⟨rfl, rfl⟩))
      exact bodyPost_ret (v := .tuple #[.agg #[.int .u32 0, .bool false, .int .i64 0], .bool false]) (by simp [results, Try.results44, go_sem]) rfl ⟨by rw [H.out], bel⟩

set_option maxHeartbeats 1600000 in
theorem markOpen (x : Nat) (s : Int) (w : World) (hx : x < 18446744073709551616) :
    Calls Try.prog 94 #[.int .u64 x, .int .u32 s] w fun e w' => e = .returned (openV x s) ∧ Below w.heap.size w w' := by
  by_cases h1 : (x : Int) % 2147483648 ≤ 96
  · by_cases h2 : (x : Int) / 2147483648 % 2 = 1
    · by_cases h3 : (x : Int) / 4294967296 = s
      · have H := hid (show openV x s = .tuple #[.int .i64 ((x : Int) % 2147483648), .bool true] by rw [openV, if_pos ⟨h1, h2, h3⟩])
        have O := hid (ofNote_open h1 h2)
        have d : ((x : Int) / 4294967296 == s) = true := by rw [beq_iff_eq]; exact h3
        have d' : ((x : Int) / 4294967296 != s) = false := by rw [bne_eq_false_iff_eq]; exact h3
        clear h1 h2 h3
        go_enter Try.func94, Try.ntmps94
        go_wp2_with fail
        refine (markOfNote x _ hx).mono ?_
        rw [O.out]
        rintro e w1 ⟨rfl, hb1⟩
        obtain ⟨hc1, hf1, hz1⟩ := after hb1
        go_wp2_with fail
        go_ret2
        exact ⟨by rw [H.out]; rfl, bel⟩
      · have H := hid (show openV x s = .tuple #[.int .i64 0, .bool false] by rw [openV, if_neg (fun h => h3 h.2.2)])
        have O := hid (ofNote_open h1 h2)
        have d : ((x : Int) / 4294967296 == s) = false := by rw [beq_eq_false_iff_ne]; exact h3
        have d' : ((x : Int) / 4294967296 != s) = true := by rw [bne_iff_ne]; exact h3
        clear h1 h2 h3
        go_enter Try.func94, Try.ntmps94
        go_wp2_with fail
        refine (markOfNote x _ hx).mono ?_
        rw [O.out]
        rintro e w1 ⟨rfl, hb1⟩
        obtain ⟨hc1, hf1, hz1⟩ := after hb1
        go_wp2_with fail
        go_ret2
        exact ⟨by rw [H.out]; rfl, bel⟩
    · have H := hid (show openV x s = .tuple #[.int .i64 0, .bool false] by rw [openV, if_neg (fun h => h2 h.2.1)])
      have O := hid (ofNote_shut h1 (by omega))
      clear h1 h2
      go_enter Try.func94, Try.ntmps94
      go_wp2_with fail
      refine (markOfNote x _ hx).mono ?_
      rw [O.out]
      rintro e w1 ⟨rfl, hb1⟩
      obtain ⟨hc1, hf1, hz1⟩ := after hb1
      go_wp2_with fail
      go_ret2
      exact ⟨by rw [H.out]; rfl, bel⟩
  · have H := hid (show openV x s = .tuple #[.int .i64 0, .bool false] by rw [openV, if_neg (fun h => h1 h.1)])
    have O := hid (ofNote_no h1)
    clear h1
    go_enter Try.func94, Try.ntmps94
    go_wp2_with fail
    refine (markOfNote x _ hx).mono ?_
    rw [O.out]
    rintro e w1 ⟨rfl, hb1⟩
    obtain ⟨hc1, hf1, hz1⟩ := after hb1
    go_wp2_with fail
    go_ret2
    exact ⟨by rw [H.out]; rfl, bel⟩

set_option maxHeartbeats 1600000 in
theorem refOpen (x : Int) (s : Int) (w : World) (x0 : 0 ≤ x) (hx : x < 18446744073709551616) :
    Calls Try.prog 105 #[.int .u64 x, .int .u32 s] w fun e w' => e = .returned (openV x s) ∧ Below w.heap.size w w' := by
  by_cases h1 : (x : Int) % 2147483648 ≤ 96
  · by_cases h2 : (x : Int) / 2147483648 % 2 = 1
    · by_cases h3 : (x : Int) / 4294967296 = s
      · have H := hid (show openV x s = .tuple #[.int .i64 ((x : Int) % 2147483648), .bool true] by rw [openV, if_pos ⟨h1, h2, h3⟩])
        have O := hid (ofNote_open h1 h2)
        have d : ((x : Int) / 4294967296 == s) = true := by rw [beq_iff_eq]; exact h3
        have d' : ((x : Int) / 4294967296 != s) = false := by rw [bne_eq_false_iff_eq]; exact h3
        clear h1 h2 h3
        go_enter Try.func105, Try.ntmps105
        go_wp2_with fail
        refine (refOfNote x _ x0 hx).mono ?_
        rw [O.out]
        rintro e w1 ⟨rfl, hb1⟩
        obtain ⟨hc1, hf1, hz1⟩ := after hb1
        go_wp2_with fail
        go_ret2
        exact ⟨by rw [H.out]; rfl, bel⟩
      · have H := hid (show openV x s = .tuple #[.int .i64 0, .bool false] by rw [openV, if_neg (fun h => h3 h.2.2)])
        have O := hid (ofNote_open h1 h2)
        have d : ((x : Int) / 4294967296 == s) = false := by rw [beq_eq_false_iff_ne]; exact h3
        have d' : ((x : Int) / 4294967296 != s) = true := by rw [bne_iff_ne]; exact h3
        clear h1 h2 h3
        go_enter Try.func105, Try.ntmps105
        go_wp2_with fail
        refine (refOfNote x _ x0 hx).mono ?_
        rw [O.out]
        rintro e w1 ⟨rfl, hb1⟩
        obtain ⟨hc1, hf1, hz1⟩ := after hb1
        go_wp2_with fail
        go_ret2
        exact ⟨by rw [H.out]; rfl, bel⟩
    · have H := hid (show openV x s = .tuple #[.int .i64 0, .bool false] by rw [openV, if_neg (fun h => h2 h.2.1)])
      have O := hid (ofNote_shut h1 (by omega))
      clear h1 h2
      go_enter Try.func105, Try.ntmps105
      go_wp2_with fail
      refine (refOfNote x _ x0 hx).mono ?_
      rw [O.out]
      rintro e w1 ⟨rfl, hb1⟩
      obtain ⟨hc1, hf1, hz1⟩ := after hb1
      go_wp2_with fail
      go_ret2
      exact ⟨by rw [H.out]; rfl, bel⟩
  · have H := hid (show openV x s = .tuple #[.int .i64 0, .bool false] by rw [openV, if_neg (fun h => h1 h.1)])
    have O := hid (ofNote_no h1)
    clear h1
    go_enter Try.func105, Try.ntmps105
    go_wp2_with fail
    refine (refOfNote x _ x0 hx).mono ?_
    rw [O.out]
    rintro e w1 ⟨rfl, hb1⟩
    obtain ⟨hc1, hf1, hz1⟩ := after hb1
    go_wp2_with fail
    go_ret2
    exact ⟨by rw [H.out]; rfl, bel⟩

/-! ### tips, entries, cells -/
theorem markMaker (u : Int) (w : World) (b : Bool) (hb : b = decide (0 ≤ u ∧ u ≤ 16)) : Calls Try.prog 115 #[.int .i64 u] w fun e w' => e = .returned (.bool b) ∧ w = w' := by
  by_cases h1 : 0 ≤ u
  · by_cases h2 : u ≤ 16
    · have hb' : b = true := by rw [hb]; simp [h1, h2]
      have d : decide (u ≤ 16) = true := by simpa using h2
      clear hb; subst hb'
      go_enter Try.func115, Try.ntmps115
      go_wp2
      go_ret
      exact ⟨rfl, rfl⟩
    · have hb' : b = false := by rw [hb]; simp [h1, h2]
      have d : decide (u ≤ 16) = false := by simpa using h2
      clear hb; subst hb'
      go_enter Try.func115, Try.ntmps115
      go_wp2
      go_ret
      exact ⟨rfl, rfl⟩
  · have hb' : b = false := by rw [hb]; simp [h1]
    have d : decide (0 ≤ u) = false := by simpa using h1
    clear hb; subst hb'
    go_enter Try.func115, Try.ntmps115
    go_wp2
    go_ret
    exact ⟨rfl, rfl⟩

theorem markOfTip (x : Int) (w : World) (x0 : 0 ≤ x) (hx : x < 18446744073709551616) :
    Calls Try.prog 92 #[.int .u64 x] w fun e w' => e = .returned (ofTipV x) ∧ w = w' := by
  by_cases h : x % 4294967296 ≤ 16
  · have H := hid (show ofTipV x = .tuple #[.int .u32 (x / 4294967296), .int .i64 (x % 4294967296), .bool true] by rw [ofTipV, if_pos h])
    have M := hid (show true = decide (0 ≤ x % 4294967296 ∧ x % 4294967296 ≤ 16) by simp [h]; omega)
    clear h
    go_enter Try.func92, Try.ntmps92
    go_wp2_with fail
    refine (halfLo x _ (by omega) (by omega)).mono ?_
    rintro e w1 ⟨rfl, rfl⟩
    go_wp2_with fail
    refine (markMaker (x % 4294967296) _ true M.out).mono ?_
    rintro e w1 ⟨rfl, rfl⟩
    go_wp2_with fail
    refine (halfHi x _ (by omega) (by omega)).mono ?_
    rintro e w1 ⟨rfl, rfl⟩
    go_wp2_with fail
    go_ret3
    exact ⟨by rw [H.out]; rfl, rfl⟩
  · have H := hid (show ofTipV x = .tuple #[.int .u32 0, .int .i64 0, .bool false] by rw [ofTipV, if_neg h])
    have M := hid (show false = decide (0 ≤ x % 4294967296 ∧ x % 4294967296 ≤ 16) by simp [h])
    clear h
    go_enter Try.func92, Try.ntmps92
    go_wp2_with fail
    refine (halfLo x _ (by omega) (by omega)).mono ?_
    rintro e w1 ⟨rfl, rfl⟩
    go_wp2_with fail
    refine (markMaker (x % 4294967296) _ false M.out).mono ?_
    rintro e w1 ⟨rfl, rfl⟩
    go_wp2_with fail
    go_ret3
    exact ⟨by rw [H.out]; rfl, rfl⟩

theorem refOfTip (x : Int) (w : World) (x0 : 0 ≤ x) (hx : x < 18446744073709551616) :
    Calls Try.prog 104 #[.int .u64 x] w fun e w' => e = .returned (ofTipV x) ∧ w = w' := by
  by_cases h : x % 4294967296 ≤ 16
  · have H := hid (show ofTipV x = .tuple #[.int .u32 (x / 4294967296), .int .i64 (x % 4294967296), .bool true] by rw [ofTipV, if_pos h])
    go_enter Try.func104, Try.ntmps104
    go_wp2_with (first
      | (go_at_call 23; refine (refLo x _ (by omega) (by omega)).mono ?_; rintro e w1 ⟨rfl, rfl⟩)
      | (go_at_call 75; refine (refHi x _ (by omega) (by omega)).mono ?_; rintro e w1 ⟨rfl, rfl⟩))
    go_ret3
    exact ⟨by rw [H.out]; rfl, rfl⟩
  · have H := hid (show ofTipV x = .tuple #[.int .u32 0, .int .i64 0, .bool false] by rw [ofTipV, if_neg h])
    go_enter Try.func104, Try.ntmps104
    go_wp2_with (first
      | (go_at_call 23; refine (refLo x _ (by omega) (by omega)).mono ?_; rintro e w1 ⟨rfl, rfl⟩)
      | (go_at_call 75; refine (refHi x _ (by omega) (by omega)).mono ?_; rintro e w1 ⟨rfl, rfl⟩))
    go_ret3
    exact ⟨by rw [H.out]; rfl, rfl⟩

theorem markEntry (c v : Int) (w : World) (v0 : 0 ≤ v) (v1 : v < 4294967296) :
    Calls Try.prog 50 #[.agg #[.int .i64 c, .int .u32 v]] w fun e w' => e = .returned (entryV c v) ∧ Below w.heap.size w w' := by
  by_cases h1 : 0 ≤ c
  · by_cases h2 : c ≤ 65535
    · have H := hid (show entryV c v = .tuple #[.int .u64 (c * 4294967296 + v), .bool true] by rw [entryV, if_pos ⟨h1, h2⟩])
      go_enter Try.func50, Try.ntmps50
      go_wp2_with fail
      refine (halfJoin c v _ (by omega) (by omega) (by omega) (by omega)).mono ?_
      rintro e w1 ⟨rfl, rfl⟩
      go_wp2_with fail
      go_ret2
      exact ⟨by rw [H.out]; rfl, bel⟩
    · have H := hid (show entryV c v = .tuple #[.int .u64 0, .bool false] by rw [entryV, if_neg (fun h => h2 h.2)])
      go_enter Try.func50, Try.ntmps50
      go_wp2
      go_ret2
      exact ⟨by rw [H.out]; rfl, bel⟩
  · have H := hid (show entryV c v = .tuple #[.int .u64 0, .bool false] by rw [entryV, if_neg (fun h => h1 h.1)])
    go_enter Try.func50, Try.ntmps50
    go_wp2
    go_ret2
    exact ⟨by rw [H.out]; rfl, bel⟩

theorem markOfEntry (x : Int) (w : World) (x0 : 0 ≤ x) (hx : x < 18446744073709551616) :
    Calls Try.prog 87 #[.int .u64 x] w fun e w' => e = .returned (ofEntryV x) ∧ Below w.heap.size w w' := by
  by_cases h : x / 4294967296 ≤ 65535
  · have H := hid (show ofEntryV x = .tuple #[.agg #[.int .i64 (x / 4294967296), .int .u32 (x % 4294967296)], .bool true] by rw [ofEntryV, if_pos h])
    go_enter Try.func87, Try.ntmps87
    go_wp2_with (first
      | (go_at_call 96; refine (halfLo x _ (by omega) (by omega)).mono ?_; rintro e w1 ⟨rfl, rfl⟩)
      | (go_at_call 84; refine (halfHi x _ (by omega) (by omega)).mono ?_; rintro e w1 ⟨rfl, rfl⟩))
    exact bodyPost_ret (v := .tuple #[.agg #[.int .i64 (x / 4294967296), .int .u32 (x % 4294967296)], .bool true]) (by simp [results, Try.results87, go_sem]) rfl ⟨by rw [H.out], bel⟩
  · have H := hid (show ofEntryV x = .tuple #[.agg #[.int .i64 0, .int .u32 0], .bool false] by rw [ofEntryV, if_neg h])
    go_enter Try.func87, Try.ntmps87
    go_wp2_with (first
      | (go_at_call 96; refine (halfLo x _ (by omega) (by omega)).mono ?_; rintro e w1 ⟨rfl, rfl⟩)
      | (go_at_call 84; refine (halfHi x _ (by omega) (by omega)).mono ?_; rintro e w1 ⟨rfl, rfl⟩))
    exact bodyPost_ret (v := .tuple #[.agg #[.int .i64 0, .int .u32 0], .bool false]) (by simp [results, Try.results87, go_sem]) rfl ⟨by rw [H.out], bel⟩

theorem refOfEntry (x : Int) (w : World) (x0 : 0 ≤ x) (hx : x < 18446744073709551616) :
    Calls Try.prog 46 #[.int .u64 x] w fun e w' => e = .returned (ofEntryV x) ∧ Below w.heap.size w w' := by
  by_cases h : x / 4294967296 ≤ 65535
  · have H := hid (show ofEntryV x = .tuple #[.agg #[.int .i64 (x / 4294967296), .int .u32 (x % 4294967296)], .bool true] by rw [ofEntryV, if_pos h])
    go_enter Try.func46, Try.ntmps46
    go_wp2_with (first
      | (go_at_call 23; refine (refLo x _ (by omega) (by omega)).mono ?_; rintro e w1 ⟨rfl, rfl⟩)
      | (go_at_call 75; refine (refHi x _ (by omega) (by omega)).mono ?_; rintro e w1 ⟨rfl, rfl⟩))
    exact bodyPost_ret (v := .tuple #[.agg #[.int .i64 (x / 4294967296), .int .u32 (x % 4294967296)], .bool true]) (by simp [results, Try.results46, go_sem]) rfl ⟨by rw [H.out], bel⟩
  · have H := hid (show ofEntryV x = .tuple #[.agg #[.int .i64 0, .int .u32 0], .bool false] by rw [ofEntryV, if_neg h])
    go_enter Try.func46, Try.ntmps46
    go_wp2_with (first
      | (go_at_call 23; refine (refLo x _ (by omega) (by omega)).mono ?_; rintro e w1 ⟨rfl, rfl⟩)
      | (go_at_call 75; refine (refHi x _ (by omega) (by omega)).mono ?_; rintro e w1 ⟨rfl, rfl⟩))
    exact bodyPost_ret (v := .tuple #[.agg #[.int .i64 0, .int .u32 0], .bool false]) (by simp [results, Try.results46, go_sem]) rfl ⟨by rw [H.out], bel⟩
end Go.Proofs.Ytkkhoiahjmfibaa
