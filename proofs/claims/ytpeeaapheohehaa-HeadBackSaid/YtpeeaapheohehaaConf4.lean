/- The walks of conf.Word and conf.Of. -/
import Derived.Test.YtpeeaapheohehaaConf3
import Derived.Test.YtpeeaapheohehaaPut
namespace Go.Proofs.Ytpeeaapheohehaa
open Go.RowKit
set_option linter.unusedVariables false

theorem put1 (t : Nat) : putN 0 0 16 t = t := by simp [putN]
theorem put2 (t p : Nat) (h : t < 65536) : putN t 16 16 p = t + p * 65536 := by
  show 65536 * (65536 * (t / 4294967296) + p) + t % 65536 = _
  omega
theorem put3 (x s : Nat) (h : x < 4294967296) : putN x 32 16 s = x + s * 4294967296 := by
  show 4294967296 * (65536 * (x / 281474976710656) + s) + x % 4294967296 = _
  omega

set_option maxHeartbeats 1600000 in
theorem confWord (t p s : Int) (w : World) :
    Calls Try.prog 64 #[.agg #[.int .i64 t, .int .i64 p, .int .i64 s]] w fun e w' => e = .returned (wordC t p s) ∧ Below w.heap.size w w' := by
  have hr : ∃ c, rightC t p s = c := ⟨_, rfl⟩
  obtain ⟨c, hr⟩ := hr
  cases c
  · have H := hid (show wordC t p s = .tuple #[.int .u64 0, .bool false] by rw [wordC, hr]; rfl)
    have R := hid (show checkC t p s = 1 by rw [checkC, hr]; rfl)
    clear hr
    go_enter Try.func64, Try.ntmps64
    go_wp2_with (go_at_call 97; refine (confCheck _ _ _ _).mono ?_; rw [R.out]; rintro e w2 ⟨rfl, hb2⟩)
    go_ret2
    exact ⟨by rw [H.out]; rfl, bel⟩
  · have H := hid (show wordC t p s = .tuple #[.int .u64 (t + p * 65536 + s * 4294967296), .bool true] by rw [wordC, hr]; rfl)
    have R := hid (show checkC t p s = 0 by rw [checkC, hr]; rfl)
    obtain ⟨⟨h1, h2⟩, ⟨h3, h4⟩, h5, h6⟩ := rightC_of hr
    clear hr
    obtain ⟨t, rfl⟩ := Int.eq_ofNat_of_zero_le (show 0 ≤ t by omega)
    obtain ⟨p, rfl⟩ := Int.eq_ofNat_of_zero_le (show 0 ≤ p by omega)
    obtain ⟨s, rfl⟩ := Int.eq_ofNat_of_zero_le (show 0 ≤ s by omega)
    go_enter Try.func64, Try.ntmps64
    go_wp2_with (go_at_call 97; refine (confCheck _ _ _ _).mono ?_; rw [R.out]; rintro e w2 ⟨rfl, hb2⟩; obtain ⟨hc2, hf2, hz2⟩ := after hb2; simp at hz2)
    refine (confBounds t p s _).mono ?_
    rintro e w3 ⟨rfl, rfl⟩
    unfold boundCells
    go_wp2_with fail
    refine wp_loop_rounds 4 ?_
    rw [rounds_succ]
    go_wp2_with fail
    refine (halfPut 0 0 16 t _ (by omega) (by omega) (by omega) (by omega)).mono ?_
    rw [put1]
    rintro e w4 ⟨rfl, n4, rfl⟩
    go_wp2_with fail
    rw [rounds_succ]
    go_wp2_with fail
    refine (halfPut t 16 16 p _ (by omega) (by omega) (by omega) (by omega)).mono ?_
    rw [put2 t p (by omega)]
    rintro e w5 ⟨rfl, n5, rfl⟩
    go_wp2_with fail
    rw [rounds_succ]
    go_wp2_with fail
    refine (halfPut (t + p * 65536) 32 16 s _ (by omega) (by omega) (by omega) (by omega)).mono ?_
    rw [put3 _ s (by omega)]
    rintro e w6 ⟨rfl, n6, rfl⟩
    go_wp2_with fail
    rw [rounds_succ]
    go_wp2_with fail
    go_ret2
    exact ⟨by rw [H.out]; rfl, bel⟩

theorem confField (x : Nat) (k : Nat) (b : Nat) (w : World) (hx : x < 18446744073709551616) (hk : k ≤ 2) (hc : w.cell? ⟨b, 0, none⟩ = some (.int .u64 x)) :
    Calls Try.prog 109 #[.int .i64 k, .pointer (some ⟨b, 0, none⟩)] w fun e w' => e = .returned (.int .i64 ((x / 2 ^ (16 * k) % 2 ^ 16 : Nat) : Int)) ∧ ∃ n, w' = w.drewN n := by
  have hlt : x / 2 ^ (16 * k) % 2 ^ 16 < 65536 := Nat.mod_lt _ (by decide)
  go_enter Try.func109, Try.ntmps109
  go_wp2_with fail
  rw [show (16 * (k : Int)) = ((16 * k : Nat) : Int) from by omega]
  refine (halfGet x (16 * k) 16 _ hx (by omega) (by omega)).mono ?_
  rintro e w1 ⟨rfl, n, rfl⟩
  go_wp2
  go_ret
  exact ⟨rfl, _, rfl⟩

theorem field0 (x b : Nat) (w : World) (hx : x < 18446744073709551616) (hc : w.cell? ⟨b, 0, none⟩ = some (.int .u64 x)) :
    Calls Try.prog 109 #[.int .i64 0, .pointer (some ⟨b, 0, none⟩)] w fun e w' => e = .returned (.int .i64 ((x % 65536 : Nat) : Int)) ∧ ∃ n, w' = w.drewN n := by
  have h := confField x 0 b w hx (by omega) hc
  rw [show x / 2 ^ (16 * 0) % 2 ^ 16 = x % 65536 from by simp] at h
  exact h
theorem field1 (x b : Nat) (w : World) (hx : x < 18446744073709551616) (hc : w.cell? ⟨b, 0, none⟩ = some (.int .u64 x)) :
    Calls Try.prog 109 #[.int .i64 1, .pointer (some ⟨b, 0, none⟩)] w fun e w' => e = .returned (.int .i64 ((x / 65536 % 65536 : Nat) : Int)) ∧ ∃ n, w' = w.drewN n := by
  exact confField x 1 b w hx (by omega) hc
theorem field2 (x b : Nat) (w : World) (hx : x < 18446744073709551616) (hc : w.cell? ⟨b, 0, none⟩ = some (.int .u64 x)) :
    Calls Try.prog 109 #[.int .i64 2, .pointer (some ⟨b, 0, none⟩)] w fun e w' => e = .returned (.int .i64 ((x / 4294967296 % 65536 : Nat) : Int)) ∧ ∃ n, w' = w.drewN n := by
  exact confField x 2 b w hx (by omega) hc

theorem ofC_yes (x : Nat) (h1 : rightC ((x : Int) % 65536) ((x : Int) / 65536 % 65536) ((x : Int) / 4294967296 % 65536) = true) (h2 : x / 281474976710656 = 0) :
    ofC x = .tuple #[.agg #[.int .i64 ((x : Int) % 65536), .int .i64 ((x : Int) / 65536 % 65536), .int .i64 ((x : Int) / 4294967296 % 65536)], .bool true] := by
  have e : ((x : Int) / 4294967296 % 65536) = (x : Int) / 4294967296 := by omega
  rw [e] at h1 ⊢
  obtain ⟨_, _, h3, h4⟩ := rightC_of h1
  rw [ofC, if_pos ⟨by omega, h1⟩]
theorem ofC_no (x : Nat) (h : rightC ((x : Int) % 65536) ((x : Int) / 65536 % 65536) ((x : Int) / 4294967296 % 65536) = false ∨ x / 281474976710656 ≠ 0) :
    ofC x = .tuple #[.agg #[.int .i64 0, .int .i64 0, .int .i64 0], .bool false] := by
  rw [ofC, if_neg]
  rintro ⟨h1, h2⟩
  have e : ((x : Int) / 4294967296 % 65536) = (x : Int) / 4294967296 := by omega
  rw [e] at h
  rcases h with h | h
  · rw [h] at h2
    cases h2
  · omega

set_option maxHeartbeats 1600000 in
theorem confOf (x : Nat) (w : World) (h1 : x < 18446744073709551616) :
    Calls Try.prog 94 #[.int .u64 x] w fun e w' => e = .returned (ofC x) ∧ Below w.heap.size w w' := by
  have hr : ∃ c, rightC ((x : Int) % 65536) ((x : Int) / 65536 % 65536) ((x : Int) / 4294967296 % 65536) = c := ⟨_, rfl⟩
  obtain ⟨c, hr⟩ := hr
  have hq : x / 281474976710656 = 0 ∨ x / 281474976710656 ≠ 0 := by omega
  cases c
  · have H := hid (ofC_no x (.inl hr))
    have R := hid (show checkC ((x : Int) % 65536) ((x : Int) / 65536 % 65536) ((x : Int) / 4294967296 % 65536) = 1 by rw [checkC, hr]; rfl)
    clear hr hq
    go_enter Try.func94, Try.ntmps94
    go_wp2_with fail
    refine (field0 x _ _ h1 (by exact cellOld (by simp) (cellNew rfl rfl))).mono ?_
    rintro e w2 ⟨rfl, n2, rfl⟩
    go_wp2_with fail
    refine (field1 x _ _ h1 (by exact cellOld (by simp) (cellNew rfl rfl))).mono ?_
    rintro e w3 ⟨rfl, n3, rfl⟩
    go_wp2_with fail
    refine (field2 x _ _ h1 (by exact cellOld (by simp) (cellNew rfl rfl))).mono ?_
    rintro e w4 ⟨rfl, n4, rfl⟩
    go_wp2_with fail
    refine (confCheck _ _ _ _).mono ?_
    rw [R.out]
    rintro e w5 ⟨rfl, hb5⟩
    obtain ⟨hc5, hf5, hz5⟩ := after hb5
    simp at hz5
    have k0 : w5.cell? ⟨w.heap.size, 0, none⟩ = some (.int .u64 x) := by rw [hc5 _ _ (by simp; omega)]; exact cellOld (by simp; omega) (cellOld (by simp) (cellNew rfl rfl))
    have k1 : w5.cell? ⟨w.heap.size + 1, 0, none⟩ = some (.int .i64 0) := by rw [hc5 _ _ (by simp)]; exact cellOld (by simp) (cellNew (by simp) rfl)
    have k2 : w5.cell? ⟨w.heap.size + 1, 1, none⟩ = some (.int .i64 0) := by rw [hc5 _ _ (by simp)]; exact cellOld (by simp) (cellNew (by simp) rfl)
    have k3 : w5.cell? ⟨w.heap.size + 1, 2, none⟩ = some (.int .i64 0) := by rw [hc5 _ _ (by simp)]; exact cellOld (by simp) (cellNew (by simp) rfl)
    have k4 : w5.cell? ⟨w.heap.size + 1 + 1, 0, none⟩ = some (.int .i64 ((x : Int) % 65536)) := by rw [hc5 _ _ (by simp)]; exact cellNew (by simp) rfl
    have k5 : w5.cell? ⟨w.heap.size + 1 + 1, 1, none⟩ = some (.int .i64 ((x : Int) / 65536 % 65536)) := by rw [hc5 _ _ (by simp)]; exact cellNew (by simp) rfl
    have k6 : w5.cell? ⟨w.heap.size + 1 + 1, 2, none⟩ = some (.int .i64 ((x : Int) / 4294967296 % 65536)) := by rw [hc5 _ _ (by simp)]; exact cellNew (by simp) rfl
    clear hc5
    go_wp2_with fail
    exact bodyPost_ret (v := .tuple #[.agg #[.int .i64 0, .int .i64 0, .int .i64 0], .bool false]) (by simp [results, Try.results94, go_sem, k1, k2, k3]) rfl ⟨by rw [H.out], bel⟩
  rcases hq with hq | hq
  · have H := hid (ofC_yes x hr hq)
    have R := hid (show checkC ((x : Int) % 65536) ((x : Int) / 65536 % 65536) ((x : Int) / 4294967296 % 65536) = 0 by rw [checkC, hr]; rfl)
    have d : ((x : Int) / 281474976710656 != 0) = false := by rw [bne_eq_false_iff_eq]; omega
    clear hr
    go_enter Try.func94, Try.ntmps94
    go_wp2_with fail
    refine (field0 x _ _ h1 (by exact cellOld (by simp) (cellNew rfl rfl))).mono ?_
    rintro e w2 ⟨rfl, n2, rfl⟩
    go_wp2_with fail
    refine (field1 x _ _ h1 (by exact cellOld (by simp) (cellNew rfl rfl))).mono ?_
    rintro e w3 ⟨rfl, n3, rfl⟩
    go_wp2_with fail
    refine (field2 x _ _ h1 (by exact cellOld (by simp) (cellNew rfl rfl))).mono ?_
    rintro e w4 ⟨rfl, n4, rfl⟩
    go_wp2_with fail
    refine (confCheck _ _ _ _).mono ?_
    rw [R.out]
    rintro e w5 ⟨rfl, hb5⟩
    obtain ⟨hc5, hf5, hz5⟩ := after hb5
    simp at hz5
    have k0 : w5.cell? ⟨w.heap.size, 0, none⟩ = some (.int .u64 x) := by rw [hc5 _ _ (by simp; omega)]; exact cellOld (by simp; omega) (cellOld (by simp) (cellNew rfl rfl))
    have k1 : w5.cell? ⟨w.heap.size + 1, 0, none⟩ = some (.int .i64 0) := by rw [hc5 _ _ (by simp)]; exact cellOld (by simp) (cellNew (by simp) rfl)
    have k2 : w5.cell? ⟨w.heap.size + 1, 1, none⟩ = some (.int .i64 0) := by rw [hc5 _ _ (by simp)]; exact cellOld (by simp) (cellNew (by simp) rfl)
    have k3 : w5.cell? ⟨w.heap.size + 1, 2, none⟩ = some (.int .i64 0) := by rw [hc5 _ _ (by simp)]; exact cellOld (by simp) (cellNew (by simp) rfl)
    have k4 : w5.cell? ⟨w.heap.size + 1 + 1, 0, none⟩ = some (.int .i64 ((x : Int) % 65536)) := by rw [hc5 _ _ (by simp)]; exact cellNew (by simp) rfl
    have k5 : w5.cell? ⟨w.heap.size + 1 + 1, 1, none⟩ = some (.int .i64 ((x : Int) / 65536 % 65536)) := by rw [hc5 _ _ (by simp)]; exact cellNew (by simp) rfl
    have k6 : w5.cell? ⟨w.heap.size + 1 + 1, 2, none⟩ = some (.int .i64 ((x : Int) / 4294967296 % 65536)) := by rw [hc5 _ _ (by simp)]; exact cellNew (by simp) rfl
    clear hc5
    go_wp2_with fail
    exact bodyPost_ret (v := .tuple #[.agg #[.int .i64 ((x : Int) % 65536), .int .i64 ((x : Int) / 65536 % 65536), .int .i64 ((x : Int) / 4294967296 % 65536)], .bool true]) (by simp [results, Try.results94, go_sem, k1, k2, k3]) rfl ⟨by rw [H.out], bel⟩
  · have H := hid (ofC_no x (.inr hq))
    have R := hid (show checkC ((x : Int) % 65536) ((x : Int) / 65536 % 65536) ((x : Int) / 4294967296 % 65536) = 0 by rw [checkC, hr]; rfl)
    have d : ((x : Int) / 281474976710656 != 0) = true := by rw [bne_iff_ne]; omega
    clear hr
    go_enter Try.func94, Try.ntmps94
    go_wp2_with fail
    refine (field0 x _ _ h1 (by exact cellOld (by simp) (cellNew rfl rfl))).mono ?_
    rintro e w2 ⟨rfl, n2, rfl⟩
    go_wp2_with fail
    refine (field1 x _ _ h1 (by exact cellOld (by simp) (cellNew rfl rfl))).mono ?_
    rintro e w3 ⟨rfl, n3, rfl⟩
    go_wp2_with fail
    refine (field2 x _ _ h1 (by exact cellOld (by simp) (cellNew rfl rfl))).mono ?_
    rintro e w4 ⟨rfl, n4, rfl⟩
    go_wp2_with fail
    refine (confCheck _ _ _ _).mono ?_
    rw [R.out]
    rintro e w5 ⟨rfl, hb5⟩
    obtain ⟨hc5, hf5, hz5⟩ := after hb5
    simp at hz5
    have k0 : w5.cell? ⟨w.heap.size, 0, none⟩ = some (.int .u64 x) := by rw [hc5 _ _ (by simp; omega)]; exact cellOld (by simp; omega) (cellOld (by simp) (cellNew rfl rfl))
    have k1 : w5.cell? ⟨w.heap.size + 1, 0, none⟩ = some (.int .i64 0) := by rw [hc5 _ _ (by simp)]; exact cellOld (by simp) (cellNew (by simp) rfl)
    have k2 : w5.cell? ⟨w.heap.size + 1, 1, none⟩ = some (.int .i64 0) := by rw [hc5 _ _ (by simp)]; exact cellOld (by simp) (cellNew (by simp) rfl)
    have k3 : w5.cell? ⟨w.heap.size + 1, 2, none⟩ = some (.int .i64 0) := by rw [hc5 _ _ (by simp)]; exact cellOld (by simp) (cellNew (by simp) rfl)
    have k4 : w5.cell? ⟨w.heap.size + 1 + 1, 0, none⟩ = some (.int .i64 ((x : Int) % 65536)) := by rw [hc5 _ _ (by simp)]; exact cellNew (by simp) rfl
    have k5 : w5.cell? ⟨w.heap.size + 1 + 1, 1, none⟩ = some (.int .i64 ((x : Int) / 65536 % 65536)) := by rw [hc5 _ _ (by simp)]; exact cellNew (by simp) rfl
    have k6 : w5.cell? ⟨w.heap.size + 1 + 1, 2, none⟩ = some (.int .i64 ((x : Int) / 4294967296 % 65536)) := by rw [hc5 _ _ (by simp)]; exact cellNew (by simp) rfl
    clear hc5
    go_wp2_with fail
    exact bodyPost_ret (v := .tuple #[.agg #[.int .i64 0, .int .i64 0, .int .i64 0], .bool false]) (by simp [results, Try.results94, go_sem, k1, k2, k3]) rfl ⟨by rw [H.out], bel⟩
end Go.Proofs.Ytpeeaapheohehaa
