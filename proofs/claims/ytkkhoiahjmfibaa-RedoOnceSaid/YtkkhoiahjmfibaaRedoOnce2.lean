/- The walk of the statement that what words come to, they are: it answers true. -/
import Derived.Test.YtkkhoiahjmfibaaRedoOnce
import Derived.Test.YtkkhoiahjmfibaaRedoPart2
import Derived.Test.YtkkhoiahjmfibaaPlaceAt
namespace Go.Proofs.Ytkkhoiahjmfibaa
open Go.RowKit
set_option linter.unusedVariables false
set_option linter.unusedSimpArgs false

theorem fieldKind (k a b : Int) (W : World) : (Instr.field 50 (.agg #[.int .i64 k, .int .i64 a, .int .i64 b]) 0).run Try.prog W = .ok (.int .i64 k) W := by kernel_rfl
theorem atKind {t p s : Int} {j len : Nat} {kd a b : Int} (ho : okW t p s len) (hj : j < len) (h : atV t p s j = .agg #[.int .i64 kd, .int .i64 a, .int .i64 b]) :
    (kd = 3 → 16 ≤ j ∧ j < 16 + (cellsN t p).toNat) ∧ (kd ≠ 3 → kd ≠ 5 → (∀ i, i < (cellsN t p).toNat → j ≠ 16 + i) ∧ ∀ u : Nat, (u : Int) ≤ t → j ≠ noteI t p u) := by
  obtain ⟨⟨h1, h2⟩, ⟨h3, h4⟩, h5, h6⟩ := rightC_of ho.1
  have mb := makers_bd ⟨⟨h1, h2⟩, h3, h4⟩
  have hl := ho.2
  have hno : ∀ u : Nat, (u : Int) ≤ t → (noteI t p u : Int) = makersN t p + 120 * u + 16 := fun u _ => by unfold noteI; omega
  rw [atV, if_pos ⟨ho.1, by omega, by omega⟩] at h
  unfold madeV at h
  repeat' split at h
  all_goals simp only [Value.agg.injEq, Array.mk.injEq, List.cons.injEq, Value.int.injEq, true_and, and_true] at h
  all_goals obtain ⟨rfl, _, _⟩ := h
  all_goals refine ⟨fun h => ?_, fun g1 g2 => ⟨fun i hi => ?_, fun u hu => ?_⟩⟩
  all_goals first | omega | (have := hno u hu; omega)

set_option maxRecDepth 100000 in
theorem redoOnceBig (w : World) (t p s : Int) (a : Option Addr) (len cap : Nat) (ws : List Nat) (hs : Seen .u64 w a len cap ws) (hb : 3000 < len) :
    Calls Try.prog 5 #[.agg #[.int .i64 t, .int .i64 p, .int .i64 s], .slice a len cap] w fun e w' => e = .returned (.bool true) ∧ Below w.heap.size w w' := by
  have h2 := hs.2.1
  have h3 := hs.2.2.1
  go_enter Try.func5, Try.ntmps5
  go_wp2_with fail
  refine (liveRedo _).mono ?_
  rintro e w1 ⟨rfl, hb1⟩
  go_wp2_with fail
  go_ret
  exact ⟨rfl, bel⟩
set_option maxRecDepth 100000 in
theorem redoOnceNone (w : World) (t p s : Int) (a : Option Addr) (len cap : Nat) (ws : List Nat) (hs : Seen .u64 w a len cap ws) (hf : Fit 18446744073709551616 ws) (hb : len ≤ 3000) (h1 : RowKit.Hid (¬ okW t p s len ∨ settleO t p ws = none)) (h2 : RowKit.Hid (¬ okW t p s len ∨ tidyO t p ws = none)) :
    Calls Try.prog 5 #[.agg #[.int .i64 t, .int .i64 p, .int .i64 s], .slice a len cap] w fun e w' => e = .returned (.bool true) ∧ Below w.heap.size w w' := by
  have h2' := hs.2.1
  have h3 := hs.2.2.1
  go_enter Try.func5, Try.ntmps5
  go_wp2_with fail
  refine (redoSettleNone t p s _ a len cap ws (hs.below bel) hf h1.out).mono ?_
  rintro e w1 ⟨rfl, hb1⟩
  have z1 : w.heap.size < w1.heap.size := by have := hb1.size; simp at this; omega
  have hB1 : Below w.heap.size w w1 := bel
  have q0 : w1.cell? ⟨w.heap.size, 0, none⟩ = some (.int .i64 t) := (hb1.cell (p := ⟨w.heap.size, 0, none⟩) (by simp)).trans (cellNew rfl rfl)
  have q1 : w1.cell? ⟨w.heap.size, 1, none⟩ = some (.int .i64 p) := (hb1.cell (p := ⟨w.heap.size, 1, none⟩) (by simp)).trans (cellNew rfl rfl)
  have q2 : w1.cell? ⟨w.heap.size, 2, none⟩ = some (.int .i64 s) := (hb1.cell (p := ⟨w.heap.size, 2, none⟩) (by simp)).trans (cellNew rfl rfl)
  clear hb1
  have hs1 := hs.below hB1
  go_wp2_with fail
  refine (redoTidyNone t p s _ a len cap ws hs1 hf h2.out).mono ?_
  rintro e w2 ⟨rfl, hb2⟩
  have hB2 : Below w.heap.size w w2 := hB1.trans (hb2.mono (by omega))
  clear hb2
  go_wp2_with fail
  refine (liveRedo _).mono ?_
  rintro e w3 ⟨rfl, hb3⟩
  have hB3 : Below w.heap.size w w3 := hB2.trans (hb3.mono hB2.size)
  go_wp2_with fail
  go_ret
  exact ⟨rfl, hB3⟩

set_option maxRecDepth 100000 in
set_option maxHeartbeats 3200000 in
theorem redoOnceSome (w : World) (t p s : Int) (a : Option Addr) (len cap N : Nat) (ws vs xs : List Nat) (hs : Seen .u64 w a len cap ws) (hf : Fit 18446744073709551616 ws) (hfx : Fit 18446744073709551616 xs) (hb : len ≤ 3000) (ho : RowKit.Hid (okW t p s len))
    (h1 : RowKit.Hid (settleO t p ws = some vs)) (h2 : RowKit.Hid (tidyO t p ws = some xs)) (hvl : RowKit.Hid (vs.length = N)) (hxl : RowKit.Hid (xs.length = len)) (hN2 : 16 + N ≤ len) (hN3 : 0 < N)
    (s1 : RowKit.Hid (settleO t p xs = some vs)) (s2 : RowKit.Hid (tidyO t p xs = some xs)) (hce : RowKit.Hid (∀ i, i < N → vs[i]?.getD 0 = (xs[16 + i]?.getD 0) % 4294967296))
    (hat : RowKit.Hid (∀ j : Nat, j < len → ∃ kd a b, atV t p s j = .agg #[.int .i64 kd, .int .i64 a, .int .i64 b] ∧ (kd = 3 → 16 ≤ j ∧ j < 16 + N) ∧ (kd ≠ 3 → kd ≠ 5 → xs[j]?.getD 0 = ws[j]?.getD 0))) :
    Calls Try.prog 5 #[.agg #[.int .i64 t, .int .i64 p, .int .i64 s], .slice a len cap] w fun e w' => e = .returned (.bool true) ∧ Below w.heap.size w w' := by
  have h2' := hs.2.1
  have h3 := hs.2.2.1
  have HS := hid hs
  have HL := hid hs.1
  have hq := extCell
  clear hs
  go_enter Try.func5, Try.ntmps5
  go_wp2_with fail
  refine (redoSettleSome t p s _ a len cap ws vs (HS.out.below bel) hf ho.out h1.out).mono ?_
  rintro e w1 ⟨a1, m1, cap1, rfl, hv1, hb1⟩
  have hm : m1 = N := by obtain ⟨a', c', h⟩ := hv1.anyForm; cases h; exact hvl.out
  subst hm
  have z1 : w.heap.size < w1.heap.size := by have := hb1.size; simp at this; omega
  have hB1 : Below w.heap.size w w1 := bel
  have q0 : w1.cell? ⟨w.heap.size, 0, none⟩ = some (.int .i64 t) := (hb1.cell (p := ⟨w.heap.size, 0, none⟩) (by simp)).trans (cellNew rfl rfl)
  have q1 : w1.cell? ⟨w.heap.size, 1, none⟩ = some (.int .i64 p) := (hb1.cell (p := ⟨w.heap.size, 1, none⟩) (by simp)).trans (cellNew rfl rfl)
  have q2 : w1.cell? ⟨w.heap.size, 2, none⟩ = some (.int .i64 s) := (hb1.cell (p := ⟨w.heap.size, 2, none⟩) (by simp)).trans (cellNew rfl rfl)
  clear hb1
  have hs1 := HS.out.below hB1
  go_wp2_with fail
  refine (redoTidySome t p s _ a len cap ws xs hs1 hf ho.out h2.out).mono ?_
  rintro e w2 ⟨a2, m2, cap2, rfl, hx2, hb2⟩
  have hm : m2 = len := by obtain ⟨a', c', h⟩ := hx2.anyForm; cases h; exact hxl.out
  subst hm
  have hB2 : Below w.heap.size w w2 := hB1.trans (hb2.mono (by omega))
  have z2 : w.heap.size < w2.heap.size := by have := hb2.size; omega
  have q0 := (hb2.cell (p := ⟨w.heap.size, 0, none⟩) z1).trans q0
  have q1 := (hb2.cell (p := ⟨w.heap.size, 1, none⟩) z1).trans q1
  have q2 := (hb2.cell (p := ⟨w.heap.size, 2, none⟩) z1).trans q2
  have hv2 := (hv1.kept hb2 (Nat.le_refl _)).rebase (base' := w.heap.size) (by simp)
  clear hb2 hv1 hs1
  obtain ⟨g2, c2', hg2, hg2a, hg2b, _⟩ := hx2.form (by rw [hxl.out]; omega)
  rw [hxl.out] at hg2
  cases hg2
  obtain ⟨g1, c1', hg1, hg1a, hg1b, _⟩ := hv2.form (by rw [hvl.out]; omega)
  rw [hvl.out] at hg1
  cases hg1
  have hx2 := hx2.rebase (base' := w.heap.size) (by omega)
  go_wp2_with fail
  go_loopw [9] (fun i wr => ∃ jn : Nat, jn ≤ m2 ∧ i = .int .i64 jn ∧ Own 46 .u64 wr w.heap.size (.slice (some ⟨g2, 0, none⟩) m2 cap2) xs ∧ Own 25 .u32 wr w.heap.size (.slice (some ⟨g1, 0, none⟩) m1 cap1) vs ∧ Below w2.heap.size w2 wr) (fun i _ => m2 - (intOf i).toNat)
  case atStart => exact ⟨0, by omega, rfl, hx2, hv2, Below.refl _ _⟩
  case round =>
    clear hx2 hv2
    obtain ⟨jn, hj, rfl, hX, hV, hB⟩ := hrel
    have zr : w.heap.size < wr.heap.size := by have := hB.size; omega
    have hBw : Below w.heap.size w wr := hB2.trans (hB.mono (by omega))
    have q0 := (hB.cell (p := ⟨w.heap.size, 0, none⟩) z2).trans q0
    have q1 := (hB.cell (p := ⟨w.heap.size, 1, none⟩) z2).trans q1
    have q2 := (hB.cell (p := ⟨w.heap.size, 2, none⟩) z2).trans q2
    by_cases hlt : jn < m2
    · obtain ⟨kd, ka, kb, hk, hk3, hko⟩ := hat.out jn hlt
      have K := hid hk
      have KO := hid hko
      have FK := fieldKind kd ka kb
      clear hk hko
      go_wp2_with fail
      refine (refAt t p s jn _).mono ?_
      rw [K.out]
      rintro e wA ⟨rfl, hbA⟩
      have hXA := hX.kept hbA (Nat.le_refl _)
      have hVA := hV.kept hbA (Nat.le_refl _)
      have hBA : Below w2.heap.size w2 wA := hB.trans (hbA.mono (by have := hB.size; omega))
      have zA := hbA.size
      have hBwA : Below w.heap.size w wA := hBw.trans (hbA.mono (by omega))
      clear hbA hX hV hB q0 q1 q2
      have hcx := hXA.cell hxl.out jn hlt
      have hxf := hfx.getD (by omega) jn
      have g2A : g2 < wA.heap.size := World.block_lt_of_cell? wA _ hcx
      by_cases h3 : kd = 3
      · subst h3
        obtain ⟨i, hji⟩ : ∃ i, jn = 16 + i := ⟨jn - 16, by have := hk3 rfl; omega⟩
        have hi : i < m1 := by have := hk3 rfl; omega
        have hcv := hVA.cell hvl.out i hi
        have g1A : g1 < wA.heap.size := World.block_lt_of_cell? wA _ hcv
        rw [hce.out i hi, ← hji] at hcv
        have e16 : (jn : Int) - 16 = (i : Int) := by omega
        clear KO hk3 hji
        generalize xs[jn]?.getD 0 = x at hcx hxf hcv
        have ex : ((x % 4294967296 : Nat) : Int) = (x : Int) % 4294967296 := by omega
        rw [ex] at hcv
        go_wp2_with fail
        refine regionBelow (by kernel_rfl) (by kernel_rfl) ?_
        repeat (go_big_quiet_step ((go_at_call 23; exact quietSame (refLo _ _ (by omega) (by omega)))))
        refine wpQuiet_nil ?_
        intro _ hw'
        obtain ⟨nq, hw''⟩ := hw'
        subst hw''
        have hn2 := nq.below
        go_wp2_with fail
        go_roundw
        case rel => exact ⟨jn + 1, by omega, by go_num, hXA.kept hn2 (Nat.le_refl _), hVA.kept hn2 (Nat.le_refl _), hBA.trans (hn2.mono (by have := hBA.size; omega))⟩
        case measure => simp [intOf]; omega
      · by_cases h5 : kd = 5
        · subst h5
          clear KO hk3
          go_wp2_with fail
          refine regionBelow (by kernel_rfl) (by kernel_rfl) ?_
          repeat (go_big_quiet_step ((go_at_call 23; exact quietSame (refLo _ _ (by omega) (by omega)))))
          refine wpQuiet_nil ?_
          intro _ hw'
          obtain ⟨nq, hw''⟩ := hw'
          subst hw''
          have hn2 := nq.below
          go_wp2_with fail
          go_roundw
          case rel => exact ⟨jn + 1, by omega, by go_num, hXA.kept hn2 (Nat.le_refl _), hVA.kept hn2 (Nat.le_refl _), hBA.trans (hn2.mono (by have := hBA.size; omega))⟩
          case measure => simp [intOf]; omega
        · have d3 : (kd == 3) = false := by rw [beq_eq_false_iff_ne]; exact h3
          have d3' : (kd != 3) = true := by rw [bne_iff_ne]; exact h3
          have d5 : (kd == 5) = false := by rw [beq_eq_false_iff_ne]; exact h5
          have d5' : (kd != 5) = true := by rw [bne_iff_ne]; exact h5
          have hsA := HS.out.below hBwA
          obtain ⟨_, _, _, h6⟩ := hsA
          rcases h6 with ⟨h6, _⟩ | ⟨b0, off, rfl, hcr⟩
          · omega
          have hcw := hcr jn hlt
          have b0A : b0 < wA.heap.size := World.block_lt_of_cell? wA _ hcw
          rw [← KO.out h3 h5] at hcw
          clear hcr KO hk3
          generalize xs[jn]?.getD 0 = x at hcx hxf hcw
          have i0 : (0 : Int) ≤ (jn : Int) := by omega
          have i1 : (jn : Int) < (m2 : Int) := by omega
          go_wp2_with fail
          refine regionBelow (by kernel_rfl) (by kernel_rfl) ?_
          repeat (go_big_quiet_step ((go_at_call 23; exact quietSame (refLo _ _ (by omega) (by omega)))))
          refine wpQuiet_nil ?_
          intro _ hw'
          obtain ⟨nq, hw''⟩ := hw'
          subst hw''
          have hn2 := nq.below
          go_wp2_with fail
          go_roundw
          case rel => exact ⟨jn + 1, by omega, by go_num, hXA.kept hn2 (Nat.le_refl _), hVA.kept hn2 (Nat.le_refl _), hBA.trans (hn2.mono (by have := hBA.size; omega))⟩
          case measure => simp [intOf]; omega
    · obtain rfl : jn = m2 := by omega
      obtain ⟨wo, rfl⟩ : ∃ x : World, x = wr := ⟨_, rfl⟩
      go_wp2_with fail
      refine (redoSettleSome t p s _ _ jn _ xs vs hX.seen hfx ho.out s1.out).mono ?_
      rintro e w5 ⟨a5, m5, cap5, rfl, hv5, hb5⟩
      have hX5 := hX.kept hb5 (Nat.le_refl _)
      have hV5 := hV.kept hb5 (Nat.le_refl _)
      have hB5 : Below w.heap.size w w5 := hBw.trans (hb5.mono (by omega))
      have z5 : w.heap.size < w5.heap.size := by have := hb5.size; omega
      have q0 := (hb5.cell (p := ⟨w.heap.size, 0, none⟩) zr).trans q0
      have q1 := (hb5.cell (p := ⟨w.heap.size, 1, none⟩) zr).trans q1
      have q2 := (hb5.cell (p := ⟨w.heap.size, 2, none⟩) zr).trans q2
      clear hX hV hb5
      go_wp2_with fail
      refine (redoTidySome t p s _ _ jn _ xs xs hX5.seen hfx ho.out s2.out).mono ?_
      rintro e w6 ⟨a6, m6, cap6, rfl, hx6, hb6⟩
      have hX6 := hX5.kept hb6 (Nat.le_refl _)
      have hV6 := hV5.kept hb6 (Nat.le_refl _)
      have hv6 := hv5.kept hb6 (Nat.le_refl _)
      have hB6 : Below w.heap.size w w6 := hB5.trans (hb6.mono (by omega))
      have z6 : w.heap.size < w6.heap.size := by have := hb6.size; omega
      clear hX5 hV5 hv5 hb6
      go_wp2_with fail
      refine (refSameValsB _ _ _ _ _ _ _ vs vs hV6.seen hv6.seen).mono ?_
      rw [beq_self_eq_true]
      rintro e w7 ⟨rfl, hb7⟩
      have hX7 := hX6.kept hb7 (Nat.le_refl _)
      have hx7 := hx6.kept hb7 (Nat.le_refl _)
      have hB7 : Below w.heap.size w w7 := hB6.trans (hb7.mono (by omega))
      have z7 : w.heap.size < w7.heap.size := by have := hb7.size; omega
      clear hX6 hV6 hv6 hb7 hx6
      go_wp2_with fail
      refine (refSameWordsB _ _ _ _ _ _ _ xs xs hX7.seen hx7.seen).mono ?_
      rw [beq_self_eq_true]
      rintro e w8 ⟨rfl, hb8⟩
      have hB8 : Below w.heap.size w w8 := hB7.trans (hb8.mono (by omega))
      clear hX7 hx7 hb8
      go_wp2_with fail
      refine (liveRedo _).mono ?_
      rintro e w9 ⟨rfl, hb9⟩
      have hB9 : Below w.heap.size w w9 := hB8.trans (hb9.mono hB8.size)
      clear hb9
      go_wp2_with fail
      go_ret
      exact ⟨rfl, hB9⟩

theorem lawRedoOnce (w : World) (t p s : Int) (a : Option Addr) (len cap : Nat) (ws : List Nat) (t1 : -9223372036854775808 ≤ t) (t2 : t ≤ 9223372036854775807) (p1 : -9223372036854775808 ≤ p) (p2 : p ≤ 9223372036854775807) (s1 : -9223372036854775808 ≤ s) (s2 : s ≤ 9223372036854775807)
    (hs : Seen .u64 w a len cap ws) (hf : Fit 18446744073709551616 ws) :
    Calls Try.prog 5 #[.agg #[.int .i64 t, .int .i64 p, .int .i64 s], .slice a len cap] w fun e w' => e = .returned (.bool true) ∧ Below w.heap.size w w' := by
  by_cases hb : 3000 < len
  · exact redoOnceBig w t p s a len cap ws hs hb
  by_cases ho : okW t p s len
  · rcases settleTidy (t := t) (p := p) (ws := ws) with ⟨h1, h2⟩ | ⟨vs, xs, h1, h2, h3, h4⟩
    · exact redoOnceNone w t p s a len cap ws hs hf (by omega) (hid (.inr h1)) (hid (.inr h2))
    · obtain ⟨⟨h1', h2'⟩, ⟨h3', h4'⟩, h5', h6'⟩ := rightC_of ho.1
      have mb := makers_bd ⟨⟨h1', h2'⟩, h3', h4'⟩
      have hw := ho.2
      have cb : 58 ≤ cellsN t p := by unfold cellsN; omega
      have T := tidied ho hs.1 h2 h1
      refine redoOnceSome w t p s a len cap (cellsN t p).toNat ws vs xs hs hf (tidyO_fit h2 hf) (by omega) (hid ho) (hid h1) (hid h2) (hid h3) (hid (h4.trans hs.1)) (by omega) (by omega) (hid T.settle.1) (hid T.settle.2) (hid fun i hi => T.cell hi) (hid fun j hj => ?_)
      obtain ⟨kd, ka, kb, hk⟩ := atForm t p s j
      obtain ⟨k3, ko⟩ := atKind ho hj hk
      exact ⟨kd, ka, kb, hk, k3, fun g1 g2 => T.rest j (ko g1 g2).1 (ko g1 g2).2⟩
  · exact redoOnceNone w t p s a len cap ws hs hf (by omega) (hid (.inl ho)) (hid (.inl ho))
end Go.Proofs.Ytkkhoiahjmfibaa
