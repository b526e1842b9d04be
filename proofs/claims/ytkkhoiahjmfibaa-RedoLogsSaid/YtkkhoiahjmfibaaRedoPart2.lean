/- The walk of the statement on a change done in part: it answers true. -/
import Derived.Test.YtkkhoiahjmfibaaRedoPart
namespace Go.Proofs.Ytkkhoiahjmfibaa
open Go.RowKit
set_option linter.unusedVariables false
set_option linter.unusedSimpArgs false

theorem redoSettleNone (t p s : Int) (w : World) (a : Option Addr) (len cap : Nat) (ws : List Nat) (hs : Seen .u64 w a len cap ws) (hf : Fit 18446744073709551616 ws) (h : ¬ okW t p s len ∨ settleO t p ws = none) :
    Calls Try.prog 18 #[.agg #[.int .i64 t, .int .i64 p, .int .i64 s], .slice a len cap] w fun e w' => e = .returned (.tuple #[.slice none 0 0, .bool false]) ∧ Below w.heap.size w w' := by
  by_cases ho : okW t p s len
  · refine (redoSettle t p s w a len cap ws hs hf ho).mono fun e w' hh => ?_
    rw [h.resolve_left (fun h => h ho)] at hh
    rcases hh with ⟨_, hh, _⟩ | ⟨_, he, hb⟩
    · cases hh
    · exact ⟨he, hb⟩
  · refine (redoSettleNo t p s w a len cap ws ho).mono fun e w' hh => ?_
    rcases hh with ⟨_, hh, _⟩ | ⟨_, he, hb⟩
    · cases hh
    · exact ⟨he, hb⟩
theorem redoTidyNone (t p s : Int) (w : World) (a : Option Addr) (len cap : Nat) (ws : List Nat) (hs : Seen .u64 w a len cap ws) (hf : Fit 18446744073709551616 ws) (h : ¬ okW t p s len ∨ tidyO t p ws = none) :
    Calls Try.prog 19 #[.agg #[.int .i64 t, .int .i64 p, .int .i64 s], .slice a len cap] w fun e w' => e = .returned (.tuple #[.slice none 0 0, .bool false]) ∧ Below w.heap.size w w' := by
  by_cases ho : okW t p s len
  · refine (redoTidy t p s w a len cap ws hs hf ho).mono fun e w' hh => ?_
    rw [h.resolve_left (fun h => h ho)] at hh
    rcases hh with ⟨_, hh, _⟩ | ⟨_, he, hb⟩
    · cases hh
    · exact ⟨he, hb⟩
  · refine (redoTidyNo t p s w a len cap ws ho).mono fun e w' hh => ?_
    rcases hh with ⟨_, hh, _⟩ | ⟨_, he, hb⟩
    · cases hh
    · exact ⟨he, hb⟩
theorem redoTidySome (t p s : Int) (w : World) (a : Option Addr) (len cap : Nat) (ws r : List Nat) (hs : Seen .u64 w a len cap ws) (hf : Fit 18446744073709551616 ws) (ho : okW t p s len) (hr : tidyO t p ws = some r) :
    Calls Try.prog 19 #[.agg #[.int .i64 t, .int .i64 p, .int .i64 s], .slice a len cap] w fun e w' => ∃ a m cap, e = .returned (.tuple #[.slice a m cap, .bool true]) ∧ Own 46 .u64 w' w.heap.size (.slice a m cap) r ∧ Below w.heap.size w w' :=
  (redoTidy t p s w a len cap ws hs hf ho).mono fun e w' h => by
    rw [hr] at h
    rcases h with ⟨_, h, a, m, c, he, ho, hb⟩ | ⟨h, _⟩
    · cases h; exact ⟨a, m, c, he, ho, hb⟩
    · cases h

/-- A row of Booleans that is seen. -/
def SeenB (w : World) (a : Option Addr) (len cap : Nat) (bs : List Bool) : Prop :=
  bs.length = len ∧ len ≤ cap ∧ cap ≤ maxLen ∧ (len = 0 ∨ ∃ b off, a = some ⟨b, off, none⟩ ∧ ∀ j, j < len → w.cell? ⟨b, off + j, none⟩ = some (.bool (bs[j]?.getD false)))
theorem SeenB.below {w w' : World} {a : Option Addr} {len cap : Nat} {bs : List Bool} (h : SeenB w a len cap bs) (hb : Below w.heap.size w w') : SeenB w' a len cap bs := by
  obtain ⟨h1, h2, h3, h4⟩ := h
  refine ⟨h1, h2, h3, ?_⟩
  rcases h4 with h4 | ⟨b, off, rfl, hc⟩
  · exact .inl h4
  · exact .inr ⟨b, off, rfl, fun j hj => (hb.cell (p := ⟨b, off + j, none⟩) (World.block_lt_of_cell? w _ (hc j hj))).trans (hc j hj)⟩

set_option maxRecDepth 100000 in
theorem redoPartBig (w : World) (t p s : Int) (a c : Option Addr) (len cap n k : Nat) (ws : List Nat) (hs : Seen .u64 w a len cap ws) (hb : 3000 < len) :
    Calls Try.prog 4 #[.agg #[.int .i64 t, .int .i64 p, .int .i64 s], .slice a len cap, .slice c n k] w fun e w' => e = .returned (.bool true) ∧ Below w.heap.size w w' := by
  have h2 := hs.2.1
  have h3 := hs.2.2.1
  go_enter Try.func4, Try.ntmps4
  go_wp2_with fail
  refine (liveRedo _).mono ?_
  rintro e w1 ⟨rfl, hb1⟩
  go_wp2_with fail
  go_ret
  exact ⟨rfl, bel⟩
set_option maxRecDepth 100000 in
theorem redoPartNone (w : World) (t p s : Int) (a c : Option Addr) (len cap n k : Nat) (ws : List Nat) (hs : Seen .u64 w a len cap ws) (hf : Fit 18446744073709551616 ws) (hb : len ≤ 3000) (h1 : RowKit.Hid (¬ okW t p s len ∨ settleO t p ws = none)) (h2 : RowKit.Hid (¬ okW t p s len ∨ tidyO t p ws = none)) :
    Calls Try.prog 4 #[.agg #[.int .i64 t, .int .i64 p, .int .i64 s], .slice a len cap, .slice c n k] w fun e w' => e = .returned (.bool true) ∧ Below w.heap.size w w' := by
  have h2' := hs.2.1
  have h3 := hs.2.2.1
  go_enter Try.func4, Try.ntmps4
  go_wp2_with fail
  refine (redoSettleNone t p s _ a len cap ws (hs.below bel) hf h1.out).mono ?_
  rintro e w1 ⟨rfl, hb1⟩
  have z1 : w.heap.size < w1.heap.size := by have := hb1.size; simp at this; omega
  have hB1 : Below w.heap.size w w1 := bel
  have q0 : w1.cell? ⟨w.heap.size, 0, none⟩ = some (.int .i64 t) := (hb1.cell (p := ⟨w.heap.size, 0, none⟩) (by simp)).trans (cellNew rfl rfl)
  have q1 : w1.cell? ⟨w.heap.size, 1, none⟩ = some (.int .i64 p) := (hb1.cell (p := ⟨w.heap.size, 1, none⟩) (by simp)).trans (cellNew rfl rfl)
  have q2 : w1.cell? ⟨w.heap.size, 2, none⟩ = some (.int .i64 s) := (hb1.cell (p := ⟨w.heap.size, 2, none⟩) (by simp)).trans (cellNew rfl rfl)
  clear hb1
  have hs1 := hs.below hB1
  go_wp2_with fail
  refine (redoTidyNone t p s _ a len cap ws hs1 hf h2.out).mono ?_
  rintro e w2 ⟨rfl, hb2⟩
  have hB2 : Below w.heap.size w w2 := hB1.trans (hb2.mono (by omega))
  clear hb2
  go_wp2_with fail
  refine (liveRedo _).mono ?_
  rintro e w3 ⟨rfl, hb3⟩
  have hB3 : Below w.heap.size w w3 := hB2.trans (hb3.mono hB2.size)
  go_wp2_with fail
  go_ret
  exact ⟨rfl, hB3⟩

set_option maxRecDepth 100000 in
set_option maxHeartbeats 3200000 in
theorem redoPartSome (w : World) (t p s : Int) (a c : Option Addr) (len cap n k N : Nat) (ws vs xs : List Nat) (tu : List Bool) (hs : Seen .u64 w a len cap ws) (hf : Fit 18446744073709551616 ws) (hfx : Fit 18446744073709551616 xs) (hb : len ≤ 3000) (ho : RowKit.Hid (okW t p s len))
    (h1 : RowKit.Hid (settleO t p ws = some vs)) (h2 : RowKit.Hid (tidyO t p ws = some xs)) (hN : RowKit.Hid (cellsC t p s = (N : Int))) (hvl : RowKit.Hid (vs.length = N)) (hxl : RowKit.Hid (xs.length = len)) (hN2 : 16 + N ≤ len) (hN3 : 0 < N) (hc : SeenB w c n k tu)
    (hm1 : RowKit.Hid (∀ j, j ≤ N → settleO t p (mixAt tu xs ws j) = some vs)) (hm2 : RowKit.Hid (∀ j, j ≤ N → tidyO t p (mixAt tu xs ws j) = some xs)) (hmf : RowKit.Hid (∀ j, Fit 18446744073709551616 (mixAt tu xs ws j))) :
    Calls Try.prog 4 #[.agg #[.int .i64 t, .int .i64 p, .int .i64 s], .slice a len cap, .slice c n k] w fun e w' => e = .returned (.bool true) ∧ Below w.heap.size w w' := by
  have h2' := hs.2.1
  have h3 := hs.2.2.1
  have h4 := hc.2.1
  have h5 := hc.2.2.1
  have HS := hid hs
  have HB := hid hc
  have HL := hid hs.1
  have ML := hidAll fun j => (mixAt_length tu xs ws j).trans hs.1
  have MS := hidAll fun j => (show mixAt tu xs ws (j + 1) = if tu[j]?.getD false = true then (mixAt tu xs ws j).set (16 + j) (xs[16 + j]?.getD 0) else mixAt tu xs ws j from rfl)
  have M0 := hid (show mixAt tu xs ws 0 = ws from rfl)
  have PC := hidAll fun w => by have h := refCells t p s w; rw [hN.out] at h; exact h
  clear hs hc
  go_enter Try.func4, Try.ntmps4
  go_wp2_with fail
  refine (redoSettleSome t p s _ a len cap ws vs (HS.out.below bel) hf ho.out h1.out).mono ?_
  rintro e w1 ⟨a1, m1, cap1, rfl, hv1, hb1⟩
  have hm : m1 = N := by obtain ⟨a', c', h⟩ := hv1.anyForm; cases h; exact hvl.out
  subst hm
  have z1 : w.heap.size < w1.heap.size := by have := hb1.size; simp at this; omega
  have hB1 : Below w.heap.size w w1 := bel
  have q0 : w1.cell? ⟨w.heap.size, 0, none⟩ = some (.int .i64 t) := (hb1.cell (p := ⟨w.heap.size, 0, none⟩) (by simp)).trans (cellNew rfl rfl)
  have q1 : w1.cell? ⟨w.heap.size, 1, none⟩ = some (.int .i64 p) := (hb1.cell (p := ⟨w.heap.size, 1, none⟩) (by simp)).trans (cellNew rfl rfl)
  have q2 : w1.cell? ⟨w.heap.size, 2, none⟩ = some (.int .i64 s) := (hb1.cell (p := ⟨w.heap.size, 2, none⟩) (by simp)).trans (cellNew rfl rfl)
  clear hb1
  have hs1 := HS.out.below hB1
  go_wp2_with fail
  refine (redoTidySome t p s _ a len cap ws xs hs1 hf ho.out h2.out).mono ?_
  rintro e w2 ⟨a2, m2, cap2, rfl, hx2, hb2⟩
  have hm : m2 = len := by obtain ⟨a', c', h⟩ := hx2.anyForm; cases h; exact hxl.out
  subst hm
  have hB2 : Below w.heap.size w w2 := hB1.trans (hb2.mono (by omega))
  have z2 : w.heap.size < w2.heap.size := by have := hb2.size; omega
  have q0 := (hb2.cell (p := ⟨w.heap.size, 0, none⟩) z1).trans q0
  have q1 := (hb2.cell (p := ⟨w.heap.size, 1, none⟩) z1).trans q1
  have q2 := (hb2.cell (p := ⟨w.heap.size, 2, none⟩) z1).trans q2
  have hv2 := hv1.kept hb2 (Nat.le_refl _)
  clear hb2 hv1 hs1
  go_wp2_with fail
  refine (PC.out _).mono ?_
  rintro e w3 ⟨rfl, hb3⟩
  have hB3 : Below w.heap.size w w3 := hB2.trans (hb3.mono (by omega))
  have z3 : w.heap.size < w3.heap.size := by have := hb3.size; omega
  have q0 := (hb3.cell (p := ⟨w.heap.size, 0, none⟩) z2).trans q0
  have q1 := (hb3.cell (p := ⟨w.heap.size, 1, none⟩) z2).trans q1
  have q2 := (hb3.cell (p := ⟨w.heap.size, 2, none⟩) z2).trans q2
  have hv3 := hv2.kept hb3 (Nat.le_refl _)
  have hx3 := hx2.kept hb3 (Nat.le_refl _)
  clear hb3 hv2 hx2
  go_wp2_with (at_builtin; refine wpAppend rfl (.tmp 66) (.tmp 67) 24 46 rfl .u64 (.int .u64 0) 8 Try.underlying24 infoU64 rfl _ w3.heap.size _ [] rfl (Own.built _ _ _ _ [] _ 0 (Nat.le_refl _) rfl (by decide) rfl) _ _ _ ws rfl (HS.out.below (hB3.alloc (by omega) _)) (by simp [maxLen]; omega) (by simp; omega) (by simp) ?_; intro v' w4 hown4 hgrow4; have hb4 : Below w3.heap.size w3 w4 := ((Below.refl _ _).alloc (Nat.le_refl _) _).grown hgrow4 (by simp) (by intro k hk; cases hk; exact Nat.le_refl _); rw [List.nil_append] at hown4; obtain ⟨g4, cap4, hg4, hg4a, hg4b, _⟩ := hown4.form (by rw [HL.out]; omega); rw [HL.out] at hg4; subst hg4; have hx4 := hx3.kept hb4 (Nat.le_refl _); have hx3' := hx3; clear hx3 hgrow4; rw [← M0.out] at hown4)
  obtain ⟨g2, c2', hg2, hg2a, hg2b, _⟩ := hx4.form (by rw [hxl.out]; omega)
  rw [hxl.out] at hg2
  cases hg2
  have hBo : Below w3.heap.size w3 w4 := hb4
  have hne : g2 ≠ g4 := by
    obtain ⟨g5, c5, h5, _, h6, _⟩ := hx3'.form (by rw [hxl.out]; omega)
    rw [hxl.out] at h5
    cases h5
    omega
  clear hx3'
  go_loopw [12] (fun i wr => ∃ j : Nat, j ≤ m1 ∧ j ≤ n ∧ i = .int .i64 j ∧ Own 46 .u64 wr w3.heap.size (.slice (some ⟨g4, 0, none⟩) m2 cap4) (mixAt tu xs ws j) ∧ Own 46 .u64 wr w1.heap.size (.slice (some ⟨g2, 0, none⟩) m2 cap2) xs ∧ Below w3.heap.size w3 wr) (fun i _ => m1 - (intOf i).toNat)
  case atStart => exact ⟨0, by omega, by omega, rfl, hown4, hx4, hb4⟩
  case round =>
    clear hown4 hx4 hb4 M0
    obtain ⟨j, hj, hjn, rfl, hO, hX, hB⟩ := hrel
    have ml := hid (ML.out j)
    have hB' := hB
    have zr : w.heap.size < wr.heap.size := by have := hB.size; omega
    have hBw : Below w.heap.size w wr := hB3.trans (hB.mono (by omega))
    have q0 := (hB.cell (p := ⟨w.heap.size, 0, none⟩) z3).trans q0
    have q1 := (hB.cell (p := ⟨w.heap.size, 1, none⟩) z3).trans q1
    have q2 := (hB.cell (p := ⟨w.heap.size, 2, none⟩) z3).trans q2
    by_cases hlt : j < m1
    · by_cases hln : j < n
      · obtain ⟨_, _, _, h6⟩ := HB.out.below hBw
        rcases h6 with h6 | ⟨b0, off, rfl, hcr⟩
        · omega
        have hcb := hcr j hln
        have ms := hid (MS.out j)
        have hcx := hX.cell hxl.out (16 + j) (by omega)
        have hcv := hO.cell ml.out (16 + j) (by omega)
        have hfv := hO.unfrozen ml.out (16 + j)
        clear hcr hB' q0 q1 q2
        generalize tu[j]?.getD false = bj at hcb ms
        generalize xs[16 + j]?.getD 0 = x at hcx ms
        generalize (mixAt tu xs ws j)[16 + j]?.getD 0 = y at hcv
        cases bj
        · go_wp2_with fail
          go_roundw
          case rel => exact ⟨j + 1, by omega, by omega, by go_num, by rw [ms.out]; exact hO, hX, hB⟩
          case measure => simp [intOf]; omega
        · have hO2 := hO.stored ml.out (16 + j) x
          go_wp2_with fail
          go_roundw
          case rel => exact ⟨j + 1, by omega, by omega, by go_num, by rw [ms.out]; exact hO2, hX.otherNe hne _ _, hB.setCell (by show w3.heap.size ≤ g4; omega) _⟩
          case measure => simp [intOf]; omega
      · obtain rfl : j = n := by omega
        obtain ⟨wo, rfl⟩ : ∃ x : World, x = wr := ⟨_, rfl⟩
        have s1 := hid (hm1.out j hj)
        have s2 := hid (hm2.out j hj)
        have hmf' := hid (hmf.out j)
        generalize mixAt tu xs ws j = vs2 at hO ml s1 s2 hmf'
        have hV : Own 25 .u32 wo w.heap.size (.slice a1 m1 cap1) vs := ((hv3.kept hB' (Nat.le_refl _))).rebase (by simp)
        clear hv3 hB'
        go_wp2_with fail
        refine (redoSettleSome t p s _ _ m2 _ vs2 vs hO.seen hmf'.out ho.out s1.out).mono ?_
        rintro e w5 ⟨a5, m5, cap5, rfl, hv5, hb5⟩
        have hO5 := hO.kept hb5 (Nat.le_refl _)
        have hX5 := hX.kept hb5 (Nat.le_refl _)
        have hV5 := hV.kept hb5 (Nat.le_refl _)
        have hB5 : Below w.heap.size w w5 := hBw.trans (hb5.mono (by omega))
        have z5 : w.heap.size < w5.heap.size := by have := hb5.size; omega
        have q0 := (hb5.cell (p := ⟨w.heap.size, 0, none⟩) zr).trans q0
        have q1 := (hb5.cell (p := ⟨w.heap.size, 1, none⟩) zr).trans q1
        have q2 := (hb5.cell (p := ⟨w.heap.size, 2, none⟩) zr).trans q2
        clear hO hX hV hb5
        go_wp2_with fail
        refine (redoTidySome t p s _ _ m2 _ vs2 xs hO5.seen hmf'.out ho.out s2.out).mono ?_
        rintro e w6 ⟨a6, m6, cap6, rfl, hx6, hb6⟩
        have hX6 := hX5.kept hb6 (Nat.le_refl _)
        have hV6 := hV5.kept hb6 (Nat.le_refl _)
        have hv6 := hv5.kept hb6 (Nat.le_refl _)
        have hB6 : Below w.heap.size w w6 := hB5.trans (hb6.mono (by omega))
        have z6 : w.heap.size < w6.heap.size := by have := hb6.size; omega
        clear hO5 hX5 hV5 hv5 hb6
        go_wp2_with fail
        refine (refSameValsB _ _ _ _ _ _ _ vs vs hV6.seen hv6.seen).mono ?_
        rw [beq_self_eq_true]
        rintro e w7 ⟨rfl, hb7⟩
        have hX7 := hX6.kept hb7 (Nat.le_refl _)
        have hx7 := hx6.kept hb7 (Nat.le_refl _)
        have hB7 : Below w.heap.size w w7 := hB6.trans (hb7.mono (by omega))
        have z7 : w.heap.size < w7.heap.size := by have := hb7.size; omega
        clear hX6 hV6 hv6 hb7 hx6
        go_wp2_with fail
        refine (refSameWordsB _ _ _ _ _ _ _ xs xs hX7.seen hx7.seen).mono ?_
        rw [beq_self_eq_true]
        rintro e w8 ⟨rfl, hb8⟩
        have hB8 : Below w.heap.size w w8 := hB7.trans (hb8.mono (by omega))
        clear hX7 hx7 hb8
        go_wp2_with fail
        refine (liveRedo _).mono ?_
        rintro e w9 ⟨rfl, hb9⟩
        have hB9 : Below w.heap.size w w9 := hB8.trans (hb9.mono hB8.size)
        clear hb9
        go_wp2_with fail
        go_ret
        exact ⟨rfl, hB9⟩
    · obtain rfl : j = m1 := by omega
      obtain ⟨wo, rfl⟩ : ∃ x : World, x = wr := ⟨_, rfl⟩
      have s1 := hid (hm1.out j hj)
      have s2 := hid (hm2.out j hj)
      have hmf' := hid (hmf.out j)
      generalize mixAt tu xs ws j = vs2 at hO ml s1 s2 hmf'
      have hV : Own 25 .u32 wo w.heap.size (.slice a1 j cap1) vs := ((hv3.kept hB' (Nat.le_refl _))).rebase (by simp)
      clear hv3 hB'
      go_wp2_with fail
      refine (redoSettleSome t p s _ _ m2 _ vs2 vs hO.seen hmf'.out ho.out s1.out).mono ?_
      rintro e w5 ⟨a5, m5, cap5, rfl, hv5, hb5⟩
      have hO5 := hO.kept hb5 (Nat.le_refl _)
      have hX5 := hX.kept hb5 (Nat.le_refl _)
      have hV5 := hV.kept hb5 (Nat.le_refl _)
      have hB5 : Below w.heap.size w w5 := hBw.trans (hb5.mono (by omega))
      have z5 : w.heap.size < w5.heap.size := by have := hb5.size; omega
      have q0 := (hb5.cell (p := ⟨w.heap.size, 0, none⟩) zr).trans q0
      have q1 := (hb5.cell (p := ⟨w.heap.size, 1, none⟩) zr).trans q1
      have q2 := (hb5.cell (p := ⟨w.heap.size, 2, none⟩) zr).trans q2
      clear hO hX hV hb5
      go_wp2_with fail
      refine (redoTidySome t p s _ _ m2 _ vs2 xs hO5.seen hmf'.out ho.out s2.out).mono ?_
      rintro e w6 ⟨a6, m6, cap6, rfl, hx6, hb6⟩
      have hX6 := hX5.kept hb6 (Nat.le_refl _)
      have hV6 := hV5.kept hb6 (Nat.le_refl _)
      have hv6 := hv5.kept hb6 (Nat.le_refl _)
      have hB6 : Below w.heap.size w w6 := hB5.trans (hb6.mono (by omega))
      have z6 : w.heap.size < w6.heap.size := by have := hb6.size; omega
      clear hO5 hX5 hV5 hv5 hb6
      go_wp2_with fail
      refine (refSameValsB _ _ _ _ _ _ _ vs vs hV6.seen hv6.seen).mono ?_
      rw [beq_self_eq_true]
      rintro e w7 ⟨rfl, hb7⟩
      have hX7 := hX6.kept hb7 (Nat.le_refl _)
      have hx7 := hx6.kept hb7 (Nat.le_refl _)
      have hB7 : Below w.heap.size w w7 := hB6.trans (hb7.mono (by omega))
      have z7 : w.heap.size < w7.heap.size := by have := hb7.size; omega
      clear hX6 hV6 hv6 hb7 hx6
      go_wp2_with fail
      refine (refSameWordsB _ _ _ _ _ _ _ xs xs hX7.seen hx7.seen).mono ?_
      rw [beq_self_eq_true]
      rintro e w8 ⟨rfl, hb8⟩
      have hB8 : Below w.heap.size w w8 := hB7.trans (hb8.mono (by omega))
      clear hX7 hx7 hb8
      go_wp2_with fail
      refine (liveRedo _).mono ?_
      rintro e w9 ⟨rfl, hb9⟩
      have hB9 : Below w.heap.size w w9 := hB8.trans (hb9.mono hB8.size)
      clear hb9
      go_wp2_with fail
      go_ret
      exact ⟨rfl, hB9⟩
end Go.Proofs.Ytkkhoiahjmfibaa
