/- The walk of the reference's fresh heap's words, at one configuration. -/
import Derived.Test.YtkkhoiahjmfibaaFresh
namespace Go.Proofs.Ytkkhoiahjmfibaa
open Go.RowKit
set_option linter.unusedVariables false
set_option linter.unusedSimpArgs false

/-- Words with others laid from a place on. -/
def fillAt (ys : List Nat) (off : Nat) (xs : List Nat) : Nat → List Nat
  | 0 => ys
  | k + 1 => (fillAt ys off xs k).set (off + k) (xs[k]?.getD 0)
theorem fillAt_length (ys : List Nat) (off : Nat) (xs : List Nat) (k : Nat) : (fillAt ys off xs k).length = ys.length := by
  induction k with
  | zero => rfl
  | succ k ih => rw [fillAt, List.length_set, ih]
theorem fillAt_succ (ys : List Nat) (off : Nat) (xs : List Nat) (k : Nat) : fillAt ys off xs (k + 1) = (fillAt ys off xs k).set (off + k) (xs[k]?.getD 0) := rfl
def freshOf (hs : List Nat) : List Nat := fillAt ((fillAt (List.replicate 344 0) 0 hs 8).set 8 4294967296) 16 freshV 82
def freshW : List Nat := freshOf (headN 1 8 10)
theorem freshOf_length (hs : List Nat) : (freshOf hs).length = 344 := by
  unfold freshOf
  rw [fillAt_length, List.length_set, fillAt_length, List.length_replicate]

set_option maxRecDepth 100000 in
set_option maxHeartbeats 3200000 in
theorem freshWordsOf (w : World) (ws vs : List Nat) (F : RowKit.Hid (ws = fillAt ((fillAt (List.replicate 344 0) 0 (headN 1 8 10) 8).set 8 4294967296) 16 vs 82)) (FV : RowKit.Hid (vs = freshV)) : Calls Try.prog 35 #[.agg #[.int .i64 1, .int .i64 8, .int .i64 10]] w (RowPost 46 .u64 344 w ws) := by
  have N := hid (show wordsC 1 8 10 = 344 by decide)
  have hl8 := hid (headN_length 1 8 10)
  go_enter Try.func35, Try.ntmps35
  go_wp2_with fail
  refine (refWords 1 8 10 _).mono ?_
  rw [N.out]
  rintro e w1 ⟨rfl, hb1⟩
  obtain ⟨hc1, hf1, hz1⟩ := after hb1
  have z1 : w.heap.size < w1.heap.size := by simp at hz1; omega
  have c0 : w1.cell? ⟨w.heap.size, 0, none⟩ = some (.int .i64 1) := by rw [hc1 _ _ (by simp)]; exact cellNew rfl rfl
  have c1 : w1.cell? ⟨w.heap.size, 1, none⟩ = some (.int .i64 8) := by rw [hc1 _ _ (by simp)]; exact cellNew rfl rfl
  have c2 : w1.cell? ⟨w.heap.size, 2, none⟩ = some (.int .i64 10) := by rw [hc1 _ _ (by simp)]; exact cellNew rfl rfl
  have hB1 : Below w.heap.size w w1 := bel
  clear hc1 hf1
  go_wp2_with (refine wpMake rfl _ _ 24 46 rfl .u64 8 Try.underlying24 infoU64 _ (w.heap.size + 1) 344 rfl rfl (by decide) (by decide) (by omega) ?_; intro w2 hown2 hgrow2; have hb2 : Below w1.heap.size w1 w2 := (Below.refl _ _).grown hgrow2 (Nat.le_refl _) (by intro k hk; cases hk); obtain ⟨hc2, hf2, hz2⟩ := after hb2; have d0 := (hc2 _ _ z1).trans c0; have d1 := (hc2 _ _ z1).trans c1; have d2 := (hc2 _ _ z1).trans c2; have z2 : w.heap.size < w2.heap.size := (by omega); clear hc2 hf2)
  have zg : w1.heap.size < w2.heap.size := World.block_lt_of_cell? w2 _ (hown2.cell rfl 0 (by omega))
  refine (refEncYes 1 8 10 _ rc18).mono ?_
  rintro e w3 ⟨g3, cap3, rfl, hg3, hgs3, hown3, hb3⟩
  have o3 : Own 46 .u64 w3 (w.heap.size + 1) (.slice (some ⟨w1.heap.size, 0, none⟩) 344 344) (List.replicate 344 0) := hown2.kept hb3 (Nat.le_refl _)
  have hB3 : Below w1.heap.size w1 w3 := hb2.trans (hb3.mono (by omega))
  generalize headN 1 8 10 = hs at *
  have hz := hid (show (List.replicate 344 0).length = 344 from List.length_replicate)
  generalize List.replicate 344 0 = zs at *
  have hne : g3 ≠ w1.heap.size := by omega
  go_wp2_with fail
  go_loopw [5] (fun i wr => ∃ k : Nat, k ≤ 8 ∧ i = .int .i64 k ∧ Own 46 .u64 wr (w.heap.size + 1) (.slice (some ⟨w1.heap.size, 0, none⟩) 344 344) (fillAt zs 0 hs k) ∧ Own 46 .u64 wr w2.heap.size (.slice (some ⟨g3, 0, none⟩) 8 cap3) hs ∧ Below w1.heap.size w1 wr) (fun i _ => 8 - (intOf i).toNat)
  case atStart => exact ⟨0, by omega, rfl, o3, hown3, hB3⟩
  case round =>
    clear o3 hown3 hB3 hgs3 hb3
    obtain ⟨k, hk, rfl, ho, hh, hB⟩ := hrel
    have L := hid (show (fillAt zs 0 hs k).length = 344 by rw [fillAt_length, hz.out])
    have S := hid (fillAt_succ zs 0 hs k)
    by_cases hlt : k < 8
    · have hc := hh.cell hl8.out k hlt
      have hd := ho.cell L.out k (by omega)
      have hfz := ho.unfrozen L.out k
      generalize hs[k]?.getD 0 = x at hc S
      generalize (fillAt zs 0 hs k)[k]?.getD 0 = y at hd
      go_wp2_with fail
      go_roundw
      case rel =>
        refine ⟨k + 1, by omega, by go_num, ?_, ?_, hB.setCell (Nat.le_refl _) _⟩
        · rw [S.out, Nat.zero_add]
          exact ho.stored L.out k x
        · exact hh.other (by omega) _ _
      case measure => simp [intOf]; omega
    · obtain rfl : k = 8 := by omega
      obtain ⟨wo, rfl⟩ : ∃ wo : World, wo = wr := ⟨_, rfl⟩
      clear hh hne hg3 hlt hk S
      generalize hys : fillAt zs 0 hs 8 = ys at ho L F
      clear hys
      have e0 : wo.cell? ⟨w.heap.size, 0, none⟩ = some (.int .i64 1) := (hB.cell (p := ⟨w.heap.size, 0, none⟩) z1).trans c0
      have e1 : wo.cell? ⟨w.heap.size, 1, none⟩ = some (.int .i64 8) := (hB.cell (p := ⟨w.heap.size, 1, none⟩) z1).trans c1
      have e2 : wo.cell? ⟨w.heap.size, 2, none⟩ = some (.int .i64 10) := (hB.cell (p := ⟨w.heap.size, 2, none⟩) z1).trans c2
      have u8 := ho.cell L.out 8 (by omega)
      have f8 := ho.unfrozen L.out 8
      generalize ys[8]?.getD 0 = y8 at u8
      have zr : w1.heap.size < wo.heap.size := World.block_lt_of_cell? wo _ u8
      go_wp2_with fail
      refine (refJoin 1 0 _ (by omega) (by omega) (by omega) (by omega)).mono ?_
      rintro e w' ⟨rfl, rfl⟩
      have o4 : Own 46 .u64 (wo.setCell ⟨w1.heap.size, 8, none⟩ (.int .u64 4294967296)) (w.heap.size + 1) (.slice (some ⟨w1.heap.size, 0, none⟩) 344 344) (ys.set 8 4294967296) := ho.stored L.out 8 4294967296
      have hB4 : Below w1.heap.size w1 (wo.setCell ⟨w1.heap.size, 8, none⟩ (.int .u64 4294967296)) := hB.setCell (Nat.le_refl _) _
      have L4 := hid (show (ys.set 8 4294967296).length = 344 by rw [List.length_set]; exact L.out)
      generalize ys.set 8 4294967296 = zs4 at o4 L4 F
      go_wp2_with fail
      refine (freshVals _).mono ?_
      rintro e w5 ⟨g5, cap5, rfl, hg5, hgs5, hown5, hb5⟩
      rw [← FV.out] at hown5
      have LV := hid (show vs.length = 82 by rw [FV.out]; rfl)
      have FF := hid (show Fit 4294967296 vs by rw [FV.out]; exact (by decide : ∀ x ∈ freshV, x < 4294967296))
      have o5 := o4.kept hb5 (Nat.le_refl _)
      have hB5 : Below w1.heap.size w1 w5 := hB4.trans (hb5.mono (by simp; omega))
      simp only [World.size_setCell] at hg5
      have hne5 : w1.heap.size < wo.heap.size := zr
      have h5 : Own 25 .u32 w5 wo.heap.size (.slice (some ⟨g5, 0, none⟩) 82 cap5) vs := by simpa using hown5
      clear hown5 hgs5 hg5 o4 hB4 ho hB e0 e1 e2 u8 f8 hb5
      go_wp2_with fail
      go_loopw [7] (fun i wr => ∃ k : Nat, k ≤ 82 ∧ i = .int .i64 k ∧ Own 46 .u64 wr (w.heap.size + 1) (.slice (some ⟨w1.heap.size, 0, none⟩) 344 344) (fillAt zs4 16 vs k) ∧ Own 25 .u32 wr wo.heap.size (.slice (some ⟨g5, 0, none⟩) 82 cap5) vs ∧ Below w1.heap.size w1 wr) (fun i _ => 82 - (intOf i).toNat)
      case atStart => exact ⟨0, by omega, rfl, o5, h5, hB5⟩
      case round =>
        clear o5 h5 hB5
        obtain ⟨k, hk, rfl, ho, hh, hB⟩ := hrel
        have L5 := hid (show (fillAt zs4 16 vs k).length = 344 by rw [fillAt_length, L4.out])
        have S := hid (fillAt_succ zs4 16 vs k)
        by_cases hlt : k < 82
        · have hc := hh.cell LV.out k hlt
          have hx := FF.out.getD (by omega) k
          have hd := ho.cell L5.out (16 + k) (by omega)
          have hfz := ho.unfrozen L5.out (16 + k)
          generalize vs[k]?.getD 0 = x at hc S hx
          generalize (fillAt zs4 16 vs k)[16 + k]?.getD 0 = y at hd
          go_wp2_with fail
          go_roundw
          case rel =>
            refine ⟨k + 1, by omega, by go_num, ?_, ?_, hB.setCell (Nat.le_refl _) _⟩
            · rw [S.out]
              exact ho.stored L5.out (16 + k) x
            · exact hh.other (by omega) _ _
          case measure => simp [intOf]; omega
        · obtain rfl : k = 82 := by omega
          have hsz := hB.size
          have zq : w1.heap.size < wr.heap.size := World.block_lt_of_cell? wr _ (ho.cell L5.out 0 (by omega))
          rw [← F.out] at ho
          go_wp2_with fail
          go_ret
          exact ⟨w1.heap.size, 344, rfl, by omega, zq, ho.rebase (by omega), hB1.trans (hB.mono (by omega))⟩

theorem freshWords (w : World) : Calls Try.prog 35 #[.agg #[.int .i64 1, .int .i64 8, .int .i64 10]] w (RowPost 46 .u64 344 w freshW) :=
  freshWordsOf w freshW freshV (hid rfl) (hid rfl)
end Go.Proofs.Ytkkhoiahjmfibaa
