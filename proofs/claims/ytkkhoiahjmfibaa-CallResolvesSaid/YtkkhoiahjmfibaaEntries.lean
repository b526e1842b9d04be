/- The walk of package redo's entries. -/
import Derived.Test.YtkkhoiahjmfibaaPairs
import Derived.Test.YtkkhoiahjmfibaaRedo
namespace Go.Proofs.Ytkkhoiahjmfibaa
open Go.RowKit
set_option linter.unusedVariables false
set_option linter.unusedSimpArgs false

/-- Is every word an entry of a cell that there is? -/
def entsB (t p : Int) (xs : List Nat) : Bool := xs.all fun x => decide ((x : Int) / 4294967296 < cellsN t p)
theorem entsB_take {t p : Int} {xs : List Nat} {k : Nat} (h : k < xs.length) : entsB t p (xs.take (k + 1)) = (entsB t p (xs.take k) && decide (((xs[k]?.getD 0 : Nat) : Int) / 4294967296 < cellsN t p)) := by
  rw [entsB, entsB, List.take_succ_eq_append_getElem h, List.all_append, List.getElem?_eq_getElem h]
  simp only [List.all_cons, List.all_nil, Bool.and_true, Option.getD_some]
theorem entsB_no {t p : Int} {xs : List Nat} {k : Nat} (h : k < xs.length) (hk : ¬ ((xs[k]?.getD 0 : Nat) : Int) / 4294967296 < cellsN t p) : entsB t p xs = false := by
  rw [List.getElem?_eq_getElem h] at hk
  rw [entsB, List.all_eq_false]
  exact ⟨xs[k], List.getElem_mem h, by simpa using hk⟩
/-- What entries answer. -/
def EntsPost (w : World) (t p : Int) (xs : List Nat) (e : Ending) (w' : World) : Prop :=
  (entsB t p xs = true ∧ ∃ v, e = .returned (.tuple #[v, .bool true]) ∧ OwnP w' w.heap.size v xs ∧ Below w.heap.size w w') ∨ (entsB t p xs = false ∧ e = .returned (.tuple #[.slice none 0 0, .bool false]) ∧ Below w.heap.size w w')

set_option maxRecDepth 100000 in
set_option maxHeartbeats 3200000 in
theorem redoEntries (t p s : Int) (w : World) (a : Option Addr) (len cap : Nat) (xs : List Nat) (hr : rightC t p s = true) (hs : Seen .u64 w a len cap xs) (hf : Fit 18446744073709551616 xs) (hl : len ≤ 96) :
    Calls Try.prog 42 #[.agg #[.int .i64 t, .int .i64 p, .int .i64 s], .slice a len cap] w (EntsPost w t p xs) := by
  have C := hid (show cellsC t p s = cellsN t p by rw [cellsC, hr]; rfl)
  obtain ⟨⟨h1, h2⟩, ⟨h3, h4⟩, h5, h6⟩ := rightC_of hr
  have cb : 58 ≤ cellsN t p ∧ cellsN t p ≤ 6238 := by unfold cellsN; omega
  have PC := hidAll fun w => by have h := placeCells t p s w; rw [C.out] at h; exact h
  have L := hid hs.1
  have HT := hidAll fun k => @entsB_take t p xs k
  have HN := hidAll fun k => @entsB_no t p xs k
  have hB0 : Below (w.heap.size + 1) (w.alloc (.cells #[.int .i64 t, .int .i64 p, .int .i64 s] 23)) (w.alloc (.cells #[.int .i64 t, .int .i64 p, .int .i64 s] 23)) := Below.refl _ _
  have hq := extCell
  clear hr C h1 h2 h3 h4 h5 h6
  generalize cellsN t p = n at *
  go_enter Try.func42, Try.ntmps42
  go_wp2_with fail
  go_loopw [13, 6] (fun i v wr => ∃ k : Nat, k ≤ len ∧ i = .int .i64 k ∧ RowKit.Hid (entsB t p (xs.take k) = true) ∧ OwnP wr (w.heap.size + 1) v (xs.take k) ∧ Below (w.heap.size + 1) (w.alloc (.cells #[.int .i64 t, .int .i64 p, .int .i64 s] 23)) wr) (fun i _ _ => len - (intOf i).toNat)
  case atStart => exact ⟨0, by omega, rfl, hid rfl, OwnP.nil _ _, hB0⟩
  case round =>
    obtain ⟨k, hk, rfl, hE, ho, hB⟩ := hrel
    obtain ⟨a', cap', hv⟩ := ho.form
    rw [show (xs.take k).length = k by rw [List.length_take, L.out]; omega] at hv
    subst hv
    have hBw : Below w.heap.size w wr := ((Below.refl _ _).alloc (Nat.le_refl _) _).trans (hB.mono (by omega))
    have z0 : w.heap.size < wr.heap.size := by have := hB.size; simp at this; omega
    have q0 : wr.cell? ⟨w.heap.size, 0, none⟩ = some (.int .i64 t) := (hB.cell (p := ⟨w.heap.size, 0, none⟩) (Nat.lt_succ_self _)).trans (cellNew rfl rfl)
    have q1 : wr.cell? ⟨w.heap.size, 1, none⟩ = some (.int .i64 p) := (hB.cell (p := ⟨w.heap.size, 1, none⟩) (Nat.lt_succ_self _)).trans (cellNew rfl rfl)
    have q2 : wr.cell? ⟨w.heap.size, 2, none⟩ = some (.int .i64 s) := (hB.cell (p := ⟨w.heap.size, 2, none⟩) (Nat.lt_succ_self _)).trans (cellNew rfl rfl)
    by_cases hlt : k < len
    · obtain ⟨_, _, _, h4⟩ := hs.below hBw
      rcases h4 with ⟨h4, _⟩ | ⟨b0, off, rfl, hcr⟩
      · omega
      have hc := hcr k hlt
      have hx : xs[k]?.getD 0 < 18446744073709551616 := hf.getD (by omega) k
      have ht := hid (HT.out k (by rw [L.out]; exact hlt))
      have hn := hid (HN.out k (by rw [L.out]; exact hlt))
      clear hcr
      have HX := hid (show xs.take (k + 1) = xs.take k ++ [xs[k]?.getD 0] by rw [List.take_succ_eq_append_getElem (by rw [L.out]; exact hlt), List.getElem?_eq_getElem (by rw [L.out]; exact hlt)]; rfl)
      generalize xs[k]?.getD 0 = x at hc hx ht hn HX
      by_cases hbig : (x : Int) / 4294967296 ≤ 65535
      · have O := hid (show ofEntryV x = .tuple #[.agg #[.int .i64 ((x : Int) / 4294967296), .int .u32 ((x : Int) % 4294967296)], .bool true] by rw [ofEntryV, if_pos hbig])
        by_cases hin : (x : Int) / 4294967296 < n
        · have hE2 := hid (show entsB t p (xs.take (k + 1)) = true by rw [ht.out, hE.out]; simpa using hin)
          go_wp2_with fail
          refine (markOfEntry x _ (by omega) (by omega)).mono ?_
          rw [O.out]
          rintro e w1 ⟨rfl, hb1⟩
          obtain ⟨hc1, hf1, hz1⟩ := after hb1
          have z1 : w.heap.size < w1.heap.size := by omega
          have hB1 : Below (w.heap.size + 1) (w.alloc (.cells #[.int .i64 t, .int .i64 p, .int .i64 s] 23)) w1 := hB.trans (hb1.mono (by omega))
          have hBw1 : Below w.heap.size w w1 := hBw.trans (hb1.mono (by omega))
          have ho1 := ho.kept hb1 (Nat.le_refl _)
          have q0 := (hc1 _ _ z0).trans q0
          have q1 := (hc1 _ _ z0).trans q1
          have q2 := (hc1 _ _ z0).trans q2
          clear hc1 hf1
          go_wp2_with fail
          refine regionBelow (by kernel_rfl) (by kernel_rfl) ?_
          repeat (go_big_quiet_step ((go_at_call 51; exact quietBelow (PC.out _))))
          refine wpQuiet_nil ?_
          intro _ hw'
          obtain ⟨nq, hw''⟩ := hw'
          subst hw''
          have hn2 := nq.below
          have hz2 := hn2.size
          simp at hz2
          have ho2 : OwnP nq.to (w.heap.size + 1) (.slice a' k cap') (xs.take k) := ho1.kept (B := w1.heap.size) (((Below.refl _ _).alloc (Nat.le_refl _) _).trans (hn2.mono (by simp))) (Nat.le_refl _)
          have hB2 : Below (w.heap.size + 1) (w.alloc (.cells #[.int .i64 t, .int .i64 p, .int .i64 s] 23)) nq.to := (hB1.alloc (by omega) _).trans (hn2.mono (by simp; omega))
          have hlk : (xs.take k).length ≤ 1000 := by rw [List.length_take]; omega
          have hsnoc := hid (show xs.take (k + 1) = xs.take k ++ [x] from HX.out)
          clear ho ho1
          go_wp2_with (at_builtin; refine wpAppendP rfl (.tmp 31) (.tmp 33) rfl _ (w.heap.size + 1) _ (xs.take k) rfl (ho2.kept ((Below.refl _ _).alloc (Nat.le_refl _) _) (Nat.le_refl _)) x nq.to.heap.size 1 rfl (cellNew rfl rfl) (cellNew rfl rfl) hlk (by simp; omega) ?_; intro v' w3 ho3 hg3)
          have hB3 := (hB2.alloc (by omega) (.cells #[.int .i64 ((x : Int) / 4294967296), .int .u32 ((x : Int) % 4294967296)] 75)).grown hg3 (by simp; omega) (by intro j hj; exact ho2.block hj)
          rw [← hsnoc.out] at ho3
          go_roundw
          case rel => exact ⟨k + 1, by omega, by go_num, hE2, ho3, hB3⟩
          case measure => simp [intOf]; omega
        · have hE2 := hid (hn.out (by omega))
          go_wp2_with fail
          refine (markOfEntry x _ (by omega) (by omega)).mono ?_
          rw [O.out]
          rintro e w1 ⟨rfl, hb1⟩
          obtain ⟨hc1, hf1, hz1⟩ := after hb1
          have z1 : w.heap.size < w1.heap.size := by omega
          have hB1 : Below (w.heap.size + 1) (w.alloc (.cells #[.int .i64 t, .int .i64 p, .int .i64 s] 23)) w1 := hB.trans (hb1.mono (by omega))
          have hBw1 : Below w.heap.size w w1 := hBw.trans (hb1.mono (by omega))
          have ho1 := ho.kept hb1 (Nat.le_refl _)
          have q0 := (hc1 _ _ z0).trans q0
          have q1 := (hc1 _ _ z0).trans q1
          have q2 := (hc1 _ _ z0).trans q2
          clear hc1 hf1
          go_wp2_with fail
          refine regionBelow (by kernel_rfl) (by kernel_rfl) ?_
          repeat (go_big_quiet_step ((go_at_call 51; exact quietBelow (PC.out _))))
          refine wpQuiet_nil ?_
          intro _ hw'
          obtain ⟨nq, hw''⟩ := hw'
          subst hw''
          have hn2 := nq.below
          have hz2 := hn2.size
          simp at hz2
          go_wp2_with fail
          go_ret2
          exact .inr ⟨hE2.out, rfl, bel⟩
      · have O := hid (show ofEntryV x = .tuple #[.agg #[.int .i64 0, .int .u32 0], .bool false] by rw [ofEntryV, if_neg hbig])
        have hE2 := hid (hn.out (by omega))
        go_wp2_with fail
        refine (markOfEntry x _ (by omega) (by omega)).mono ?_
        rw [O.out]
        rintro e w1 ⟨rfl, hb1⟩
        obtain ⟨hc1, hf1, hz1⟩ := after hb1
        have z1 : w.heap.size < w1.heap.size := by omega
        have hB1 : Below (w.heap.size + 1) (w.alloc (.cells #[.int .i64 t, .int .i64 p, .int .i64 s] 23)) w1 := hB.trans (hb1.mono (by omega))
        have hBw1 : Below w.heap.size w w1 := hBw.trans (hb1.mono (by omega))
        have ho1 := ho.kept hb1 (Nat.le_refl _)
        have q0 := (hc1 _ _ z0).trans q0
        have q1 := (hc1 _ _ z0).trans q1
        have q2 := (hc1 _ _ z0).trans q2
        clear hc1 hf1
        go_wp2_with fail
        refine regionBelow (by kernel_rfl) (by kernel_rfl) ?_
        repeat (go_big_quiet_step ((go_at_call 51; exact quietBelow (PC.out _))))
        refine wpQuiet_nil ?_
        intro _ hw'
        obtain ⟨nq, hw''⟩ := hw'
        subst hw''
        have hn2 := nq.below
        have hz2 := hn2.size
        simp at hz2
        go_wp2_with fail
        go_ret2
        exact .inr ⟨hE2.out, rfl, bel⟩
    · obtain rfl : k = len := by omega
      have hE2 := hid (show entsB t p xs = true by have h := hE.out; rw [List.take_of_length_le (by rw [L.out]; exact Nat.le_refl _)] at h; exact h)
      have ho2 : OwnP wr (w.heap.size + 1) (.slice a' k cap') xs := by have h := ho; rw [List.take_of_length_le (by rw [L.out]; exact Nat.le_refl _)] at h; exact h
      clear ho
      go_wp2_with fail
      go_ret2
      exact .inl ⟨hE2.out, _, rfl, ho2.rebase (by omega), hBw⟩
end Go.Proofs.Ytkkhoiahjmfibaa
