/- The walk of the statement on torn heads: it answers true. -/
import Derived.Test.YtpeeaapheohehaaHeadLaws2
import Derived.Test.YtpeeaapheohehaaCrc
namespace Go.Proofs.Ytpeeaapheohehaa
open Go.RowKit
set_option linter.unusedVariables false
set_option linter.unusedSimpArgs false

theorem turnBit_append (xs ys : List Nat) (p : Nat) (h : p < 64 * xs.length) : turnBit (xs ++ ys) p = turnBit xs p ++ ys := by
  unfold turnBit
  rw [List.getElem?_append_left (by omega), List.set_append_left _ _ (by omega)]
theorem turned_append (xs ys : List Nat) (at_ turn k : Nat) (h : at_ + k ≤ 64 * xs.length) : turned (xs ++ ys) at_ turn k = turned xs at_ turn k ++ ys := by
  induction k with
  | zero => rfl
  | succ k ih =>
    rw [turned, turned, ih (by omega)]
    split
    · rw [turnBit_append _ _ _ (by rw [turned_length]; omega)]
    · rfl
theorem turned_far (xs : List Nat) (at_ turn k i : Nat) (h : 64 * (i + 1) ≤ at_) : (turned xs at_ turn k)[i]? = xs[i]? := by
  induction k with
  | zero => rfl
  | succ k ih =>
    rw [turned]
    split
    · rw [turnBit, List.getElem?_set, if_neg (by omega), ih]
    · exact ih
theorem turned_ne (xs : List Nat) (at_ turn : Nat) (hN : at_ + 32 ≤ 64 * xs.length) (ht : turn < 4294967296) (h0 : turn ≠ 0) : turned xs at_ turn 32 ≠ xs := by
  intro h
  have h1 := crc_tells xs at_ turn hN ht h0
  rw [h] at h1
  exact h1 rfl
theorem head7_length (t p s : Int) : (head7 t p s).length = 7 := by simp [head7]
theorem head7_at (t p s : Int) : (head7 t p s)[2]?.getD 0 = (t + p * 65536 + s * 4294967296).toNat := by simp [head7]
theorem torn_low {t p s t' p' s' : Int} (at_ turn : Nat) (hat : at_ ≤ 416) (ht : turn < 4294967296) (h0 : turn ≠ 0) : turned (headN t p s) at_ turn 32 ≠ headN t' p' s' := by
  intro h
  have h3 := crc_tells (head7 t p s) at_ turn (by rw [head7_length]; omega) ht h0
  have l1 := head7_length t p s
  have l2 := head7_length t' p' s'
  unfold headN at h
  generalize head7 t p s = xs at *
  generalize head7 t' p' s' = ys at *
  rw [turned_append _ _ _ _ _ (by omega)] at h
  obtain ⟨h1, h2⟩ := List.append_inj h (by rw [turned_length]; omega)
  rw [h1] at h3
  simp only [List.cons.injEq, and_true] at h2
  exact h3 h2.symm
theorem torn_high {t p s : Int} (hr : rightC t p s = true) (at_ turn : Nat) (hat : 192 ≤ at_) (hN : at_ ≤ 480) (ht : turn < 4294967296) (h0 : turn ≠ 0) :
    turned (headN t p s) at_ turn 32 ≠ headN (cT (turned (headN t p s) at_ turn 32)) (cP (turned (headN t p s) at_ turn 32)) (cS (turned (headN t p s) at_ turn 32)) := by
  have e : (turned (headN t p s) at_ turn 32)[2]?.getD 0 = (t + p * 65536 + s * 4294967296).toNat := by
    rw [turned_far _ _ _ _ _ (by omega), headN, List.getElem?_append_left (by rw [head7_length]; omega), head7_at]
  obtain ⟨⟨h1, h2⟩, ⟨h3, h4⟩, h5, h6⟩ := rightC_of hr
  have c1 : cT (turned (headN t p s) at_ turn 32) = t := by unfold cT; rw [e]; omega
  have c2 : cP (turned (headN t p s) at_ turn 32) = p := by unfold cP; rw [e]; omega
  have c3 : cS (turned (headN t p s) at_ turn 32) = s := by unfold cS; rw [e]; omega
  rw [c1, c2, c3]
  exact turned_ne _ _ _ (by rw [headN_length]; omega) ht h0
theorem torn_none {t p s : Int} (hr : rightC t p s = true) (at_ turn : Nat) (hN : at_ ≤ 480) (ht : turn < 4294967296) (h0 : turn ≠ 0) : decB (turned (headN t p s) at_ turn 32) = false := by
  have hl : (turned (headN t p s) at_ turn 32).length = 8 := by rw [turned_length, headN_length]
  by_cases hat : at_ ≤ 416
  · have h := fun t' p' s' => torn_low (t := t) (p := p) (s := s) (t' := t') (p' := p') (s' := s') at_ turn hat ht h0
    generalize turned (headN t p s) at_ turn 32 = ws at *
    rw [Bool.eq_false_iff]
    intro hd
    simp only [decB, Bool.and_eq_true, decide_eq_true_eq, beq_iff_eq] at hd
    rw [List.take_of_length_le (by omega)] at hd
    exact h _ _ _ hd.2
  · have h := torn_high hr at_ turn (by omega) hN ht h0
    generalize turned (headN t p s) at_ turn 32 = ws at *
    rw [Bool.eq_false_iff]
    intro hd
    simp only [decB, Bool.and_eq_true, decide_eq_true_eq, beq_iff_eq] at hd
    rw [List.take_of_length_le (by omega)] at hd
    exact h hd.2
end Go.Proofs.Ytpeeaapheohehaa
