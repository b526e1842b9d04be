/- A change done in part: plain Lean. -/
import Derived.Test.YtkkhoiahjmfibaaRedoLive2
namespace Go.Proofs.Ytkkhoiahjmfibaa
open Go.RowKit
set_option linter.unusedVariables false
set_option linter.unusedSimpArgs false

theorem applyX_stamp (S : Nat) (es : List Nat) : ∀ (ws : List Nat) (k : Nat), (ws[k]?.getD 0) / 4294967296 ≤ S → ((applyX S es ws)[k]?.getD 0) / 4294967296 ≤ S := by
  induction es with
  | nil => intro ws k h; exact h
  | cons e es ih =>
    intro ws k h
    refine ih (putX S ws e) k ?_
    rw [putX_at]
    split
    · omega
    · exact h
theorem stampsB_iff {n : Nat} {ws : List Nat} : stampsB n ws = true ↔ ∀ i, i < n → stampAt ws i ≤ tipS ws := by
  simp [stampsB]
theorem cells_note {t p s : Int} {u len : Nat} (ho : okW t p s len) (hu : (u : Int) ≤ t) : 16 + (cellsN t p).toNat ≤ noteI t p (u : Int) ∧ noteI t p (u : Int) < logI t p (u : Int) := by
  obtain ⟨⟨h1, h2⟩, ⟨h3, h4⟩, h5, h6⟩ := rightC_of ho.1
  have mb := makers_bd ⟨⟨h1, h2⟩, h3, h4⟩
  unfold noteI logI
  unfold makersN cellsN at *
  omega
/-- What is settled, when some cells of it are turned already. -/
theorem settledPart {t p s : Int} {len : Nat} {ws vs x : List Nat} (ho : okW t p s len) (hx : tidyO t p ws = some x) (hl : vs.length = ws.length)
    (h : ∀ j : Nat, vs[j]?.getD 0 = ws[j]?.getD 0 ∨ ∃ i, i < (cellsN t p).toNat ∧ j = 16 + i ∧ vs[j]?.getD 0 = x[j]?.getD 0) : settledO t p vs = settledO t p ws := by
  unfold tidyO at hx
  cases hs : settledO t p ws with
  | none => rw [hs] at hx; cases hx
  | some rn =>
    obtain ⟨r, n⟩ := rn
    rw [hs] at hx
    simp only [Option.map_some, Option.some.injEq] at hx
    have hs0 := hs
    unfold settledO at hs
    split at hs
    · rename_i htip
      have hcn := cells_note (u := tipU ws) ho htip.1
      have t8 : vs[8]?.getD 0 = ws[8]?.getD 0 := by
        rcases h 8 with h | ⟨i, _, h, _⟩
        · exact h
        · omega
      have eU : tipU vs = tipU ws := by unfold tipU; rw [t8]
      have eS : tipS vs = tipS ws := by unfold tipS; rw [t8]
      have hi : ∀ j : Nat, noteI t p (tipU ws) ≤ j → vs[j]?.getD 0 = ws[j]?.getD 0 := by
        intro j hj
        rcases h j with h | ⟨i, h1, h2, _⟩
        · exact h
        · omega
      split at hs
      · split at hs
        · rename_i hop hE
          simp only [Option.some.injEq, Prod.mk.injEq] at hs
          obtain ⟨hr, hn⟩ := hs
          rw [if_pos (by omega)] at hx
          have hn' : n.toNat = noteI t p (tipU ws) := by omega
          rw [hn'] at hx
          have hv : ∀ j : Nat, vs[j]?.getD 0 = ws[j]?.getD 0 ∨ vs[j]?.getD 0 = r[j]?.getD 0 := by
            intro j
            rcases h j with h | ⟨i, h1, h2, h3⟩
            · exact .inl h
            · right
              rw [h3, ← hx, at_set, if_neg (fun hh => by omega)]
          have eX : noteX t p (tipU ws) vs = noteX t p (tipU ws) ws := hi _ (Nat.le_refl _)
          have eD : vs.drop (logI t p (tipU ws)) = ws.drop (logI t p (tipU ws)) := by
            refine list_ext0 (by simp [hl]) (fun k => ?_)
            rw [List.getElem?_drop, List.getElem?_drop]
            exact hi _ (by omega)
          have eL : logXs t p (tipU ws) vs = logXs t p (tipU ws) ws := by unfold logXs; rw [eX, eD]
          have hst : stampsB (cellsN t p).toNat vs = true := by
            rw [stampsB_iff, eS]
            intro i hi
            have h0 := stampsB_iff.1 htip.2 i hi
            unfold stampAt at h0 ⊢
            rcases hv (16 + i) with h | h
            · rw [h]; exact h0
            · rw [h, ← hr]; exact applyX_stamp _ _ _ _ h0
          unfold settledO
          rw [eU, eS, eX, eL, if_pos ⟨htip.1, hst⟩, if_pos hop, if_pos hE, ← hr, ← hn]
          rw [applyX_part (tipS ws) _ ws vs hl (fun k => by rw [hr]; exact hv k)]
        · cases hs
      · simp only [Option.some.injEq, Prod.mk.injEq] at hs
        obtain ⟨hr, hn⟩ := hs
        rw [if_neg (by omega)] at hx
        have : vs = ws := list_ext0 hl (fun j => by
          rcases h j with h | ⟨_, _, _, h⟩
          · exact h
          · rw [h, ← hx, ← hr])
        rw [this, hs0]
    · cases hs
theorem settleO_congr {t p : Int} {vs ws : List Nat} (h : settledO t p vs = settledO t p ws) : settleO t p vs = settleO t p ws ∧ tidyO t p vs = tidyO t p ws := by
  unfold settleO tidyO; rw [h]; exact ⟨rfl, rfl⟩
/-- Words, of which the first cells are turned as they are told to be. -/
def mixAt (tu : List Bool) (xs ws : List Nat) : Nat → List Nat
  | 0 => ws
  | k + 1 => if tu[k]?.getD false = true then (mixAt tu xs ws k).set (16 + k) (xs[16 + k]?.getD 0) else mixAt tu xs ws k
theorem mixAt_length (tu : List Bool) (xs ws : List Nat) (k : Nat) : (mixAt tu xs ws k).length = ws.length := by
  induction k with
  | zero => rfl
  | succ k ih => unfold mixAt; split <;> simp [ih]
theorem mixAt_at (tu : List Bool) (xs ws : List Nat) (k j : Nat) : (mixAt tu xs ws k)[j]?.getD 0 = ws[j]?.getD 0 ∨ ∃ i, i < k ∧ j = 16 + i ∧ (mixAt tu xs ws k)[j]?.getD 0 = xs[j]?.getD 0 := by
  induction k with
  | zero => exact .inl rfl
  | succ k ih =>
    unfold mixAt
    split
    · rw [at_set]
      split
      · rename_i hc
        exact .inr ⟨k, by omega, hc.1.symm, by rw [hc.1]⟩
      · rcases ih with h | ⟨i, h1, h2, h3⟩
        · exact .inl h
        · exact .inr ⟨i, by omega, h2, h3⟩
    · rcases ih with h | ⟨i, h1, h2, h3⟩
      · exact .inl h
      · exact .inr ⟨i, by omega, h2, h3⟩
theorem mixAt_fit {tu : List Bool} {xs ws : List Nat} (hx : Fit 18446744073709551616 xs) (hw : Fit 18446744073709551616 ws) (k : Nat) : Fit 18446744073709551616 (mixAt tu xs ws k) := by
  induction k with
  | zero => exact hw
  | succ k ih =>
    unfold mixAt
    split
    · intro y hy
      rcases List.mem_or_eq_of_mem_set hy with hy | hy
      · exact ih y hy
      · rw [hy]; exact hx.getD (by omega) _
    · exact ih
theorem settledMix {t p s : Int} {len : Nat} {ws x : List Nat} {tu : List Bool} {k : Nat} (ho : okW t p s len) (hx : tidyO t p ws = some x) (hk : k ≤ (cellsN t p).toNat) :
    settleO t p (mixAt tu x ws k) = settleO t p ws ∧ tidyO t p (mixAt tu x ws k) = tidyO t p ws :=
  settleO_congr (settledPart ho hx (mixAt_length _ _ _ _) (fun j => by
    rcases mixAt_at tu x ws k j with h | ⟨i, h1, h2, h3⟩
    · exact .inl h
    · exact .inr ⟨i, by omega, h2, h3⟩))
/-- What is settled has as many values as there are cells, what is tidied as many words; the two come together. -/
theorem settleTidy {t p : Int} {ws : List Nat} : (settleO t p ws = none ∧ tidyO t p ws = none) ∨ ∃ a x, settleO t p ws = some a ∧ tidyO t p ws = some x ∧ a.length = (cellsN t p).toNat ∧ x.length = ws.length := by
  unfold settleO tidyO
  cases h : settledO t p ws with
  | none => exact .inl ⟨rfl, rfl⟩
  | some rn =>
    refine .inr ⟨_, _, rfl, rfl, valsOf_length _ _, ?_⟩
    have := settledO_length (n := rn.2) (r := rn.1) h
    dsimp only
    split <;> simp [this]
theorem tidyO_fit {t p : Int} {ws x : List Nat} (h : tidyO t p ws = some x) (hf : Fit 18446744073709551616 ws) : Fit 18446744073709551616 x := by
  unfold tidyO at h
  cases hs : settledO t p ws with
  | none => rw [hs] at h; cases h
  | some rn =>
    have hr := settledO_fit (n := rn.2) (r := rn.1) hs hf
    rw [hs] at h
    simp only [Option.map_some, Option.some.injEq] at h
    rw [← h]
    split
    · intro y hy
      rcases List.mem_or_eq_of_mem_set hy with hy | hy
      · exact hr y hy
      · rw [hy]
        have := hr.getD (by omega) rn.2.toNat
        unfold closeX
        split <;> omega
    · exact hr
end Go.Proofs.Ytkkhoiahjmfibaa
