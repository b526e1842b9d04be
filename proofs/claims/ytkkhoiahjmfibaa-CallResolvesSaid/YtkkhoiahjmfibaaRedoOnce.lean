/- What is tidied, in plain Lean: it is settled; its cells hold the values; all else but a note is as before. -/
import Derived.Test.YtkkhoiahjmfibaaRedoPart
namespace Go.Proofs.Ytkkhoiahjmfibaa
open Go.RowKit
set_option linter.unusedVariables false
set_option linter.unusedSimpArgs false

theorem applyX_other (S : Nat) (es : List Nat) : ∀ (ws : List Nat) (k : Nat), (∀ e ∈ es, 16 + e / 4294967296 ≠ k) → (applyX S es ws)[k]?.getD 0 = ws[k]?.getD 0 := by
  induction es with
  | nil => intro ws k _; rfl
  | cons e es ih =>
    intro ws k h
    show (applyX S es (putX S ws e))[k]?.getD 0 = _
    rw [ih _ k (fun e' he => h e' (List.mem_cons_of_mem _ he)), putX_at, if_neg (fun hh => h e List.mem_cons_self hh.1)]
theorem entsB_mem {t p : Int} {xs : List Nat} (h : entsB t p xs = true) (e : Nat) (he : e ∈ xs) : e / 4294967296 < (cellsN t p).toNat := by
  have := List.all_eq_true.1 h e he
  simp at this
  omega
theorem openX_close (y S : Nat) : openX (closeX y) S = false := by
  unfold openX closeX
  split
  · have : (y / 4294967296 * 4294967296 + y % 2147483648) / 2147483648 % 2 = 0 := by omega
    simp [this]
  · simp
/-- What tidying leaves. -/
structure Tidied (t p : Int) (ws x a : List Nat) : Prop where
  again : settledO t p x = some (x, -1)
  vals : valsOf (cellsN t p).toNat x = a
  rest : ∀ j : Nat, (∀ i, i < (cellsN t p).toNat → j ≠ 16 + i) → (∀ u : Nat, (u : Int) ≤ t → j ≠ noteI t p u) → x[j]?.getD 0 = ws[j]?.getD 0
theorem tidied {t p s : Int} {len : Nat} {ws x a : List Nat} (ho : okW t p s len) (hl : ws.length = len) (hx : tidyO t p ws = some x) (ha : settleO t p ws = some a) : Tidied t p ws x a := by
  unfold tidyO at hx
  unfold settleO at ha
  cases hs : settledO t p ws with
  | none => rw [hs] at hx; cases hx
  | some rn =>
    obtain ⟨r, n⟩ := rn
    rw [hs] at hx ha
    simp only [Option.map_some, Option.some.injEq] at hx ha
    have hs0 := hs
    unfold settledO at hs
    split at hs
    · rename_i htip
      have hcn := cells_note (u := tipU ws) ho htip.1
      obtain ⟨_, _, hni, _⟩ := noteI_bd (u := (tipU ws : Int)) ho (by omega) htip.1
      split at hs
      · split at hs
        · rename_i hop hE
          simp only [Option.some.injEq, Prod.mk.injEq] at hs
          obtain ⟨hr, hn⟩ := hs
          rw [if_pos (by omega)] at hx
          have hn' : n.toNat = noteI t p (tipU ws) := by omega
          rw [hn'] at hx
          have hrl : r.length = ws.length := by rw [← hr, applyX_length]
          have hxj : ∀ j : Nat, j ≠ noteI t p (tipU ws) → x[j]?.getD 0 = r[j]?.getD 0 := by
            intro j hj
            rw [← hx, at_set, if_neg (fun hh => hj hh.1.symm)]
          have hro : ∀ j : Nat, (∀ i, i < (cellsN t p).toNat → j ≠ 16 + i) → r[j]?.getD 0 = ws[j]?.getD 0 := by
            intro j hj
            rw [← hr]
            exact applyX_other _ _ _ _ (fun e he h => hj _ (entsB_mem hE e he) h.symm)
          have t8 : x[8]?.getD 0 = ws[8]?.getD 0 := by rw [hxj 8 (by omega), hro 8 (fun i _ => by omega)]
          have eU : tipU x = tipU ws := by unfold tipU; rw [t8]
          have eS : tipS x = tipS ws := by unfold tipS; rw [t8]
          have eX : noteX t p (tipU ws) x = closeX (r[noteI t p (tipU ws)]?.getD 0) := by
            unfold noteX
            conv => lhs; rw [← hx]
            rw [at_set, if_pos ⟨rfl, by rw [hrl, hl]; exact hni⟩]
          have hst : stampsB (cellsN t p).toNat x = true := by
            rw [stampsB_iff, eS]
            intro i hi
            have h0 := stampsB_iff.1 htip.2 i hi
            unfold stampAt at h0 ⊢
            rw [hxj (16 + i) (by omega), ← hr]
            exact applyX_stamp _ _ _ _ h0
          refine ⟨?_, ?_, fun j h1 h2 => by rw [hxj j (h2 _ htip.1), hro j h1]⟩
          · unfold settledO
            rw [eU, eS, eX, if_pos ⟨htip.1, hst⟩, if_neg (by rw [openX_close]; decide)]
          · rw [← ha]
            unfold valsOf
            refine List.map_congr_left (fun i hi => ?_)
            have := List.mem_range.1 hi
            rw [hxj (16 + i) (by omega)]
        · cases hs
      · simp only [Option.some.injEq, Prod.mk.injEq] at hs
        obtain ⟨hr, hn⟩ := hs
        rw [if_neg (by omega)] at hx
        have hxw : x = ws := by rw [← hx, ← hr]
        refine ⟨?_, ?_, fun j _ _ => by rw [hxw]⟩
        · rw [hxw, hs0, ← hr, ← hn]
        · rw [← ha, hxw, hr]
    · cases hs
theorem Tidied.settle {t p : Int} {ws x a : List Nat} (h : Tidied t p ws x a) : settleO t p x = some a ∧ tidyO t p x = some x := by
  unfold settleO tidyO
  rw [h.again]
  exact ⟨by rw [← h.vals]; rfl, rfl⟩
theorem Tidied.cell {t p : Int} {ws x a : List Nat} (h : Tidied t p ws x a) {i : Nat} (hi : i < (cellsN t p).toNat) : a[i]?.getD 0 = (x[16 + i]?.getD 0) % 4294967296 := by
  rw [← h.vals, valsOf_at _ _ _ hi]
end Go.Proofs.Ytkkhoiahjmfibaa
