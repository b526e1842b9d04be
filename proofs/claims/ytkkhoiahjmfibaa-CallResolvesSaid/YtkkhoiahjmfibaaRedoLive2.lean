/- Layer 27's own examples answer true; what a change's part done comes to, in plain Lean. -/
import Derived.Test.YtkkhoiahjmfibaaRedoLive
namespace Go.Proofs.Ytkkhoiahjmfibaa
open Go.RowKit
set_option linter.unusedVariables false
set_option linter.unusedSimpArgs false

set_option maxRecDepth 100000 in
theorem liveRedo (w : World) : Calls Try.prog 11 #[] w fun e w' => e = .returned (.bool true) ∧ Below w.heap.size w w' := by
  have hl := headN_length 1 8 10
  have hF := headN_fit rc18
  have hW : freshW = headN 1 8 10 ++ tailT := freshOf_eq hl
  refine liveRedoOf w (headN 1 8 10 ++ tailT) (headN 1 8 10 ++ tailT2) freshV (freshV.set 0 3) (hid fun w => by rw [← hW]; exact freshWords w) (hid freshVals) (hid (settleFresh hl)) (hid (layFresh hl)) (hid (settleLaid hl)) (hid (by decide)) (hid (by decide)) (hid ?_) (hid ?_) (hid ?_) (hid ⟨by decide, by decide⟩)
  · exact fun x hx => (List.mem_append.1 hx).elim (hF x) ((by decide : ∀ x ∈ tailT, x < 18446744073709551616) x)
  · exact fun x hx => (List.mem_append.1 hx).elim (hF x) ((by decide : ∀ x ∈ tailT2, x < 18446744073709551616) x)
  · rw [List.length_append, hl, show tailT2.length = 336 by decide]

theorem at_set (ws : List Nat) (i x k : Nat) : (ws.set i x)[k]?.getD 0 = if i = k ∧ k < ws.length then x else ws[k]?.getD 0 := by
  by_cases h : i = k
  · subst h
    by_cases h2 : i < ws.length
    · simp [h2]
    · simp [h2, List.getElem?_eq_none (show ws.length ≤ i by omega)]
  · simp [h, List.getElem?_set_ne h]
theorem putX_at (S : Nat) (ws : List Nat) (e k : Nat) : (putX S ws e)[k]?.getD 0 = if 16 + e / 4294967296 = k ∧ k < ws.length ∧ (ws[k]?.getD 0) / 4294967296 < S then S * 4294967296 + e % 4294967296 else ws[k]?.getD 0 := by
  unfold putX stampAt
  by_cases h : (ws[16 + e / 4294967296]?.getD 0) / 4294967296 < S
  · rw [if_pos h, at_set]
    by_cases hk : 16 + e / 4294967296 = k
    · subst hk; simp [h]
    · simp [hk]
  · rw [if_neg h]
    by_cases hk : 16 + e / 4294967296 = k
    · subst hk; rw [if_neg (fun hh => h hh.2.2)]
    · rw [if_neg (fun hh => hk hh.1)]
theorem applyX_keep (S : Nat) (es : List Nat) : ∀ (ws : List Nat) (k : Nat), ¬ (ws[k]?.getD 0) / 4294967296 < S → (applyX S es ws)[k]?.getD 0 = ws[k]?.getD 0 := by
  induction es with
  | nil => intro ws k _; rfl
  | cons e es ih =>
    intro ws k h
    have hp : (putX S ws e)[k]?.getD 0 = ws[k]?.getD 0 := by rw [putX_at, if_neg (fun hh => h hh.2.2)]
    show (applyX S es (putX S ws e))[k]?.getD 0 = _
    rw [ih _ k (by rw [hp]; exact h), hp]
theorem list_ext0 {xs ys : List Nat} (hl : xs.length = ys.length) (h : ∀ k : Nat, xs[k]?.getD 0 = ys[k]?.getD 0) : xs = ys := by
  apply List.ext_getElem hl
  intro k h1 h2
  have := h k
  rwa [List.getElem?_eq_getElem h1, List.getElem?_eq_getElem h2] at this
theorem applyX_part (S : Nat) (es : List Nat) : ∀ (ws vs : List Nat), vs.length = ws.length → (∀ k : Nat, vs[k]?.getD 0 = ws[k]?.getD 0 ∨ vs[k]?.getD 0 = (applyX S es ws)[k]?.getD 0) → applyX S es vs = applyX S es ws := by
  induction es with
  | nil => intro ws vs hl h; exact list_ext0 hl (fun k => (h k).elim id id)
  | cons e es ih =>
    intro ws vs hl h
    show applyX S es (putX S vs e) = applyX S es (putX S ws e)
    refine ih _ _ (by rw [putX_length, putX_length, hl]) (fun k => ?_)
    have hk : vs[k]?.getD 0 = ws[k]?.getD 0 ∨ vs[k]?.getD 0 = (applyX S es (putX S ws e))[k]?.getD 0 := h k
    rw [putX_at S vs, putX_at S ws] 
    by_cases hc : 16 + e / 4294967296 = k ∧ k < ws.length
    · by_cases hs : (ws[k]?.getD 0) / 4294967296 < S
      · have hp : (putX S ws e)[k]?.getD 0 = S * 4294967296 + e % 4294967296 := by rw [putX_at, if_pos ⟨hc.1, hc.2, hs⟩]
        rw [if_pos (show 16 + e / 4294967296 = k ∧ k < ws.length ∧ (ws[k]?.getD 0) / 4294967296 < S from ⟨hc.1, hc.2, hs⟩)]
        rw [applyX_keep S es _ k (by rw [hp]; omega), hp] at hk
        left
        rcases hk with hk | hk
        · rw [if_pos ⟨hc.1, by omega, by rw [hk]; exact hs⟩]
        · rw [if_neg (by rw [hk]; omega)]; exact hk
      · have hp : (putX S ws e)[k]?.getD 0 = ws[k]?.getD 0 := by rw [putX_at, if_neg (fun hh => hs hh.2.2)]
        rw [applyX_keep S es _ k (by rw [hp]; exact hs), hp] at hk
        have hk : vs[k]?.getD 0 = ws[k]?.getD 0 := hk.elim id id
        left
        rw [if_neg (by rw [hk]; exact fun hh => hs hh.2.2), if_neg (fun hh => hs hh.2.2), hk]
    · rw [if_neg (fun hh => hc ⟨hh.1, by omega⟩), if_neg (fun hh => hc ⟨hh.1, hh.2.1⟩)]
      exact hk
end Go.Proofs.Ytkkhoiahjmfibaa
