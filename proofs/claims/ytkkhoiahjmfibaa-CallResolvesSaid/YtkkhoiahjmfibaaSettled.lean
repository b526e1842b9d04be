/- What words come to: plain words, and the walk of package redo's settled. -/
import Derived.Test.YtkkhoiahjmfibaaLog2
import Derived.LoopTactic
namespace Go.Proofs.Ytkkhoiahjmfibaa
open Go.RowKit
set_option linter.unusedVariables false
set_option linter.unusedSimpArgs false

def tipS (ws : List Nat) : Nat := (ws[8]?.getD 0) / 4294967296
def tipU (ws : List Nat) : Nat := (ws[8]?.getD 0) % 4294967296
def stampAt (ws : List Nat) (i : Nat) : Nat := (ws[16 + i]?.getD 0) / 4294967296
def stampsB (n : Nat) (ws : List Nat) : Bool := (List.range n).all fun i => decide (stampAt ws i ≤ tipS ws)
def openX (x S : Nat) : Bool := decide (x % 2147483648 ≤ 96) && (x / 2147483648 % 2 == 1) && (x / 4294967296 == S)
def putX (S : Nat) (ws : List Nat) (e : Nat) : List Nat := if stampAt ws (e / 4294967296) < S then ws.set (16 + e / 4294967296) (S * 4294967296 + e % 4294967296) else ws
def applyX (S : Nat) (es ws : List Nat) : List Nat := es.foldl (putX S) ws
/-- What words that are a configuration's come to, and where the last change's note is (-1: it was closed). -/
def settledO (t p : Int) (ws : List Nat) : Option (List Nat × Int) :=
  if (tipU ws : Int) ≤ t ∧ stampsB (cellsN t p).toNat ws = true then
    if openX (noteX t p (tipU ws) ws) (tipS ws) = true then
      if entsB t p (logXs t p (tipU ws) ws) = true then some (applyX (tipS ws) (logXs t p (tipU ws) ws) ws, (noteI t p (tipU ws) : Nat)) else none
    else some (ws, -1)
  else none
theorem putX_length (S : Nat) (ws : List Nat) (e : Nat) : (putX S ws e).length = ws.length := by unfold putX; split <;> simp
theorem applyX_length (S : Nat) (es : List Nat) : ∀ ws, (applyX S es ws).length = ws.length := by
  induction es with
  | nil => intro ws; rfl
  | cons e es ih => intro ws; show (applyX S es (putX S ws e)).length = _; rw [ih, putX_length]
theorem applyX_take (S : Nat) (es ws : List Nat) (k : Nat) (h : k < es.length) : applyX S (es.take (k + 1)) ws = putX S (applyX S (es.take k) ws) (es[k]?.getD 0) := by
  rw [applyX, applyX, List.take_succ_eq_append_getElem h, List.foldl_append, List.getElem?_eq_getElem h]
  rfl
theorem stampsB_no {n : Nat} {ws : List Nat} {k : Nat} (hk : k < n) (h : tipS ws < stampAt ws k) : stampsB n ws = false := by
  rw [stampsB, List.all_eq_false]
  exact ⟨k, List.mem_range.2 hk, by simpa using h⟩
theorem stampsB_yes {n : Nat} {ws : List Nat} (h : ∀ k, k < n → stampAt ws k ≤ tipS ws) : stampsB n ws = true := by
  rw [stampsB, List.all_eq_true]
  intro k hk
  simpa using h k (List.mem_range.1 hk)
theorem applyX_fit {S : Nat} (hS : S < 4294967296) (es : List Nat) : ∀ {ws : List Nat}, Fit 18446744073709551616 ws → Fit 18446744073709551616 (applyX S es ws) := by
  induction es with
  | nil => intro ws h; exact h
  | cons e es ih =>
    intro ws h
    apply ih
    intro x hx
    unfold putX at hx
    split at hx
    · rcases List.mem_or_eq_of_mem_set hx with hx | hx
      · exact h x hx
      · omega
    · exact h x hx

theorem pairCells_at (es : List Nat) (i : Nat) (h : i < es.length) : (pairCells es)[2 * i]? = some (.int .i64 (((es[i]?.getD 0 : Nat) : Int) / 4294967296)) ∧ (pairCells es)[2 * i + 1]? = some (.int .u32 (((es[i]?.getD 0 : Nat) : Int) % 4294967296)) := by
  induction es generalizing i with
  | nil => simp at h
  | cons e es ih =>
    have hc : pairCells (e :: es) = .int .i64 ((e : Int) / 4294967296) :: .int .u32 ((e : Int) % 4294967296) :: pairCells es := rfl
    rw [hc]
    cases i with
    | zero => simp
    | succ i =>
      have := ih i (by simpa using h)
      simpa [Nat.mul_add] using this
theorem OwnP.cells {w : World} {base : Nat} {a : Option Addr} {n cap : Nat} {es : List Nat} (h : OwnP w base (.slice a n cap) es) (hn : es.length = n) (hpos : 0 < n) :
    ∃ g, a = some ⟨g, 0, none⟩ ∧ base ≤ g ∧ g < w.heap.size ∧ ∀ i, i < n → w.cell? ⟨g, 2 * i, none⟩ = some (.int .i64 (((es[i]?.getD 0 : Nat) : Int) / 4294967296)) ∧ w.cell? ⟨g, 2 * i + 1, none⟩ = some (.int .u32 (((es[i]?.getD 0 : Nat) : Int) % 4294967296)) := by
  subst hn
  rcases id h.2 with ⟨hv, hn⟩ | ⟨g, cap', cur, hv, hbs, hg, rest⟩
  · omega
  · simp only [Value.slice.injEq] at hv
    obtain ⟨rfl, _, rfl⟩ := hv
    refine ⟨g, rfl, hbs, (Array.getElem?_eq_some_iff.1 hg).1, fun i hi => ?_⟩
    have h1 := World.ownsRow.cellAt (h : w.ownsRow base _ 2 _ _ _) (2 * i) (by omega)
    have h2 := World.ownsRow.cellAt (h : w.ownsRow base _ 2 _ _ _) (2 * i + 1) (by omega)
    obtain ⟨h3, h4⟩ := pairCells_at es i hi
    exact ⟨h1.trans h3, h2.trans h4⟩

/-- What 'settled' answers. -/
def SettledPost (w : World) (t p : Int) (ws : List Nat) (good : Bool) (e : Ending) (w' : World) : Prop :=
  (∃ r n, good = true ∧ settledO t p ws = some (r, n) ∧ ∃ a m cap, e = .returned (.tuple #[.slice a m cap, .int .i64 n, .bool true]) ∧ Own 46 .u64 w' w.heap.size (.slice a m cap) r ∧ Below w.heap.size w w') ∨
  ((good = false ∨ settledO t p ws = none) ∧ e = .returned (.tuple #[.slice none 0 0, .int .i64 0, .bool false]) ∧ Below w.heap.size w w')

theorem redoSettledNo (t p s : Int) (w : World) (a : Option Addr) (len cap : Nat) (ws : List Nat) (h : ¬ okW t p s len) :
    Calls Try.prog 54 #[.agg #[.int .i64 t, .int .i64 p, .int .i64 s], .slice a len cap] w (SettledPost w t p ws false) := by
  have HO := hid h
  clear h
  go_enter Try.func54, Try.ntmps54
  go_wp2_with fail
  refine (redoRightNo t p s _ a len cap HO.out).mono ?_
  rintro e w1 ⟨rfl, hb1⟩
  go_wp2_with fail
  go_ret3
  exact .inr ⟨.inl rfl, rfl, bel⟩
end Go.Proofs.Ytkkhoiahjmfibaa
