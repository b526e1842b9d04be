/- The wanted words of a head, as a map: what it reads as behind each round. -/
import Derived.Test.YtpeeaapheohehaaHead
import Derived.Maps.Own
import Derived.Maps.OwnOps
import Derived.Maps.OwnSet
namespace Go.Proofs.Ytpeeaapheohehaa
open Go.RowKit Go.Maps
set_option linter.unusedVariables false
set_option linter.unusedSimpArgs false

def entry (xs : List Nat) (i : Nat) : Lit × DataW Unit := (.int .i64 (i : Int), .lit (.int .u64 ((xs[i]?.getD 0 : Nat) : Int)))
/-- The entries of a map that holds some of the words. -/
def entsOf (f : Nat → Bool) (xs : List Nat) (n : Nat) : DataW Unit := .map (((List.range n).filter f).map (entry xs))

theorem sameKey_int (i j : Nat) : (Lit.int .i64 (i : Int)).sameKey (.int .i64 (j : Int)) = decide (i = j) := by
  simp [Lit.sameKey, Int.ofNat_inj]
theorem insert_last (x : Lit × DataW Unit) (l : List (Lit × DataW Unit)) (h : ∀ y ∈ l, x.1.before y.1 = false) : DataW.insert x l = l ++ [x] := by
  induction l with
  | nil => rfl
  | cons y r ih =>
    rw [DataW.insert, if_neg (by rw [h y (by simp)]; simp), ih (fun z hz => h z (by simp [hz]))]
    rfl
theorem ents_put (xs : List Nat) (k : Nat) : (entsOf (fun _ => true) xs k).put (.int .i64 (k : Int)) (.lit (.int .u64 ((xs[k]?.getD 0 : Nat) : Int))) = entsOf (fun _ => true) xs (k + 1) := by
  have hf : ((List.range k).map (entry xs)).filter (fun p => !p.1.sameKey (.int .i64 (k : Int))) = (List.range k).map (entry xs) := by
    rw [List.filter_eq_self]
    intro y hy
    obtain ⟨i, hi, rfl⟩ := List.mem_map.1 hy
    have := List.mem_range.1 hi
    rw [entry, sameKey_int]
    simp; omega
  have ht : ∀ n, (List.range n).filter (fun _ => true) = List.range n := fun n => List.filter_eq_self.2 (fun _ _ => rfl)
  simp only [entsOf, DataW.put, ht]
  rw [hf, insert_last]
  · rw [List.range_succ, List.map_append]; rfl
  · intro y hy
    obtain ⟨i, hi, rfl⟩ := List.mem_map.1 hy
    have := List.mem_range.1 hi
    simp [entry, Lit.before]
    omega
theorem ents_congr (f g : Nat → Bool) (xs : List Nat) (n : Nat) (h : ∀ i, i < n → f i = g i) : entsOf f xs n = entsOf g xs n := by
  unfold entsOf
  rw [List.filter_congr (fun i hi => h i (List.mem_range.1 hi))]
theorem ents_del (f : Nat → Bool) (xs : List Nat) (n k : Nat) : (entsOf f xs n).del (.int .i64 (k : Int)) = entsOf (fun i => f i && decide (i ≠ k)) xs n := by
  simp only [entsOf, DataW.del]
  rw [List.filter_map, List.filter_filter]
  congr 2
  apply List.filter_congr
  intro i hi
  simp only [Function.comp, entry, sameKey_int]
  cases f i <;> simp
theorem find_range (f : Nat → Bool) (n k : Nat) (hk : k < n) (hf : f k = true) : ((List.range n).filter f).find? (fun i => decide (i = k)) = some k := by
  rw [List.find?_filter]
  have h := List.find?_eq_some_iff_append (p := fun a => decide (f a = true ∧ decide (a = k) = true)) (xs := List.range n) (b := k)
  refine h.2 ⟨by simp [hf], List.range k, (List.range' (k + 1) (n - k - 1)), ?_, ?_⟩
  · rw [List.range_eq_range', List.range_eq_range', show n = k + (1 + (n - k - 1)) from by omega, ← List.range'_append_1, ← List.range'_append_1]
    simp
  · intro a ha
    have := List.mem_range.1 ha
    simp
    right; omega
theorem ents_at (f : Nat → Bool) (xs : List Nat) (n k : Nat) (hk : k < n) (hf : f k = true) : (entsOf f xs n).atKey (.int .i64 (k : Int)) (.lit (.int .u64 0)) = .lit (.int .u64 ((xs[k]?.getD 0 : Nat) : Int)) := by
  simp only [entsOf, DataW.atKey]
  rw [List.find?_map]
  have e : ((fun p : Lit × DataW Unit => p.1.sameKey (.int .i64 (k : Int))) ∘ entry xs) = fun i => decide (i = k) := by
    funext i
    simp only [Function.comp, entry, sameKey_int]
  rw [e, find_range f n k hk hf]
  rfl
theorem ents_at_none (f : Nat → Bool) (xs : List Nat) (n k : Nat) (hk : n ≤ k) : (entsOf f xs n).atKey (.int .i64 (k : Int)) (.lit (.int .u64 0)) = .lit (.int .u64 0) := by
  simp only [entsOf, DataW.atKey]
  rw [List.find?_map, List.find?_eq_none.2]
  · rfl
  · intro i hi
    have h1 := List.mem_range.1 (List.mem_filter.1 hi).1
    simp only [Function.comp, entry, sameKey_int]
    simp; omega
/-- Which words are still in the map behind k rounds. -/
def keepF (xs ws : List Nat) (k i : Nat) : Bool := decide (k ≤ i) || (xs[i]?.getD 0 != ws[i]?.getD 0)
theorem keep_at (xs ws : List Nat) (n k : Nat) (hn : xs.length = n) : (entsOf (keepF xs ws k) xs n).atKey (.int .i64 (k : Int)) (.lit (.int .u64 0)) = .lit (.int .u64 ((xs[k]?.getD 0 : Nat) : Int)) := by
  by_cases hk : k < n
  · exact ents_at _ xs n k hk (by simp [keepF])
  · rw [ents_at_none _ xs n k (by omega), List.getElem?_eq_none (by omega)]; rfl
theorem keep_del (xs ws : List Nat) (n k : Nat) (h : xs[k]?.getD 0 = ws[k]?.getD 0) : (entsOf (keepF xs ws k) xs n).del (.int .i64 (k : Int)) = entsOf (keepF xs ws (k + 1)) xs n := by
  rw [ents_del]
  apply ents_congr
  intro i _
  unfold keepF
  by_cases h1 : i = k
  · subst h1
    have h2 : ¬ i + 1 ≤ i := by omega
    simp [h, h2]
  · by_cases h2 : k ≤ i
    · have h3 : k + 1 ≤ i := by omega
      simp [h1, h2, h3]
    · have h3 : ¬ k + 1 ≤ i := by omega
      simp [h1, h2, h3]
theorem keep_stay (xs ws : List Nat) (n k : Nat) (h : xs[k]?.getD 0 ≠ ws[k]?.getD 0) : entsOf (keepF xs ws k) xs n = entsOf (keepF xs ws (k + 1)) xs n := by
  apply ents_congr
  intro i _
  unfold keepF
  by_cases h1 : i = k
  · subst h1
    have h2 : ¬ i + 1 ≤ i := by omega
    simp [h, h2]
  · by_cases h2 : k ≤ i
    · have h3 : k + 1 ≤ i := by omega
      simp [h2, h3]
    · have h3 : ¬ k + 1 ≤ i := by omega
      simp [h2, h3]
theorem keep_first (xs ws : List Nat) (n : Nat) : entsOf (fun _ => true) xs n = entsOf (keepF xs ws 0) xs n := by
  apply ents_congr
  intro i _
  simp [keepF]
theorem keep_last (xs ws : List Nat) (n : Nat) : size (entsOf (keepF xs ws n) xs n) = 0 ↔ ∀ i, i < n → xs[i]?.getD 0 = ws[i]?.getD 0 := by
  unfold entsOf size
  simp only [List.length_map, List.length_eq_zero_iff, List.filter_eq_nil_iff, List.mem_range]
  constructor
  · intro h i hi
    have h1 := h i hi
    have h2 : ¬ n ≤ i := by omega
    simpa [keepF, h2] using h1
  · intro h i hi
    have h2 : ¬ n ≤ i := by omega
    simp [keepF, h2, h i hi]
theorem take_iff {xs ws : List Nat} {n : Nat} (hn : xs.length = n) (hw : n ≤ ws.length) : ws.take n = xs ↔ ∀ i, i < n → xs[i]?.getD 0 = ws[i]?.getD 0 := by
  constructor
  · intro h i hi
    rw [← h, List.getElem?_take, if_pos hi]
  · intro h
    apply List.ext_getElem?
    intro i
    by_cases hi : i < n
    · have := h i hi
      rw [List.getElem?_take, if_pos hi, List.getElem?_eq_getElem (by omega), List.getElem?_eq_getElem (by omega)]
      rw [List.getElem?_eq_getElem (by omega), List.getElem?_eq_getElem (by omega)] at this
      simpa using this.symm
    · rw [List.getElem?_eq_none (by simp; omega), List.getElem?_eq_none (by omega)]

/-- A map of the call's own, kept behind what turns other blocks alone. -/
theorem ownsKept {P : Program} {k : TypeId} {R : Value → Option (DataW Unit × List MemPlace)} {b n : Nat} {D : DataW Unit} {w w' : World} {B : Nat} (h : w.ownsMap P k R b n D) (hb : Below B w w') (hB : b < B) : w'.ownsMap P k R b n D := by
  obtain ⟨es, clock, h1, h2⟩ := h
  exact ⟨es, clock, by rw [hb.block b hB]; exact h1, h2⟩

theorem Own.grownMap {e : TypeId} {k : IntKind} {w w' : World} {base g n cap b : Nat} {xs : List Nat} (h : Own e k w base (.slice (some ⟨g, 0, none⟩) n cap) xs) (hg : w.grownBy w' (some b)) (hb : b < base) : Own e k w' base (.slice (some ⟨g, 0, none⟩) n cap) xs := by
  refine ⟨h.1, ?_⟩
  rcases h.2 with hn | ⟨g', cap', cur, hv, hbs, hgg, rest⟩
  · exact .inl hn
  · refine .inr ⟨g', cap', cur, hv, hbs, ?_, rest⟩
    have hlt := (Array.getElem?_eq_some_iff.1 hgg).1
    rw [hg.block g' hlt (by intro hh; cases hh; omega)]
    exact hgg

theorem intLaw : Keyed Try.prog 3 := int_keyed Try.underlying3
theorem zeroU64 (w : World) : (zeroValue 58).run Try.prog w = .ok (.int .u64 0) w := by kernel_rfl
theorem keyInt (k : Nat) (h : k < 9223372036854775807) : keyOf Try.prog 3 (.int .i64 (k : Int)) = some (.int .i64 (k : Int)) := keyOf_int_mk Try.underlying3 (WalkArith.wf_i64 (by omega))
theorem elemU64 (n : Nat) (h : n < 18446744073709551616) : plainElem (H := Unit) Try.prog 58 (.int .u64 (n : Int)) = some (.lit (.int .u64 (n : Int)), []) := plainElem_int Try.underlying58 (WalkArith.wf_u64 (by omega))
end Go.Proofs.Ytpeeaapheohehaa
