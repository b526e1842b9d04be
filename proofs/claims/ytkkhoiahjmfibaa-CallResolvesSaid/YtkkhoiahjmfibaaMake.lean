/- Rows that are made, and rows that are cloned. -/
import Derived.Test.YtkkhoiahjmfibaaWords
import Derived.OwnWalk
import Derived.WalkSpells
import Derived.WalkLawsBesides
namespace Go.Proofs.Ytkkhoiahjmfibaa
open Go.RowKit
set_option linter.unusedVariables false
set_option linter.unusedSimpArgs false

theorem infoU32 : (Try.prog.info? 25).map (fun i => (i.zero, i.size, i.bytes)) = some (some (.int .u32 0), 1, 4) := by kernel_rfl

theorem madeCells_zero (k : IntKind) (n : Nat) : (madeCells (Value.int k 0).cells (n * 1)).toList = (List.replicate n 0).map fun x : Nat => Value.int k (x : Int) := by
  apply List.ext_getElem
  · simp [madeCells]
  · intro i h1 h2
    have e : (Value.int k 0).cells = #[Value.int k 0] := rfl
    simp [madeCells, e, Nat.mod_one]

/-- 'make([]T, n)': a row of the call's own, all zero. -/
theorem wpMake {P : Program} {ops : Array Oper} {rest : List Oper} {o : Oper} {a : Act} {Q : Exit → Act → World → Prop} (hgd : o.guard = none) (l c : Operand) (t e : TypeId)
    (ho : o.op = Op.makeSlice t l c) (k : IntKind) (bytes : Nat) (ht : P.underlying t = some (.slice e)) (hi : (P.info? e).map (fun i => (i.zero, i.size, i.bytes)) = some (some (.int k 0), 1, bytes))
    (w : World) (base n : Nat) (hl : a.eval l = .int .i64 (n : Int)) (hc : a.eval c = .int .i64 (n : Int)) (hb : bytes * n ≤ 281474976710656) (hm : n ≤ maxLen) (hbase : base ≤ w.heap.size)
    (h : ∀ w', Own e k w' base (.slice (some ⟨w.heap.size, 0, none⟩) n n) (List.replicate n 0) → w.grownBy w' none → wpList P ops Q rest (a.put o.dst (.slice (some ⟨w.heap.size, 0, none⟩) n n)) w') : wpList P ops Q (o :: rest) a w := by
  obtain ⟨i0, hi, hz0, hz1, hz2⟩ := info_parts hi
  refine wpList_make_full w hgd l c t ho base e i0 (.int k 0) 1 ht hi hz0 hz1 .i64 .i64 n n n hl hc rfl rfl (by rw [hz2]; exact hb) hm hbase fun w' hw hg => ?_
  refine h w' ?_ hg
  unfold Own
  rw [List.length_replicate, ← madeCells_zero]
  exact hw

/-- A row, behind a store into another block. -/
theorem Own.other {e : TypeId} {k : IntKind} {w : World} {base g n cap b : Nat} {xs : List Nat} (h : Own e k w base (.slice (some ⟨g, 0, none⟩) n cap) xs) (hb : b < base) (o : Nat) (v : Value) : Own e k (w.setCell ⟨b, o, none⟩ v) base (.slice (some ⟨g, 0, none⟩) n cap) xs := by
  refine ⟨h.1, ?_⟩
  rcases h.2 with hn | ⟨g', cap', cur, hv, hbs, hgg, rest⟩
  · exact .inl hn
  · refine .inr ⟨g', cap', cur, hv, hbs, ?_, rest⟩
    rw [← hgg]
    exact Below.heap_setCell w ⟨b, o, none⟩ v g' (by show g' ≠ b; omega)

theorem Own.rebase {e : TypeId} {k : IntKind} {w : World} {base base' : Nat} {v : Value} {xs : List Nat} (h : Own e k w base v xs) (hb : base' ≤ base) : Own e k w base' v xs := by
  refine ⟨h.1, ?_⟩
  rcases h.2 with hn | ⟨g, cap, cur, hv, hbs, rest⟩
  · exact .inl hn
  · exact .inr ⟨g, cap, cur, hv, by omega, rest⟩

/-- What a clone is. -/
def ClonePost (w : World) (xs : List Nat) (e : Ending) (w' : World) : Prop := ∃ a n cap, e = .returned (.slice a n cap) ∧ Own 46 .u64 w' w.heap.size (.slice a n cap) xs ∧ Below w.heap.size w w'
set_option maxRecDepth 100000 in
theorem cloneWords (w : World) (a : Option Addr) (len cap : Nat) (xs : List Nat) (hs : Seen .u64 w a len cap xs) (hb : len * 8 ≤ 140737488355328) :
    Calls Try.prog 49 #[.slice a len cap] w (ClonePost w xs) := by
  have hs' := hs
  obtain ⟨h1, h2, h3, h4⟩ := hs'
  have hq := fun (w : World) => Lib.run_eql_slice_nil (P := Try.prog) w 24 46 a len cap 0 0 Try.underlying24
  by_cases ha : a = none
  · subst ha
    rcases h4 with ⟨rfl, hc⟩ | ⟨b, off, he, _⟩
    · obtain rfl := hc rfl
      obtain rfl : xs = [] := List.length_eq_zero_iff.1 h1
      go_enter Try.func49, Try.ntmps49
      go_wp2
      go_ret
      exact ⟨_, _, _, rfl, Own.nil _ _ _ _, bel⟩
    · cases he
  · obtain ⟨ad, rfl⟩ : ∃ y, a = some y := by cases a with | none => exact absurd rfl ha | some y => exact ⟨y, rfl⟩
    clear ha h4
    go_enter Try.func49, Try.ntmps49
    go_wp2_with (at_builtin; refine wpAppend rfl (.tmp 5) (.tmp 6) 24 46 rfl .u64 (.int .u64 0) 8 Try.underlying24 infoU64 rfl _ w.heap.size _ [] rfl (Own.built _ _ _ _ [] _ 0 (Nat.le_refl _) rfl (by decide) rfl) _ _ _ xs rfl (hs.below ((Below.refl _ _).alloc (Nat.le_refl _) _)) (by simp [maxLen]; omega) (by simp; omega) (by simp) ?_; intro v' w1 hown hgrow)
    rw [List.nil_append] at hown
    obtain ⟨a', cap', hv⟩ := hown.anyForm
    have hB1 : Below w.heap.size w w1 := ((Below.refl _ _).alloc (Nat.le_refl _) _).grown hgrow (by simp) (by intro k hk; cases hk; exact Nat.le_refl _)
    rw [hv] at hown ⊢
    clear hv hgrow
    go_wp2_with fail
    go_ret
    exact ⟨_, _, _, rfl, hown, hB1⟩
end Go.Proofs.Ytkkhoiahjmfibaa
