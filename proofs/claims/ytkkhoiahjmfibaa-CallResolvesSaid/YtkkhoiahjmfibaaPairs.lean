/- Rows of pairs that the call itself made, and the walk of package redo's entries. -/
import Derived.Test.YtkkhoiahjmfibaaRedo
import Derived.LoopTactic
namespace Go.Proofs.Ytkkhoiahjmfibaa
open Go.RowKit
set_option linter.unusedVariables false
set_option linter.unusedSimpArgs false

def pairCells (es : List Nat) : List Value := es.flatMap fun e : Nat => [.int .i64 ((e : Int) / 4294967296), .int .u32 ((e : Int) % 4294967296)]
theorem pairCells_append (es fs : List Nat) : pairCells (es ++ fs) = pairCells es ++ pairCells fs := by simp [pairCells]
theorem pairCells_length (es : List Nat) : (pairCells es).length = es.length * 2 := by
  induction es with
  | nil => rfl
  | cons e es ih => simp [pairCells] at ih ⊢; omega
/-- A row of pairs of the call's own: each pair is what an entry's word is. -/
def OwnP (w : World) (base : Nat) (v : Value) (es : List Nat) : Prop := w.ownsRow base 75 2 v es.length (pairCells es)
theorem OwnP.nil (w : World) (base : Nat) : OwnP w base (.slice none 0 0) [] := World.ownsRow_nil w base 75 2
theorem OwnP.kept {w w' : World} {base : Nat} {v : Value} {es : List Nat} (h : OwnP w base v es) {B : Nat} (hb : Below B w w') (hB : w.heap.size ≤ B) : OwnP w' base v es := by
  refine ⟨h.1, ?_⟩
  rcases h.2 with hn | ⟨g, cap, cur, rfl, hbs, hg, rest⟩
  · exact .inl hn
  · refine .inr ⟨g, cap, cur, rfl, hbs, ?_, rest⟩
    rw [hb.block g (by have := (Array.getElem?_eq_some_iff.1 hg).1; omega)]
    exact hg
theorem OwnP.form {w : World} {base : Nat} {v : Value} {es : List Nat} (h : OwnP w base v es) : ∃ a cap, v = .slice a es.length cap := by
  rcases h.2 with ⟨hv, hn⟩ | ⟨g, cap', cur, hv, hbs, hg, hnc, _⟩
  · exact ⟨none, 0, by rw [hv, hn]⟩
  · exact ⟨_, cap', hv⟩
theorem OwnP.rebase {w : World} {base base' : Nat} {v : Value} {es : List Nat} (h : OwnP w base v es) (hb : base' ≤ base) : OwnP w base' v es := by
  refine ⟨h.1, ?_⟩
  rcases h.2 with hn | ⟨g, cap, cur, hv, hbs, rest⟩
  · exact .inl hn
  · exact .inr ⟨g, cap, cur, hv, by omega, rest⟩
/-- A row of pairs, behind a store into another block. -/
theorem OwnP.other {w : World} {base b : Nat} {u : Value} {es : List Nat} (h : OwnP w base u es) (hb : b < base) (o : Nat) (v : Value) : OwnP (w.setCell ⟨b, o, none⟩ v) base u es := by
  refine ⟨h.1, ?_⟩
  rcases h.2 with hn | ⟨g', cap', cur, hv, hbs, hgg, rest⟩
  · exact .inl hn
  · refine .inr ⟨g', cap', cur, hv, hbs, ?_, rest⟩
    rw [← hgg]
    exact Below.heap_setCell w ⟨b, o, none⟩ v g' (by show g' ≠ b; omega)
theorem OwnP.block {w : World} {base : Nat} {v : Value} {es : List Nat} (h : OwnP w base v es) {j : Nat} (hj : v.ownBlock = some j) : base ≤ j := by
  rcases h.2 with ⟨hv, hn⟩ | ⟨g, cap, cur, hv, hbs, rest⟩
  · rw [hv] at hj; cases hj
  · rw [hv] at hj; cases hj; exact hbs
theorem infoPair : (Try.prog.info? 75).map (fun i => (i.zero, i.size, i.bytes)) = some (some (.agg #[.int .i64 0, .int .u32 0]), 2, 16) := by kernel_rfl

/-- 'append(out, p)' onto a row of pairs of the call's own. -/
theorem wpAppendP {ops : Array Oper} {rest : List Oper} {o : Oper} {a : Act} {Q : Exit → Act → World → Prop} (hgd : o.guard = none) (s x : Operand)
    (ho : o.op = .call { callee := .builtin .append, args := #[s, x], argTypes := #[26, 26] })
    (w : World) (base : Nat) (v : Value) (es : List Nat) (hs : a.eval s = v) (hown : OwnP w base v es) (e : Nat) (b c : Nat) (hx : a.eval x = .slice (some ⟨b, 0, none⟩) 1 c)
    (h0 : w.cell? ⟨b, 0, none⟩ = some (.int .i64 ((e : Int) / 4294967296))) (h1 : w.cell? ⟨b, 1, none⟩ = some (.int .u32 ((e : Int) % 4294967296)))
    (hlen : es.length ≤ 1000) (hbase : base ≤ w.heap.size)
    (h : ∀ v' w', OwnP w' base v' (es ++ [e]) → w.grownBy w' v.ownBlock → wpList Try.prog ops Q rest (a.put o.dst v') w') : wpList Try.prog ops Q (o :: rest) a w := by
  obtain ⟨i0, hi, hz0, hz1, hz2⟩ := info_parts infoPair
  refine wpList_append_own w hgd s x _ ho base 75 i0 (.agg #[.int .i64 0, .int .u32 0]) 2 16 Try.underlying26 hi hz0 hz1 hz2 rfl (by omega) v es.length _ hs hown ⟨b, 0, none⟩ 1 c [.int .i64 ((e : Int) / 4294967296), .int .u32 ((e : Int) % 4294967296)] hx rfl ?_ ?_ (by unfold maxLen; omega) (by omega) hbase ?_
  · intro j u hu
    match j, hu with
    | 0, hu => simp at hu; subst hu; exact h0
    | 1, hu => simp at hu; subst hu; exact h1
    | j + 2, hu => simp at hu
  · intro u hu
    simp at hu
    rcases hu with rfl | rfl <;> rfl
  · intro v' w' hw hg _
    refine h v' w' ?_ hg
    unfold OwnP
    rw [List.length_append, pairCells_append, show pairCells [e] = [.int .i64 ((e : Int) / 4294967296), .int .u32 ((e : Int) % 4294967296)] from rfl]
    exact hw
end Go.Proofs.Ytkkhoiahjmfibaa
