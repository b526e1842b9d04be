/- Slices of numbers that are read: what is known of their cells. No program in sight. -/
import Derived.Test.YtpeeaapheohehaaPlain
import Derived.Laws.AppendOwnNone
namespace Go.Proofs.Ytpeeaapheohehaa
open Go.RowKit
set_option linter.unusedVariables false

/-- The first 'len' cells of a slice are the numbers xs. -/
def Seen (k : IntKind) (w : World) (a : Option Addr) (len cap : Nat) (xs : List Nat) : Prop :=
  xs.length = len ∧ len ≤ cap ∧ cap ≤ 9223372036854775807 ∧ (len = 0 ∧ (a = none → cap = 0) ∨ ∃ b off, a = some ⟨b, off, none⟩ ∧ ∀ i, i < len → w.cell? ⟨b, off + i, none⟩ = some (.int k ((xs[i]?.getD 0 : Nat) : Int)))

/-- All numbers of a list are below a bound. -/
def Fit (n : Nat) (xs : List Nat) : Prop := ∀ x ∈ xs, x < n

theorem Fit.getD {n : Nat} {xs : List Nat} (h : Fit n xs) (hn : 0 < n) (i : Nat) : xs[i]?.getD 0 < n := by
  by_cases hi : i < xs.length
  · rw [List.getElem?_eq_getElem hi]; exact h _ (List.getElem_mem hi)
  · rw [List.getElem?_eq_none (by omega)]; exact hn
theorem Fit.take {n : Nat} {xs : List Nat} (h : Fit n xs) (k : Nat) : Fit n (xs.take k) := fun x hx => h x (List.mem_of_mem_take hx)

theorem Seen.empty (k : IntKind) (w : World) (a : Option Addr) (cap : Nat) (h : cap ≤ 9223372036854775807) (hn : a = none → cap = 0) : Seen k w a 0 cap [] := ⟨rfl, Nat.zero_le _, h, .inl ⟨rfl, hn⟩⟩

theorem Seen.below {k : IntKind} {w w' : World} {a : Option Addr} {len cap : Nat} {xs : List Nat} (h : Seen k w a len cap xs) (hb : Below w.heap.size w w') : Seen k w' a len cap xs := by
  obtain ⟨h1, h2, h3, h4⟩ := h
  refine ⟨h1, h2, h3, ?_⟩
  rcases h4 with h4 | ⟨b, off, ha, hc⟩
  · exact .inl h4
  · refine .inr ⟨b, off, ha, fun i hi => ?_⟩
    have := hc i hi
    rw [hb.cell (p := ⟨b, off + i, none⟩) (World.block_lt_of_cell? w _ this)]
    exact this

theorem Seen.take {k : IntKind} {w : World} {a : Option Addr} {len cap : Nat} {xs : List Nat} (h : Seen k w a len cap xs) (n : Nat) (hn : n ≤ len) : Seen k w a n cap (xs.take n) := by
  obtain ⟨h1, h2, h3, h4⟩ := h
  refine ⟨by rw [List.length_take]; omega, by omega, h3, ?_⟩
  rcases h4 with h4 | ⟨b, off, ha, hc⟩
  · exact .inl ⟨by omega, h4.2⟩
  · refine .inr ⟨b, off, ha, fun i hi => ?_⟩
    rw [hc i (by omega), List.getElem?_take, if_pos hi]
/-- A slice that is built of numbers written out. -/
theorem Seen.built (k : IntKind) (w : World) (xs : List Nat) (cs : Array Value) (T : TypeId) (n : Nat) (hn : xs.length = n) (hm : n ≤ 9223372036854775807)
    (hcs : cs = (xs.map fun x : Nat => Value.int k (x : Int)).toArray) : Seen k (w.alloc (.cells cs T)) (some ⟨w.heap.size, 0, none⟩) n n xs := by
  subst hn hcs
  refine ⟨rfl, Nat.le_refl _, hm, .inr ⟨_, _, rfl, fun i hi => ?_⟩⟩
  have h : (w.alloc (.cells (xs.map fun x : Nat => Value.int k (x : Int)).toArray T)).heap[w.heap.size]? = some (.cells (xs.map fun x : Nat => Value.int k (x : Int)).toArray T) := heap_alloc_new w _
  simp only [World.cell?, h]
  simp [hi]

theorem Seen.drewN {k : IntKind} {w : World} {a : Option Addr} {len cap : Nat} {xs : List Nat} (h : Seen k w a len cap xs) (n : Nat) : Seen k (w.drewN n) a len cap xs := h
theorem belowDrewN {B : Nat} {a w : World} (h : Below B a w) (n : Nat) : Below B a (w.drewN n) := ⟨h.os, h.tape, h.output, h.size, h.block⟩

/-! ### a row of numbers that the call itself made -/
def Own (e : TypeId) (k : IntKind) (w : World) (base : Nat) (v : Value) (xs : List Nat) : Prop :=
  w.ownsRow base e 1 v xs.length (xs.map fun n : Nat => Value.int k (n : Int))

theorem Own.kept {e : TypeId} {k : IntKind} {w w' : World} {base : Nat} {v : Value} {xs : List Nat} (h : Own e k w base v xs) {B : Nat} (hb : Below B w w') (hB : w.heap.size ≤ B) : Own e k w' base v xs := by
  refine ⟨h.1, ?_⟩
  rcases h.2 with hn | ⟨g, cap, cur, rfl, hbs, hg, rest⟩
  · exact .inl hn
  · refine .inr ⟨g, cap, cur, rfl, hbs, ?_, rest⟩
    rw [hb.block g (by have := (Array.getElem?_eq_some_iff.1 hg).1; omega)]
    exact hg

theorem Own.seen {e : TypeId} {k : IntKind} {w : World} {base : Nat} {a : Option Addr} {n cap : Nat} {xs : List Nat} (h : Own e k w base (.slice a n cap) xs) : Seen k w a n cap xs := by
  have hl := h.1
  rcases h.2 with ⟨hv, hn⟩ | ⟨g, cap', cur, hv, hbs, hg, hnc, hcm, hcs, ht⟩
  · simp only [Value.slice.injEq] at hv
    obtain ⟨rfl, rfl, rfl⟩ := hv
    exact ⟨hn, Nat.le_refl _, by omega, .inl ⟨rfl, fun _ => rfl⟩⟩
  · simp only [Value.slice.injEq] at hv
    obtain ⟨rfl, rfl, rfl⟩ := hv
    refine ⟨rfl, hnc, by simp only [maxLen] at hcm; omega, .inr ⟨g, 0, rfl, fun i hi => ?_⟩⟩
    have hc : w.cell? ⟨g, i, none⟩ = cur[i]? := by simp only [World.cell?, hg]; rfl
    rw [Nat.zero_add, hc, ← Array.getElem?_toList]
    have hx := congrArg (fun l => l[i]?) ht
    simp only [Nat.mul_one, List.getElem?_take, if_pos hi, List.getElem?_map] at hx
    rw [hx, List.getElem?_eq_getElem hi]
    rfl

theorem Own.form {e : TypeId} {k : IntKind} {w : World} {base : Nat} {v : Value} {xs : List Nat} (h : Own e k w base v xs) (hx : 0 < xs.length) :
    ∃ g cap, v = .slice (some ⟨g, 0, none⟩) xs.length cap ∧ base ≤ g ∧ g < w.heap.size ∧ xs.length ≤ cap := by
  rcases h.2 with ⟨hv, hn⟩ | ⟨g, cap', cur, hv, hbs, hg, hnc, _⟩
  · omega
  · exact ⟨g, cap', hv, hbs, (Array.getElem?_eq_some_iff.1 hg).1, hnc⟩

theorem Own.anyForm {e : TypeId} {k : IntKind} {w : World} {base : Nat} {v : Value} {xs : List Nat} (h : Own e k w base v xs) :
    ∃ a cap, v = .slice a xs.length cap := by
  rcases h.2 with ⟨hv, hn⟩ | ⟨g, cap', cur, hv, hbs, hg, hnc, _⟩
  · exact ⟨none, 0, by rw [hv, hn]⟩
  · exact ⟨_, cap', hv⟩

theorem Own.stored {e : TypeId} {k : IntKind} {w : World} {base g n cap : Nat} {xs : List Nat} (h : Own e k w base (.slice (some ⟨g, 0, none⟩) n cap) xs) (hn : xs.length = n) (j : Nat) (u : Nat) :
    Own e k (w.setCell ⟨g, j, none⟩ (.int k (u : Int))) base (.slice (some ⟨g, 0, none⟩) n cap) (xs.set j u) := by
  subst hn
  have h1 := (World.ownsRow.stored (h : w.ownsRow base e 1 _ _ _) j (.int k (u : Int))).1
  unfold Own
  rw [List.length_set, List.map_set]
  exact h1

theorem Own.unfrozen {e : TypeId} {k : IntKind} {w : World} {base g n cap : Nat} {xs : List Nat} (h : Own e k w base (.slice (some ⟨g, 0, none⟩) n cap) xs) (hn : xs.length = n) (j : Nat) : w.frozen? ⟨g, j, none⟩ = false := by
  subst hn
  exact World.ownsRow.frozenAt (h : w.ownsRow base e 1 _ _ _) j

theorem Own.cell {e : TypeId} {k : IntKind} {w : World} {base g n cap : Nat} {xs : List Nat} (h : Own e k w base (.slice (some ⟨g, 0, none⟩) n cap) xs) (hn : xs.length = n) (j : Nat) (hj : j < n) :
    w.cell? ⟨g, j, none⟩ = some (.int k ((xs[j]?.getD 0 : Nat) : Int)) := by
  subst hn
  rw [World.ownsRow.cellAt (h : w.ownsRow base e 1 _ _ _) j (by omega), List.getElem?_map, List.getElem?_eq_getElem hj]
  rfl

theorem Own.nil (e : TypeId) (k : IntKind) (w : World) (base : Nat) : Own e k w base (.slice none 0 0) [] := World.ownsRow_nil w base e 1

theorem Own.built (e : TypeId) (k : IntKind) (w : World) (base : Nat) (xs : List Nat) (cs : Array Value) (n : Nat) (hb : base ≤ w.heap.size) (hn : xs.length = n) (hm : n ≤ maxLen)
    (hcs : cs = (xs.map fun x : Nat => Value.int k (x : Int)).toArray) : Own e k (w.alloc (.cells cs e)) base (.slice (some ⟨w.heap.size, 0, none⟩) n n) xs := by
  subst hn hcs
  have := World.ownsRow_lit (e := e) (size := 1) (base := base) w (xs.map fun x : Nat => Value.int k (x : Int)).toArray xs.length hb hm (by simp)
  simpa [Own] using this

/-- 'append(v, src...)' onto a row of the call's own. -/
theorem wpAppend {P : Program} {ops : Array Oper} {rest : List Oper} {o : Oper} {a : Act} {Q : Exit → Act → World → Prop} (hgd : o.guard = none) (s x : Operand) (t e : TypeId)
    (ho : o.op = .call { callee := .builtin .append, args := #[s, x], argTypes := #[t, t] }) (k : IntKind) (z : Value) (bytes : Nat)
    (ht : P.underlying t = some (.slice e)) (hi : (P.info? e).map (fun i => (i.zero, i.size, i.bytes)) = some (some z, 1, bytes)) (hz : z.cells.size = 1)
    (w : World) (base : Nat) (v : Value) (xs : List Nat) (hs : a.eval s = v) (hown : Own e k w base v xs)
    (ad : Option Addr) (m c : Nat) (ys : List Nat) (hx : a.eval x = .slice ad m c) (hsrc : Seen k w ad m c ys)
    (h63 : xs.length + m ≤ maxLen) (hbytes : (xs.length + m) * bytes ≤ 140737488355328) (hbase : base ≤ w.heap.size)
    (h : ∀ v' w', Own e k w' base v' (xs ++ ys) → w.grownBy w' v.ownBlock → wpList P ops Q rest (a.put o.dst v') w') : wpList P ops Q (o :: rest) a w := by
  obtain ⟨i0, hi, hz0, hz1, hz2⟩ := info_parts hi
  obtain ⟨h1, h2, h3, h4⟩ := hsrc
  have news1 : ∀ u ∈ ys.map fun n : Nat => Value.int k (n : Int), u.oneCell' = true := by
    intro u hu
    obtain ⟨n, _, rfl⟩ := List.mem_map.1 hu
    rfl
  have fin : ∀ v' w', w'.ownsRow base e 1 v' (xs.length + m) ((xs.map fun n : Nat => Value.int k (n : Int)) ++ ys.map fun n : Nat => Value.int k (n : Int)) → Own e k w' base v' (xs ++ ys) := by
    intro v' w' hw
    unfold Own
    rw [List.length_append, h1, List.map_append]
    exact hw
  by_cases hnil : ad = none
  · subst hnil
    rcases h4 with ⟨rfl, hc⟩ | ⟨b, off, ha, _⟩
    · obtain rfl := hc rfl
      obtain rfl : ys = [] := List.length_eq_zero_iff.1 h1
      refine wpList_append_own_none hgd s x t ho base e i0 1 ht hi v xs.length _ hs hown hx ?_
      refine h v w (by rw [List.append_nil]; exact hown) ⟨rfl, rfl, rfl, Nat.le_refl _, fun _ _ _ => rfl⟩
    · cases ha
  · obtain ⟨ad, rfl⟩ : ∃ y, ad = some y := by cases ad with | none => exact absurd rfl hnil | some y => exact ⟨y, rfl⟩
    refine wpList_append_own w hgd s x t ho base e i0 z 1 bytes ht hi hz0 hz1 hz2 hz (by omega) v xs.length _ hs hown ad m c (ys.map fun n : Nat => Value.int k (n : Int)) hx (by simpa using h1) ?_ news1 h63 hbytes hbase ?_
    · intro j u hu
      rcases h4 with ⟨rfl, _⟩ | ⟨b, off, ha, hc⟩
      · obtain rfl : ys = [] := List.length_eq_zero_iff.1 h1
        simp at hu
      · cases ha
        have hj : j < m := by
          rcases Nat.lt_or_ge j m with hj | hj
          · exact hj
          · rw [List.getElem?_eq_none (by simp; omega)] at hu; cases hu
        have hadd : (⟨b, off, none⟩ : Addr).add j = ⟨b, off + j, none⟩ := by unfold Addr.add; split <;> simp_all
        rw [hadd, hc j hj]
        rw [List.getElem?_map] at hu
        cases hy : ys[j]? with
        | none => rw [hy] at hu; cases hu
        | some y => rw [hy] at hu; simpa using hu
    · intro v' w' hw hg _
      exact h v' w' (fin v' w' hw) hg

/-- Behind a call that makes memory of its own: every cell and every mark that was there reads as before. -/
theorem after {W w1 : World} (hb : Below W.heap.size W w1) : (∀ b o, b < W.heap.size → w1.cell? ⟨b, o, none⟩ = W.cell? ⟨b, o, none⟩) ∧ (∀ b o, b < W.heap.size → w1.frozen? ⟨b, o, none⟩ = W.frozen? ⟨b, o, none⟩) ∧ W.heap.size ≤ w1.heap.size :=
  ⟨fun b o h => hb.cell (p := ⟨b, o, none⟩) h, fun b o h => hb.frozen (p := ⟨b, o, none⟩) h, hb.size⟩

/-- 'Below' of a world that is written out: new blocks, stores into them, draws, calls that make memory of their own. -/
theorem bel {B : Nat} {a b : World} (h : Below B a b := by
    repeat' first
      | exact Below.refl _ _
      | with_reducible assumption
      | refine Below.setCell ?_ (by (try simp) <;> omega) _
      | refine Below.alloc ?_ (by (try simp) <;> omega) _
      | refine belowDrewN ?_ _
      | refine Below.drew ?_
      | refine Below.trans ?_ (Below.mono (by with_reducible assumption) (by (try simp) <;> omega))) : Below B a b := h

/-! ### a region that draws its order, whose operations read, and whose callees make memory of their own alone: one walk, in the order of the text -/
/-- A world that is another one, but for memory that is new. -/
structure Ext (w : World) where
  to : World
  below : Below w.heap.size w to

instance extNonempty (w : World) : Nonempty (Ext w) := ⟨⟨w, Below.refl _ _⟩⟩

theorem extCell (w : World) (g : Ext w) (b o : Nat) (h : b < w.heap.size) : g.to.cell? ⟨b, o, none⟩ = w.cell? ⟨b, o, none⟩ := g.below.cell (p := ⟨b, o, none⟩) h
theorem extFrozen (w : World) (g : Ext w) (b o : Nat) (h : b < w.heap.size) : g.to.frozen? ⟨b, o, none⟩ = w.frozen? ⟨b, o, none⟩ := g.below.frozen (p := ⟨b, o, none⟩) h

theorem regionBelow {P : Program} {id : Nat} {Q : Exit → Act → World → Prop} {a : Act} {w : World} {l : List Oper} (hm : P.follows .mixedOrders = true) (hB : Region.lexB .any l.toArray = true)
    (h : wpQuiet P l.toArray (fun w' => ∃ g : Ext w, w' = g.to) (fun a' => ∀ w', (∃ g : Ext w, w' = g.to) → Q .normal a' w') l a) : (Code.region id l.toArray true).wp P Q a w :=
  wp_region_quiet (C := fun w' => ∃ g : Ext w, w' = g.to) hm hB ⟨⟨w.drewN 1, belowDrewN (Below.refl _ _) 1⟩, rfl⟩ (by simpa using h)

theorem quietBelow {P : Program} {f : FuncId} {args : Array Value} {w : World} {g : Ext w} {v : Value}
    (h : Calls P f args g.to fun e w' => e = .returned v ∧ Below g.to.heap.size g.to w') : Calls P f args g.to fun e w'' => e = .returned v ∧ ∃ g' : Ext w, w'' = g'.to :=
  h.mono fun _ w' ⟨he, hb⟩ => ⟨he, ⟨w', g.below.trans (hb.mono g.below.size)⟩, rfl⟩
theorem quietSame {P : Program} {f : FuncId} {args : Array Value} {w : World} {g : Ext w} {v : Value}
    (h : Calls P f args g.to fun e w' => e = .returned v ∧ g.to = w') : Calls P f args g.to fun e w'' => e = .returned v ∧ ∃ g' : Ext w, w'' = g'.to :=
  h.mono fun _ w' ⟨he, hb⟩ => ⟨he, g, hb.symm⟩
theorem quietDrew {P : Program} {f : FuncId} {args : Array Value} {w : World} {g : Ext w} {v : Value}
    (h : Calls P f args g.to fun e w' => e = .returned v ∧ ∃ n, w' = g.to.drewN n) : Calls P f args g.to fun e w'' => e = .returned v ∧ ∃ g' : Ext w, w'' = g'.to :=
  h.mono fun _ w' ⟨he, n, hb⟩ => ⟨he, ⟨w', by rw [hb]; exact belowDrewN g.below n⟩, rfl⟩

end Go.Proofs.Ytpeeaapheohehaa
