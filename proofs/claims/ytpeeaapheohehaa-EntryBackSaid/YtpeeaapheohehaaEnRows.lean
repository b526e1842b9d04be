/- Rows of entries; the walk of the reference's Same. -/
import Derived.Test.YtpeeaapheohehaaEnPut
import Derived.Test.YtpeeaapheohehaaEnUses
import Derived.LoopTactic
namespace Go.Proofs.Ytpeeaapheohehaa
open Go.RowKit
set_option linter.unusedVariables false
set_option linter.unusedSimpArgs false

def enCells (es : List En) : List Value := es.flatMap enL
theorem enCells_append (es fs : List En) : enCells (es ++ fs) = enCells es ++ enCells fs := by simp [enCells]
theorem enCells_length (es : List En) : (enCells es).length = es.length * 8 := by
  induction es with
  | nil => rfl
  | cons e es ih => rw [enCells, List.flatMap_cons, List.length_append]; rw [enCells] at ih; rw [ih]; simp [enL]; omega
theorem enCells_at (es : List En) : ∀ i j, i < es.length → j < 8 → (enCells es)[i * 8 + j]? = (enL (es[i]?.getD zeroE))[j]? := by
  induction es with
  | nil => intro i j hi; simp at hi
  | cons e es ih =>
    intro i j hi hj
    have hl : (enL e).length = 8 := rfl
    cases i with
    | zero =>
      rw [enCells, List.flatMap_cons, List.getElem?_append_left (by omega)]
      simp
    | succ i =>
      have h := ih i j (by simpa using hi) hj
      rw [enCells, List.flatMap_cons, List.getElem?_append_right (by rw [hl]; omega), hl, show (i + 1) * 8 + j - 8 = i * 8 + j by omega]
      rw [enCells] at h
      rw [h]
      simp

/-- The first elements of a row of entries are known. -/
def SeenE (w : World) (a : Option Addr) (len cap : Nat) (es : List En) : Prop :=
  es.length = len ∧ len ≤ cap ∧ cap ≤ 9223372036854775807 ∧ (len = 0 ∨ ∃ b off, a = some ⟨b, off, none⟩ ∧ ∀ i, i < len → ∀ j, j < 8 → w.cell? ⟨b, off + i * 8 + j, none⟩ = (enL (es[i]?.getD zeroE))[j]?)
theorem SeenE.below {w w' : World} {a : Option Addr} {len cap : Nat} {es : List En} (h : SeenE w a len cap es) (hb : Below w.heap.size w w') : SeenE w' a len cap es := by
  obtain ⟨h1, h2, h3, h4⟩ := h
  refine ⟨h1, h2, h3, ?_⟩
  rcases h4 with h4 | ⟨b, off, ha, hc⟩
  · exact .inl h4
  · refine .inr ⟨b, off, ha, fun i hi j hj => ?_⟩
    have h5 := hc i hi j hj
    have hs : ∃ v, w.cell? ⟨b, off + i * 8 + j, none⟩ = some v := by
      rw [h5]
      exact ⟨_, List.getElem?_eq_getElem (show j < (enL (es[i]?.getD zeroE)).length from hj)⟩
    obtain ⟨v, hv⟩ := hs
    rw [hb.cell (p := ⟨b, off + i * 8 + j, none⟩) (World.block_lt_of_cell? w _ hv)]
    exact h5
/-- One element's cells. -/
theorem SeenE.at {w : World} {b off len cap : Nat} {es : List En} (h : SeenE w (some ⟨b, off, none⟩) len cap es) {i : Nat} (hi : i < len) (e : En) (he : es[i]?.getD zeroE = e) :
    w.cell? ⟨b, off + i * 8, none⟩ = some (.int .i64 e.k) ∧ w.cell? ⟨b, off + i * 8 + 1, none⟩ = some (.int .i64 e.t) ∧ w.cell? ⟨b, off + i * 8 + 2, none⟩ = some (.int .i64 e.num) ∧ w.cell? ⟨b, off + i * 8 + 3, none⟩ = some (.int .i64 e.ok) ∧ w.cell? ⟨b, off + i * 8 + 4, none⟩ = some (.int .i64 e.oa) ∧ w.cell? ⟨b, off + i * 8 + 5, none⟩ = some (.int .i64 e.ob) ∧ w.cell? ⟨b, off + i * 8 + 6, none⟩ = some (.int .i64 e.n) ∧ w.cell? ⟨b, off + i * 8 + 7, none⟩ = some (.int .i64 e.m) := by
  obtain ⟨h1, h2, h3, h4⟩ := h
  rcases h4 with h4 | ⟨b', off', ha, hc⟩
  · omega
  · cases ha
    subst he
    have g := hc i hi
    exact ⟨g 0 (by omega), g 1 (by omega), g 2 (by omega), g 3 (by omega), g 4 (by omega), g 5 (by omega), g 6 (by omega), g 7 (by omega)⟩
theorem SeenE.some_of {w : World} {a : Option Addr} {len cap : Nat} {es : List En} (h : SeenE w a len cap es) (h0 : 0 < len) : ∃ b off, a = some ⟨b, off, none⟩ := by
  rcases h.2.2.2 with h4 | ⟨b, off, ha, _⟩
  · omega
  · exact ⟨b, off, ha⟩

/-- A row of entries of the call's own. -/
def OwnE (w : World) (base : Nat) (v : Value) (es : List En) : Prop := w.ownsRow base 32 8 v es.length (enCells es)
theorem OwnE.nil (w : World) (base : Nat) : OwnE w base (.slice none 0 0) [] := World.ownsRow_nil w base 32 8
theorem OwnE.kept {w w' : World} {base : Nat} {v : Value} {es : List En} (h : OwnE w base v es) {B : Nat} (hb : Below B w w') (hB : w.heap.size ≤ B) : OwnE w' base v es := by
  refine ⟨h.1, ?_⟩
  rcases h.2 with hn | ⟨g, cap, cur, rfl, hbs, hg, rest⟩
  · exact .inl hn
  · refine .inr ⟨g, cap, cur, rfl, hbs, ?_, rest⟩
    rw [hb.block g (by have := (Array.getElem?_eq_some_iff.1 hg).1; omega)]
    exact hg
theorem OwnE.form {w : World} {base : Nat} {v : Value} {es : List En} (h : OwnE w base v es) : ∃ a cap, v = .slice a es.length cap := by
  rcases h.2 with ⟨hv, hn⟩ | ⟨g, cap', cur, hv, hbs, hg, hnc, _⟩
  · exact ⟨none, 0, by rw [hv, hn]⟩
  · exact ⟨_, cap', hv⟩
theorem OwnE.down {w : World} {base base' : Nat} {v : Value} {es : List En} (h : OwnE w base v es) (hb : base' ≤ base) : OwnE w base' v es := by
  refine ⟨h.1, ?_⟩
  rcases h.2 with hn | ⟨g, cap, cur, hv, hbs, rest⟩
  · exact .inl hn
  · exact .inr ⟨g, cap, cur, hv, by omega, rest⟩
theorem OwnE.other {w : World} {base b : Nat} {u : Value} {es : List En} (h : OwnE w base u es) (hb : b < base) (o : Nat) (v : Value) : OwnE (w.setCell ⟨b, o, none⟩ v) base u es := by
  refine ⟨h.1, ?_⟩
  rcases h.2 with hn | ⟨g', cap', cur, hv, hbs, hgg, rest⟩
  · exact .inl hn
  · refine .inr ⟨g', cap', cur, hv, hbs, ?_, rest⟩
    rw [← hgg]
    exact Below.heap_setCell w ⟨b, o, none⟩ v g' (by show g' ≠ b; omega)
theorem OwnE.block {w : World} {base : Nat} {v : Value} {es : List En} (h : OwnE w base v es) {j : Nat} (hj : v.ownBlock = some j) : base ≤ j := by
  rcases h.2 with ⟨hv, hn⟩ | ⟨g, cap, cur, hv, hbs, rest⟩
  · rw [hv] at hj; cases hj
  · rw [hv] at hj; cases hj; exact hbs
theorem OwnE.seen {w : World} {base : Nat} {a : Option Addr} {n cap : Nat} {es : List En} (h : OwnE w base (.slice a n cap) es) : SeenE w a n cap es := by
  have hl := h.1
  rcases h.2 with ⟨hv, hn⟩ | ⟨g, cap', cur, hv, hbs, hg, hnc, hcm, hcs, ht⟩
  · simp only [Value.slice.injEq] at hv
    obtain ⟨rfl, rfl, rfl⟩ := hv
    exact ⟨hn, Nat.le_refl _, by omega, .inl rfl⟩
  · simp only [Value.slice.injEq] at hv
    obtain ⟨rfl, rfl, rfl⟩ := hv
    refine ⟨rfl, hnc, by simp only [maxLen] at hcm; omega, .inr ⟨g, 0, rfl, fun i hi j hj => ?_⟩⟩
    have hc : w.cell? ⟨g, i * 8 + j, none⟩ = cur[i * 8 + j]? := by simp only [World.cell?, hg]; rfl
    rw [Nat.zero_add, hc, ← Array.getElem?_toList, ← enCells_at es i j hi hj]
    have hx := congrArg (fun l => l[i * 8 + j]?) ht
    simp only [List.getElem?_take, if_pos (show i * 8 + j < es.length * 8 by omega)] at hx
    exact hx
theorem infoEntry : (Try.prog.info? 32).map (fun i => (i.zero, i.size, i.bytes)) = some (some (.agg #[.int .i64 0, .int .i64 0, .int .i64 0, .int .i64 0, .int .i64 0, .int .i64 0, .int .i64 0, .int .i64 0]), 8, 64) := by kernel_rfl

/-- 'append(out, e)' onto a row of entries of the call's own. -/
theorem wpAppendE {ops : Array Oper} {rest : List Oper} {o : Oper} {a : Act} {Q : Exit → Act → World → Prop} (hgd : o.guard = none) (s x : Operand)
    (ho : o.op = .call { callee := .builtin .append, args := #[s, x], argTypes := #[37, 37] })
    (w : World) (base : Nat) (v : Value) (es : List En) (hs : a.eval s = v) (hown : OwnE w base v es) (e : En) (b c : Nat) (hx : a.eval x = .slice (some ⟨b, 0, none⟩) 1 c)
    (hb : BlkT 32 w b (enL e).toArray)
    (hlen : es.length ≤ 1000) (hbase : base ≤ w.heap.size)
    (h : ∀ v' w', OwnE w' base v' (es ++ [e]) → w.grownBy w' v.ownBlock → wpList Try.prog ops Q rest (a.put o.dst v') w') : wpList Try.prog ops Q (o :: rest) a w := by
  obtain ⟨i0, hi, hz0, hz1, hz2⟩ := info_parts infoEntry
  refine wpList_append_own w hgd s x _ ho base 32 i0 (.agg #[.int .i64 0, .int .i64 0, .int .i64 0, .int .i64 0, .int .i64 0, .int .i64 0, .int .i64 0, .int .i64 0]) 8 64 Try.underlying37 hi hz0 hz1 hz2 rfl (by omega) v es.length _ hs hown ⟨b, 0, none⟩ 1 c (enL e) hx rfl ?_ ?_ (by unfold maxLen; omega) (by omega) hbase ?_
  · intro j u hu
    have hadd : (⟨b, 0, none⟩ : Addr).add j = ⟨b, j, none⟩ := by unfold Addr.add; split <;> simp_all
    rw [hadd]
    exact blkT_cell hb (by rw [List.getElem?_toArray]; exact hu)
  · intro u hu
    simp [enL] at hu
    rcases hu with rfl | rfl | rfl | rfl | rfl | rfl | rfl | rfl <;> rfl
  · intro v' w' hw hg _
    refine h v' w' ?_ hg
    unfold OwnE
    rw [List.length_append, enCells_append, show enCells [e] = enL e by simp [enCells]]
    exact hw
/-- A row of entries, written out. -/
theorem OwnE.built (w : World) (base : Nat) (es : List En) (cs : Array Value) (n : Nat) (hb : base ≤ w.heap.size) (hn : es.length = n) (hm : n ≤ 1000) (hcs : cs = (enCells es).toArray) : OwnE (w.alloc (.cells cs 32)) base (.slice (some ⟨w.heap.size, 0, none⟩) n n) es := by
  subst hn hcs
  have := World.ownsRow_lit (e := 32) (size := 8) (base := base) w (enCells es).toArray es.length hb (by simp only [maxLen]; omega) (by simp [enCells_length])
  simpa [OwnE] using this

set_option maxHeartbeats 1600000 in
theorem eqEntryNo (k0 k1 k2 k3 k4 k5 k6 k7 l0 l1 l2 l3 l4 l5 l6 l7 : Int) (h : (⟨k0, k1, k2, k3, k4, k5, k6, k7⟩ : En) ≠ ⟨l0, l1, l2, l3, l4, l5, l6, l7⟩) (w : World) :
    (Op.equalIn 10000 32 (.agg #[.int .i64 k0, .int .i64 k1, .int .i64 k2, .int .i64 k3, .int .i64 k4, .int .i64 k5, .int .i64 k6, .int .i64 k7]) (.agg #[.int .i64 l0, .int .i64 l1, .int .i64 l2, .int .i64 l3, .int .i64 l4, .int .i64 l5, .int .i64 l6, .int .i64 l7])).run Try.prog w = .ok false w := by
  by_cases e0 : k0 = l0
  · subst e0
    by_cases e1 : k1 = l1
    · subst e1
      by_cases e2 : k2 = l2
      · subst e2
        by_cases e3 : k3 = l3
        · subst e3
          by_cases e4 : k4 = l4
          · subst e4
            by_cases e5 : k5 = l5
            · subst e5
              by_cases e6 : k6 = l6
              · subst e6
                by_cases e7 : k7 = l7
                · subst e7
                  exact absurd rfl h
                · clear h
                  go_simp
              · clear h
                go_simp
            · clear h
              go_simp
          · clear h
            go_simp
        · clear h
          go_simp
      · clear h
        go_simp
    · clear h
      go_simp
  · clear h
    go_simp

set_option maxRecDepth 100000 in
set_option maxHeartbeats 3200000 in
theorem refSame32 (w : World) (a b : Option Addr) (la ca lb cb : Nat) (es fs : List En) (hx : SeenE w a la ca es) (hy : SeenE w b lb cb fs) :
    Calls Try.prog 21 #[.slice a la ca, .slice b lb cb] w fun e w' => e = .returned (.bool (decide (es = fs))) ∧ ∃ n, w' = w.drewN n := by
  by_cases hl : la = lb
  · subst hl
    have X := hid hx.1; have Y := hid hy.1
    have x3 := hx.2.2.1; have x2 := hx.2.1
    go_enter Try.func21, Try.ntmps21
    go_wp2_with fail
    go_loopw [5] (fun i wr => ∃ k : Nat, k ≤ la ∧ i = .int .i64 k ∧ es.take k = fs.take k ∧ ∃ n, wr = w.drewN n) (fun i _ => la - (intOf i).toNat)
    case atStart => exact ⟨0, by omega, rfl, rfl, 0, rfl⟩
    case round =>
      obtain ⟨k, hk, rfl, ht, n, rfl⟩ := hrel
      have T := hid ht; clear ht
      by_cases hlt : k < la
      · obtain ⟨ba, oa, rfl⟩ := hx.some_of (by omega)
        obtain ⟨bb, ob, rfl⟩ := hy.some_of (by omega)
        have E := hid (show es[k]?.getD zeroE = fs[k]?.getD zeroE → es.take (k + 1) = fs.take (k + 1) from by
          intro h
          have h1 : k < es.length := by rw [X.out]; exact hlt
          have h2 : k < fs.length := by rw [Y.out]; exact hlt
          rw [List.take_succ_eq_append_getElem h1, List.take_succ_eq_append_getElem h2, T.out]
          rw [List.getElem?_eq_getElem h1, List.getElem?_eq_getElem h2] at h
          simp only [Option.getD_some] at h
          rw [h])
        have N := hid (show es[k]?.getD zeroE ≠ fs[k]?.getD zeroE → es ≠ fs from fun h h' => h (by rw [h']))
        obtain ⟨c0, c1, c2, c3, c4, c5, c6, c7⟩ := hx.at hlt _ rfl
        obtain ⟨d0, d1, d2, d3, d4, d5, d6, d7⟩ := hy.at hlt _ rfl
        have W := hid (show ∃ m, w.drewN n = w.drewN m from ⟨n, rfl⟩)
        generalize es[k]?.getD zeroE = u at c0 c1 c2 c3 c4 c5 c6 c7 E N
        generalize fs[k]?.getD zeroE = v at d0 d1 d2 d3 d4 d5 d6 d7 E N
        have c0 : (w.drewN n).cell? ⟨ba, oa + k * 8, none⟩ = _ := c0
        have c1 : (w.drewN n).cell? ⟨ba, oa + k * 8 + 1, none⟩ = _ := c1
        have c2 : (w.drewN n).cell? ⟨ba, oa + k * 8 + 2, none⟩ = _ := c2
        have c3 : (w.drewN n).cell? ⟨ba, oa + k * 8 + 3, none⟩ = _ := c3
        have c4 : (w.drewN n).cell? ⟨ba, oa + k * 8 + 4, none⟩ = _ := c4
        have c5 : (w.drewN n).cell? ⟨ba, oa + k * 8 + 5, none⟩ = _ := c5
        have c6 : (w.drewN n).cell? ⟨ba, oa + k * 8 + 6, none⟩ = _ := c6
        have c7 : (w.drewN n).cell? ⟨ba, oa + k * 8 + 7, none⟩ = _ := c7
        have d0 : (w.drewN n).cell? ⟨bb, ob + k * 8, none⟩ = _ := d0
        have d1 : (w.drewN n).cell? ⟨bb, ob + k * 8 + 1, none⟩ = _ := d1
        have d2 : (w.drewN n).cell? ⟨bb, ob + k * 8 + 2, none⟩ = _ := d2
        have d3 : (w.drewN n).cell? ⟨bb, ob + k * 8 + 3, none⟩ = _ := d3
        have d4 : (w.drewN n).cell? ⟨bb, ob + k * 8 + 4, none⟩ = _ := d4
        have d5 : (w.drewN n).cell? ⟨bb, ob + k * 8 + 5, none⟩ = _ := d5
        have d6 : (w.drewN n).cell? ⟨bb, ob + k * 8 + 6, none⟩ = _ := d6
        have d7 : (w.drewN n).cell? ⟨bb, ob + k * 8 + 7, none⟩ = _ := d7
        clear hx hy
        obtain ⟨k0, k1, k2, k3, k4, k5, k6, k7⟩ := u
        obtain ⟨l0, l1, l2, l3, l4, l5, l6, l7⟩ := v
        generalize w.drewN n = wk at c0 c1 c2 c3 c4 c5 c6 c7 d0 d1 d2 d3 d4 d5 d6 d7 W ⊢
        simp only at c0 c1 c2 c3 c4 c5 c6 c7 d0 d1 d2 d3 d4 d5 d6 d7
        by_cases huv : (⟨k0, k1, k2, k3, k4, k5, k6, k7⟩ : En) = ⟨l0, l1, l2, l3, l4, l5, l6, l7⟩
        · have E2 := hid (E.out huv)
          cases huv
          go_wp2_with fail
          go_quiet (fail)
          go_wp2_with fail
          go_roundw
          case rel =>
            obtain ⟨m, rfl⟩ := W.out
            exact ⟨k + 1, by omega, by go_num, E2.out, m + nq, by simp⟩
          case measure => simp [intOf]; omega
        · have H := hid huv
          have N2 := hid (N.out huv)
          have EQ := eqEntryNo _ _ _ _ _ _ _ _ _ _ _ _ _ _ _ _ huv
          clear huv
          go_wp2_with fail
          go_quiet (fail)
          go_wp2_with fail
          go_ret
          obtain ⟨m, rfl⟩ := W.out
          exact ⟨ret_bool (by rw [decide_eq_false N2.out]), m + nq, by simp⟩
      · obtain rfl : k = la := by omega
        have HE := hid (show es = fs from by
          have h := T.out
          rw [List.take_of_length_le (by rw [X.out]; exact Nat.le_refl _), List.take_of_length_le (by rw [Y.out]; exact Nat.le_refl _)] at h
          exact h)
        go_wp2_with fail
        go_ret
        exact ⟨ret_bool (by rw [decide_eq_true HE.out]), n, rfl⟩
  · have hne : es ≠ fs := fun h => hl (by rw [← hx.1, ← hy.1, h])
    have D := hid (decide_eq_false hne)
    have hb : ((la : Int) != (lb : Int)) = true := by rw [bne_iff_ne]; omega
    clear hne hx hy
    go_enter Try.func21, Try.ntmps21
    go_wp2_with fail
    go_ret
    exact ⟨ret_bool (by rw [D.out]), 0, rfl⟩
end Go.Proofs.Ytpeeaapheohehaa
