/- The walk of package entry's test that all fields that are not used are zero. -/
import Derived.Test.YtpeeaapheohehaaEnUses
import Derived.Test.YtpeeaapheohehaaBlk
import Derived.Test.YtpeeaapheohehaaEnPut
import Derived.Test.YtpeeaapheohehaaEq
import Derived.LoopTactic
namespace Go.Proofs.Ytpeeaapheohehaa
open Go.RowKit
set_option linter.unusedVariables false
set_option linter.unusedSimpArgs false

/-- What a row of fields answers: a row of the call's own. -/
def FieldsPost (w : World) (fs : List Nat) (e : Ending) (w' : World) : Prop := ∃ v, e = .returned v ∧ Own 3 .i64 w' w.heap.size v fs ∧ Below w.heap.size w w'

set_option maxHeartbeats 1600000 in
theorem enFields (k : Int) (w : World) : Calls Try.prog 71 #[.int .i64 k] w (FieldsPost w (usesL k)) := by
  rcases enKinds k with rfl | rfl | rfl | rfl | rfl | ⟨h1, h2, h3, h5, h6⟩
  case inr.inr.inr.inr.inr =>
    have H := hid (show usesL k = [] by simp [usesL, h1, h2, h3, h5, h6])
    have h1 := beq_eq_false_iff_ne.2 h1; have h2 := beq_eq_false_iff_ne.2 h2; have h3 := beq_eq_false_iff_ne.2 h3; have h5 := beq_eq_false_iff_ne.2 h5; have h6 := beq_eq_false_iff_ne.2 h6
    go_enter Try.func71, Try.ntmps71
    go_wp2
    go_ret
    rw [H.out]
    exact ⟨_, rfl, Own.nil _ _ _ _, Below.refl _ _⟩
  · go_enter Try.func71, Try.ntmps71
    go_wp2
    go_ret
    exact ⟨_, rfl, Own.built _ _ _ _ [0, 1, 2, 3, 4] _ 5 (Nat.le_refl _) rfl (by decide) rfl, bel⟩
  · go_enter Try.func71, Try.ntmps71
    go_wp2
    go_ret
    exact ⟨_, rfl, Own.built _ _ _ _ [0, 5] _ 2 (Nat.le_refl _) rfl (by decide) rfl, bel⟩
  · go_enter Try.func71, Try.ntmps71
    go_wp2
    go_ret
    exact ⟨_, rfl, Own.built _ _ _ _ [5, 6] _ 2 (Nat.le_refl _) rfl (by decide) rfl, bel⟩
  · go_enter Try.func71, Try.ntmps71
    go_wp2
    go_ret
    exact ⟨_, rfl, Own.built _ _ _ _ [5] _ 1 (Nat.le_refl _) rfl (by decide) rfl, bel⟩
  · go_enter Try.func71, Try.ntmps71
    go_wp2
    go_ret
    exact ⟨_, rfl, Own.built _ _ _ _ [0, 1] _ 2 (Nat.le_refl _) rfl (by decide) rfl, bel⟩

theorem usesL_len (k : Int) : (usesL k).length ≤ 5 := by
  unfold usesL
  repeat' split
  all_goals decide

theorem eqArr7 (a0 a1 a2 a3 a4 a5 a6 b0 b1 b2 b3 b4 b5 b6 : Int) (w : World) : (Op.equalIn 10000 68 (.agg #[.int .i64 a0, .int .i64 a1, .int .i64 a2, .int .i64 a3, .int .i64 a4, .int .i64 a5, .int .i64 a6]) (.agg #[.int .i64 b0, .int .i64 b1, .int .i64 b2, .int .i64 b3, .int .i64 b4, .int .i64 b5, .int .i64 b6])).run Try.prog w = .ok (a0 == b0 && (a1 == b1 && (a2 == b2 && (a3 == b3 && (a4 == b4 && (a5 == b5 && a6 == b6)))))) w := by
  obtain ⟨i, hi⟩ := infoSome (show (Try.prog.info? 2).map (fun i => (i.zero, i.size, i.bytes)) = some (some (.int .i64 0), 1, 8) by kernel_rfl)
  have h := equalIn_ints (P := Try.prog) (k := .i64) Try.underlying68 hi Try.underlying2 (by kernel_rfl) (by kernel_rfl) [a0, a1, a2, a3, a4, a5, a6] [b0, b1, b2, b3, b4, b5, b6] rfl rfl w
  have e : ([a0, a1, a2, a3, a4, a5, a6] == [b0, b1, b2, b3, b4, b5, b6]) = (a0 == b0 && (a1 == b1 && (a2 == b2 && (a3 == b3 && (a4 == b4 && (a5 == b5 && a6 == b6)))))) := by simp
  rw [e] at h
  exact h

/-- A row of the call's own, behind a store into an elder block. -/
theorem Own.elder {e : TypeId} {k : IntKind} {w : World} {base b : Nat} {u : Value} {xs : List Nat} (h : Own e k w base u xs) (hb : b < base) (o : Nat) (v : Value) : Own e k (w.setCell ⟨b, o, none⟩ v) base u xs := by
  refine ⟨h.1, ?_⟩
  rcases h.2 with hn | ⟨g', cap', cur, hv, hbs, hgg, rest⟩
  · exact .inl hn
  · refine .inr ⟨g', cap', cur, hv, hbs, ?_, rest⟩
    rw [← hgg]
    exact Below.heap_setCell w ⟨b, o, none⟩ v g' (by show g' ≠ b; omega)

/-- An entry's fields, in their order. -/
def En.fv (e : En) (i : Nat) : Int := if i = 0 then e.t else if i = 1 then e.num else if i = 2 then e.ok else if i = 3 then e.oa else if i = 4 then e.ob else if i = 5 then e.n else e.m
def zeroed (x : Nat → Int) (fs : List Nat) (i : Nat) : Int := if fs.contains i then 0 else x i
theorem zeroed_snoc (x : Nat → Int) (fs : List Nat) (f : Nat) : (fun i => if i = f then 0 else zeroed x fs i) = zeroed x (fs ++ [f]) := by
  funext i
  unfold zeroed
  by_cases h : i = f
  · subst h; simp
  · simp [h]
theorem bare_zeroed (e : En) : ((zeroed e.fv (usesL e.k) 0 == 0) && ((zeroed e.fv (usesL e.k) 1 == 0) && ((zeroed e.fv (usesL e.k) 2 == 0) && ((zeroed e.fv (usesL e.k) 3 == 0) && ((zeroed e.fv (usesL e.k) 4 == 0) && ((zeroed e.fv (usesL e.k) 5 == 0) && (zeroed e.fv (usesL e.k) 6 == 0))))))) = bareB e := by
  obtain ⟨k, t, num, ok, oa, ob, n, m⟩ := e
  rcases enKinds k with rfl | rfl | rfl | rfl | rfl | ⟨h1, h2, h3, h5, h6⟩
  · simp [zeroed, usesL, En.fv, bareB, useT, useNum, useOp, useN, useM]
  · simp [zeroed, usesL, En.fv, bareB, useT, useNum, useOp, useN, useM, Bool.and_assoc]
  · simp [zeroed, usesL, En.fv, bareB, useT, useNum, useOp, useN, useM, Bool.and_assoc]
  · simp [zeroed, usesL, En.fv, bareB, useT, useNum, useOp, useN, useM, Bool.and_assoc]
  · simp [zeroed, usesL, En.fv, bareB, useT, useNum, useOp, useN, useM, Bool.and_assoc]
  · simp [zeroed, usesL, En.fv, bareB, useT, useNum, useOp, useN, useM, beq_eq_false_iff_ne.2 h1, beq_eq_false_iff_ne.2 h2, beq_eq_false_iff_ne.2 h3, beq_eq_false_iff_ne.2 h5, beq_eq_false_iff_ne.2 h6, h1, h2, h3, h5, h6, Bool.and_assoc]

set_option maxRecDepth 100000 in
set_option maxHeartbeats 3200000 in
theorem enBare (k t num ok oa ob n m : Int) (w : World) :
    Calls Try.prog 69 #[.agg #[.int .i64 k, .int .i64 t, .int .i64 num, .int .i64 ok, .int .i64 oa, .int .i64 ob, .int .i64 n, .int .i64 m]] w fun en w' => en = .returned (.bool (bareB ⟨k, t, num, ok, oa, ob, n, m⟩)) ∧ Below w.heap.size w w' := by
  have HB := hid (bare_zeroed ⟨k, t, num, ok, oa, ob, n, m⟩)
  have EV := hidAll fun w => enValues ⟨k, t, num, ok, oa, ob, n, m⟩ w
  have UL := hid (usesL_lt k)
  have LN := usesL_len k
  have FV := hid (show A7 (zeroed (En.fv ⟨k, t, num, ok, oa, ob, n, m⟩) []) = #[.int .i64 t, .int .i64 num, .int .i64 ok, .int .i64 oa, .int .i64 ob, .int .i64 n, .int .i64 m] from rfl)
  have ZS := hidAll fun fs => hidAll fun f => zeroed_snoc (En.fv ⟨k, t, num, ok, oa, ob, n, m⟩) fs f
  generalize En.fv ⟨k, t, num, ok, oa, ob, n, m⟩ = fv at HB FV ZS
  rw [← HB.out]
  clear HB
  have FL := hidAll fun w => enFields k w
  generalize usesL k = fs at UL FL LN ⊢
  go_enter Try.func69, Try.ntmps69
  go_wp2_with fail
  refine (EV.out _).mono ?_
  rintro e w1 ⟨rfl, hb1⟩
  have hk1 := blkT_call hb1 (blkT_new (W := w) (T := 32) rfl)
  have c0 : w1.cell? ⟨w.heap.size, 0, none⟩ = some (.int .i64 k) := blkT_cell hk1 rfl
  have z1 : w.heap.size < w1.heap.size := blkT_lt hk1
  have hB1 : Below w.heap.size w w1 := bel
  clear hb1
  go_wp2_with fail
  refine (FL.out _).mono ?_
  rintro e w2 ⟨v2, rfl, ho2, hb2⟩
  obtain ⟨a2, cap2, hv⟩ := ho2.anyForm
  subst hv
  have hn : (w1.alloc (.cells #[.int .i64 t, .int .i64 num, .int .i64 ok, .int .i64 oa, .int .i64 ob, .int .i64 n, .int .i64 m] 68)).heap.size = w1.heap.size + 1 := by simp
  have hg2 : BlkT 68 w2 w1.heap.size (A7 (zeroed fv [])) := by rw [FV.out]; exact blkT_call hb2 (blkT_new rfl)
  rw [hn] at ho2
  have hB2 : Below w.heap.size w w2 := bel
  have z2 : w1.heap.size < w2.heap.size := blkT_lt hg2
  clear hb2 hn FV hk1 c0
  go_wp2_with fail
  go_loopw [12, 5] (fun i fl wr => ∃ j : Nat, j ≤ fs.length ∧ i = .int .i64 (j : Int) ∧ BlkT 68 wr w1.heap.size (A7 (zeroed fv (fs.take j))) ∧ Own 3 .i64 wr (w1.heap.size + 1) (.slice a2 fs.length cap2) fs ∧ Below w.heap.size w wr) (fun i _ _ => fs.length - (intOf i).toNat)
  case atStart => exact ⟨0, by omega, rfl, hg2, ho2, hB2⟩
  case round =>
    obtain ⟨j, hj, rfl, hg, ho, hB⟩ := hrel
    have hz := hB.size
    by_cases hlt : j < fs.length
    · have hf : fs[j] < 7 := UL.out _ (List.getElem_mem hlt)
      have htk : fs.take (j + 1) = fs.take j ++ [fs[j]] := List.take_succ_eq_append_getElem hlt
      obtain ⟨g, cap, hv, hgb, hgl, hcap⟩ := ho.form (by omega)
      cases hv
      have cf := ho.cell rfl j hlt
      rw [List.getElem?_eq_getElem hlt, Option.getD_some] at cf
      have zs := (ZS.out (fs.take j)).out fs[j]
      generalize fs[j] = f at hf htk cf zs
      have TK := hid htk
      have ZZ := hid zs
      clear htk zs
      have cg : wr.cell? ⟨w1.heap.size, f, none⟩ = some (.int .i64 (zeroed fv (fs.take j) f)) := blkT_cell hg (A7_get _ f hf)
      have mg : wr.frozen? ⟨w1.heap.size, f, none⟩ = false := blkT_mark hg f
      have hg' := blkT_hit (o := f) (v := .int .i64 0) hg
      rw [A7_set _ f hf, ZZ.out, ← TK.out] at hg'
      have ho' := ho.elder (b := w1.heap.size) (by omega) f (.int .i64 0)
      have hB' : Below w.heap.size w (wr.setCell ⟨w1.heap.size, f, none⟩ (.int .i64 0)) := hB.setCell (p := ⟨w1.heap.size, f, none⟩) (by have := hB1.size; simp; omega) _
      go_wp2_with fail
      go_roundw
      case rel => exact ⟨j + 1, by omega, by go_num, hg', ho', hB'⟩
      case measure => simp [intOf]; omega
    · obtain rfl : j = fs.length := by omega
      rw [List.take_length] at hg
      have k0 : wr.cell? ⟨w1.heap.size, 0, none⟩ = some (.int .i64 (zeroed fv fs 0)) := blkT_cell hg rfl
      have k1 : wr.cell? ⟨w1.heap.size, 1, none⟩ = some (.int .i64 (zeroed fv fs 1)) := blkT_cell hg rfl
      have k2 : wr.cell? ⟨w1.heap.size, 2, none⟩ = some (.int .i64 (zeroed fv fs 2)) := blkT_cell hg rfl
      have k3 : wr.cell? ⟨w1.heap.size, 3, none⟩ = some (.int .i64 (zeroed fv fs 3)) := blkT_cell hg rfl
      have k4 : wr.cell? ⟨w1.heap.size, 4, none⟩ = some (.int .i64 (zeroed fv fs 4)) := blkT_cell hg rfl
      have k5 : wr.cell? ⟨w1.heap.size, 5, none⟩ = some (.int .i64 (zeroed fv fs 5)) := blkT_cell hg rfl
      have k6 : wr.cell? ⟨w1.heap.size, 6, none⟩ = some (.int .i64 (zeroed fv fs 6)) := blkT_cell hg rfl
      have E7 := eqArr7 (zeroed fv fs 0) (zeroed fv fs 1) (zeroed fv fs 2) (zeroed fv fs 3) (zeroed fv fs 4) (zeroed fv fs 5) (zeroed fv fs 6) 0 0 0 0 0 0 0 wr
      go_wp2_with fail
      go_ret
      exact ⟨ret_bool (by simp [Bool.and_assoc]), hB⟩
end Go.Proofs.Ytpeeaapheohehaa
