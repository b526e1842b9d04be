/- The statement EntryRight: for every input the Go function answers true, and each argument reads behind the call as it read before. No conditions. -/
import Derived.Test.YtpeeaapheohehaaFrame
import Derived.Test.YtpeeaapheohehaaEnRightLaw

namespace Go.Proofs.Ytpeeaapheohehaa.entryRight
open Go.ChangeShapes Go.WideShapes Go.ChangeAt Go.RowKit
set_option linter.unusedVariables false
set_option linter.unusedSimpArgs false

set_option maxRecDepth 100000 in
theorem lifted (os : Os) (started : os.Started) (H : Type) (enc : TypeId × Value → H) :
    ReturnsInHanded {} Try.checked os 12 .any (Rows.entryRightSpec.pre6 enc Try.prog Try.f12 Rows.entryRightRow.domain false) (Rows.entryRightSpec.post enc Try.prog Try.f12 false true false false) := by
  refine returnsInHanded_of_change (C := Try.checked) own started (by kernel_rfl) Try.func12
    (ChangeSpec.witness6 (enc := enc) (C := Try.checked) false ⟨#[], #[.agg #[.int .i64 0, .int .i64 0, .int .i64 0], .agg #[.int .i64 0, .int .i64 0, .int .i64 0, .int .i64 0, .int .i64 0, .int .i64 0, .int .i64 0, .int .i64 0]], []⟩ 8 (by kernel_rfl) (by kernel_rfl) (by kernel_rfl) (by kernel_rfl)) ?_
  intro W base args ds gs before hval0 hW hcnd _
  have hval : ∀ (j : Nat) t v, Try.f12.params[j]? = some t → args[j]? = some v → Value.okWide Try.prog W .any base t v := hval0
  have hW' := hW
  obtain ⟨p, q, hA0, hV, rfl, hfz, hnd⟩ := hW
  have hA : DataW.TrodAll enc Try.prog W 0 (fun _ => true) true Try.f12.params.toList args.toList ds p := hA0
  rw [Try.params12] at hA hval
  obtain ⟨v0, vs0, d0, ds0, p0, q0, hargs, rfl, rfl, h0, r0⟩ := trodAll_cons hA
  obtain ⟨v1, vs1, d1, ds1, p1, q1, rfl, rfl, rfl, h1, r1⟩ := trodAll_cons r0
  obtain ⟨rfl, rfl, rfl⟩ := trodAll_nil r1
  obtain rfl : args = #[v0, v1] := by cases args; simp_all
  obtain ⟨rfl, rfl⟩ := trodVars_none hV
  have k0 := h0
  have lt0 : ∀ x ∈ p0, x.block < W.heap.size := by obtain ⟨m, hm⟩ := k0; exact DataW.trod_lt m _ _ _ hm
  have k1 := h1
  have lt1 : ∀ x ∈ p1, x.block < W.heap.size := by obtain ⟨m, hm⟩ := k1; exact DataW.trod_lt m _ _ _ hm
  obtain ⟨cs0, rfl, hz0⟩ := okWide_struct Try.underlying23 (hval 0 23 v0 rfl rfl)
  rw [show Try.prog.cellsOf 23 = 3 by kernel_rfl] at hz0
  obtain ⟨c0_0, c0_1, c0_2, rfl⟩ := arr3 hz0
  obtain ⟨u0, hu0⟩ := h0
  obtain ⟨m0, hm0⟩ := fieldRead Try.underlying23 hu0
  obtain ⟨y0_0, hy0_0⟩ := hm0 0 _ rfl
  simp only [List.getElem_toArray, List.getElem_cons_zero, List.getElem_cons_succ, show Try.prog.cellsOf 3 = 1 by kernel_rfl] at hy0_0
  obtain ⟨n0_0, e0_0, _, w0_0⟩ := DataW.trod_int Try.underlying3 hy0_0
  obtain rfl : c0_0 = .int .i64 n0_0 := by simpa [Value.cells] using e0_0
  obtain ⟨b0_0, q0_0⟩ := int_i64 w0_0
  obtain ⟨y0_1, hy0_1⟩ := hm0 1 _ rfl
  simp only [List.getElem_toArray, List.getElem_cons_zero, List.getElem_cons_succ, show Try.prog.cellsOf 3 = 1 by kernel_rfl] at hy0_1
  obtain ⟨n0_1, e0_1, _, w0_1⟩ := DataW.trod_int Try.underlying3 hy0_1
  obtain rfl : c0_1 = .int .i64 n0_1 := by simpa [Value.cells] using e0_1
  obtain ⟨b0_1, q0_1⟩ := int_i64 w0_1
  obtain ⟨y0_2, hy0_2⟩ := hm0 2 _ rfl
  simp only [List.getElem_toArray, List.getElem_cons_zero, List.getElem_cons_succ, show Try.prog.cellsOf 3 = 1 by kernel_rfl] at hy0_2
  obtain ⟨n0_2, e0_2, _, w0_2⟩ := DataW.trod_int Try.underlying3 hy0_2
  obtain rfl : c0_2 = .int .i64 n0_2 := by simpa [Value.cells] using e0_2
  obtain ⟨b0_2, q0_2⟩ := int_i64 w0_2
  obtain ⟨cs1, rfl, hz1⟩ := okWide_struct Try.underlying32 (hval 1 32 v1 rfl rfl)
  rw [show Try.prog.cellsOf 32 = 8 by kernel_rfl] at hz1
  obtain ⟨c1_0, c1_1, c1_2, c1_3, c1_4, c1_5, c1_6, c1_7, rfl⟩ := arr8 hz1
  obtain ⟨u1, hu1⟩ := h1
  obtain ⟨m1, hm1⟩ := fieldRead Try.underlying32 hu1
  obtain ⟨y1_0, hy1_0⟩ := hm1 0 _ rfl
  simp only [List.getElem_toArray, List.getElem_cons_zero, List.getElem_cons_succ, show Try.prog.cellsOf 3 = 1 by kernel_rfl] at hy1_0
  obtain ⟨n1_0, e1_0, _, w1_0⟩ := DataW.trod_int Try.underlying3 hy1_0
  obtain rfl : c1_0 = .int .i64 n1_0 := by simpa [Value.cells] using e1_0
  obtain ⟨b1_0, q1_0⟩ := int_i64 w1_0
  obtain ⟨y1_1, hy1_1⟩ := hm1 1 _ rfl
  simp only [List.getElem_toArray, List.getElem_cons_zero, List.getElem_cons_succ, show Try.prog.cellsOf 3 = 1 by kernel_rfl] at hy1_1
  obtain ⟨n1_1, e1_1, _, w1_1⟩ := DataW.trod_int Try.underlying3 hy1_1
  obtain rfl : c1_1 = .int .i64 n1_1 := by simpa [Value.cells] using e1_1
  obtain ⟨b1_1, q1_1⟩ := int_i64 w1_1
  obtain ⟨y1_2, hy1_2⟩ := hm1 2 _ rfl
  simp only [List.getElem_toArray, List.getElem_cons_zero, List.getElem_cons_succ, show Try.prog.cellsOf 3 = 1 by kernel_rfl] at hy1_2
  obtain ⟨n1_2, e1_2, _, w1_2⟩ := DataW.trod_int Try.underlying3 hy1_2
  obtain rfl : c1_2 = .int .i64 n1_2 := by simpa [Value.cells] using e1_2
  obtain ⟨b1_2, q1_2⟩ := int_i64 w1_2
  obtain ⟨y1_3, hy1_3⟩ := hm1 3 _ rfl
  simp only [List.getElem_toArray, List.getElem_cons_zero, List.getElem_cons_succ, show Try.prog.cellsOf 30 = 3 by kernel_rfl] at hy1_3
  obtain ⟨m1_3, hm1_3⟩ := fieldRead Try.underlying30 hy1_3
  obtain ⟨y1_3_0, hy1_3_0⟩ := hm1_3 0 _ rfl
  simp only [List.getElem_toArray, List.getElem_cons_zero, List.getElem_cons_succ, show Try.prog.cellsOf 3 = 1 by kernel_rfl] at hy1_3_0
  obtain ⟨n1_3_0, e1_3_0, _, w1_3_0⟩ := DataW.trod_int Try.underlying3 hy1_3_0
  obtain rfl : c1_3 = .int .i64 n1_3_0 := by simpa [Value.cells] using e1_3_0
  obtain ⟨b1_3_0, q1_3_0⟩ := int_i64 w1_3_0
  obtain ⟨y1_3_1, hy1_3_1⟩ := hm1_3 1 _ rfl
  simp only [List.getElem_toArray, List.getElem_cons_zero, List.getElem_cons_succ, show Try.prog.cellsOf 2 = 1 by kernel_rfl] at hy1_3_1
  obtain ⟨n1_3_1, e1_3_1, _, w1_3_1⟩ := DataW.trod_int Try.underlying2 hy1_3_1
  obtain rfl : c1_4 = .int .i64 n1_3_1 := by simpa [Value.cells] using e1_3_1
  obtain ⟨b1_3_1, q1_3_1⟩ := int_i64 w1_3_1
  obtain ⟨y1_3_2, hy1_3_2⟩ := hm1_3 2 _ rfl
  simp only [List.getElem_toArray, List.getElem_cons_zero, List.getElem_cons_succ, show Try.prog.cellsOf 2 = 1 by kernel_rfl] at hy1_3_2
  obtain ⟨n1_3_2, e1_3_2, _, w1_3_2⟩ := DataW.trod_int Try.underlying2 hy1_3_2
  obtain rfl : c1_5 = .int .i64 n1_3_2 := by simpa [Value.cells] using e1_3_2
  obtain ⟨b1_3_2, q1_3_2⟩ := int_i64 w1_3_2
  obtain ⟨y1_4, hy1_4⟩ := hm1 4 _ rfl
  simp only [List.getElem_toArray, List.getElem_cons_zero, List.getElem_cons_succ, show Try.prog.cellsOf 3 = 1 by kernel_rfl] at hy1_4
  obtain ⟨n1_4, e1_4, _, w1_4⟩ := DataW.trod_int Try.underlying3 hy1_4
  obtain rfl : c1_6 = .int .i64 n1_4 := by simpa [Value.cells] using e1_4
  obtain ⟨b1_4, q1_4⟩ := int_i64 w1_4
  obtain ⟨y1_5, hy1_5⟩ := hm1 5 _ rfl
  simp only [List.getElem_toArray, List.getElem_cons_zero, List.getElem_cons_succ, show Try.prog.cellsOf 3 = 1 by kernel_rfl] at hy1_5
  obtain ⟨n1_5, e1_5, _, w1_5⟩ := DataW.trod_int Try.underlying3 hy1_5
  obtain rfl : c1_7 = .int .i64 n1_5 := by simpa [Value.cells] using e1_5
  obtain ⟨b1_5, q1_5⟩ := int_i64 w1_5
  clear hA0 hval0
  refine (lawEntryRight W n0_0 n0_1 n0_2 n1_0 n1_1 n1_2 n1_3_0 n1_3_1 n1_3_2 n1_4 n1_5 b0_0 q0_0 b0_1 q0_1 b0_2 q0_2 b1_0 q1_0 b1_1 q1_1 b1_2 q1_2 b1_3_0 q1_3_0 b1_3_1 q1_3_1 b1_3_2 q1_3_2 b1_4 q1_4 b1_5 q1_5).mono fun e W' ⟨he, bel⟩ => ?_
  subst he
  exact ⟨_, rfl, _, _, _, [], _, [], hW', trodAll_mk1 (shut_bool Try.underlying4 _), (trodAll_cons_mk (Below.trod laidOut (by kernel_rfl) (of_decide_eq_true (by kernel_rfl)) k0 bel lt0) (trodAll_cons_mk (Below.trod laidOut (by kernel_rfl) (of_decide_eq_true (by kernel_rfl)) k1 bel lt1) trodAll_mk0)), rfl, bel.frame _, fun h => by cases h⟩

theorem over : Rows.entryRightRow.holds Try.pinned (OpenSpec.ofChange Rows.entryRightSpec) :=
  OpenClaim.holds_of_wide 12 Try.f12 rfl rfl rfl rfl rfl rfl rfl ⟨rfl, rfl, rfl, rfl, rfl⟩ rfl rfl rfl rfl rfl (by kernel_rfl) Try.func12 (by kernel_rfl)
    (of_decide_eq_true (by kernel_rfl)) (by unfold Func.isWrapper; first | (rw [if_pos (by decide +kernel)]; kernel_rfl) | (rw [if_neg (by decide +kernel)]; exact ⟨rfl, rfl⟩))
    (fun os started H enc _ => lifted os started H enc)

theorem proved : Rows.EntryRightSaid := over
#print axioms proved
end Go.Proofs.Ytpeeaapheohehaa.entryRight
