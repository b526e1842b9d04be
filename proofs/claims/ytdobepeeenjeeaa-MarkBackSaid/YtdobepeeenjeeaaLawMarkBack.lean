/- The statement MarkBack: for every input the Go function answers true, and each argument reads behind the call as it read before. No conditions. -/
import Derived.Test.YtdobepeeenjeeaaFrame
import Derived.Test.YtdobepeeenjeeaaMarkBack
namespace Go.Proofs.Ytdobepeeenjeeaa.markBack
open Go.ChangeShapes Go.WideShapes Go.ChangeAt Go.RowKit
set_option linter.unusedVariables false
set_option linter.unusedSimpArgs false

set_option maxRecDepth 100000 in
theorem lifted (os : Os) (started : os.Started) (H : Type) (enc : TypeId × Value → H) :
    ReturnsInHanded {} Try.checked os 14 .any (Rows.markBackSpec.pre6 enc Try.prog Try.f14 Rows.markBackRow.domain false) (Rows.markBackSpec.post enc Try.prog Try.f14 false true false false) := by
  refine returnsInHanded_of_change (C := Try.checked) own started (by kernel_rfl) Try.func14
    (ChangeSpec.witness6 (enc := enc) (C := Try.checked) false ⟨#[], #[.int .u64 0, .agg #[.int .u32 0, .bool false, .int .i64 0], .agg #[.int .i64 0, .int .u32 0]], []⟩ 8 (by kernel_rfl) (by kernel_rfl) (by kernel_rfl) (by kernel_rfl)) ?_
  intro W base args ds gs before hval0 hW hcnd _
  have hval : ∀ (j : Nat) t v, Try.f14.params[j]? = some t → args[j]? = some v → Value.okWide Try.prog W .any base t v := hval0
  have hW' := hW
  obtain ⟨p, q, hA0, hV, rfl, hfz, hnd⟩ := hW
  have hA : DataW.TrodAll enc Try.prog W 0 (fun _ => true) true Try.f14.params.toList args.toList ds p := hA0
  rw [Try.params14] at hA hval
  obtain ⟨v0, vs0, d0, ds0, p0, q0, hargs, rfl, rfl, h0, r0⟩ := trodAll_cons hA
  obtain ⟨v1, vs1, d1, ds1, p1, q1, rfl, rfl, rfl, h1, r1⟩ := trodAll_cons r0
  obtain ⟨v2, vs2, d2, ds2, p2, q2, rfl, rfl, rfl, h2, r2⟩ := trodAll_cons r1
  obtain ⟨rfl, rfl, rfl⟩ := trodAll_nil r2
  obtain rfl : args = #[v0, v1, v2] := by cases args; simp_all
  obtain ⟨rfl, rfl⟩ := trodVars_none hV
  have k0 := h0
  have lt0 : ∀ x ∈ p0, x.block < W.heap.size := by obtain ⟨m, hm⟩ := k0; exact DataW.trod_lt m _ _ _ hm
  have k1 := h1
  have lt1 : ∀ x ∈ p1, x.block < W.heap.size := by obtain ⟨m, hm⟩ := k1; exact DataW.trod_lt m _ _ _ hm
  have k2 := h2
  have lt2 : ∀ x ∈ p2, x.block < W.heap.size := by obtain ⟨m, hm⟩ := k2; exact DataW.trod_lt m _ _ _ hm
  obtain ⟨n0, rfl, rfl, rfl, w0⟩ := open_int Try.underlying25 (hval 0 25 v0 rfl rfl) h0
  obtain ⟨n0, rfl, b0⟩ := nat_u64 w0
  obtain ⟨cs1, rfl, hz1⟩ := okWide_struct Try.underlying61 (hval 1 61 v1 rfl rfl)
  rw [show Try.prog.cellsOf 61 = 3 by kernel_rfl] at hz1
  obtain ⟨c1_0, c1_1, c1_2, rfl⟩ := arr3 hz1
  obtain ⟨u1, hu1⟩ := h1
  obtain ⟨m1, hm1⟩ := fieldRead Try.underlying61 hu1
  obtain ⟨y1_0, hy1_0⟩ := hm1 0 _ rfl
  simp only [List.getElem_toArray, List.getElem_cons_zero, List.getElem_cons_succ, show Try.prog.cellsOf 23 = 1 by kernel_rfl] at hy1_0
  obtain ⟨n1_0, e1_0, _, w1_0⟩ := DataW.trod_int Try.underlying23 hy1_0
  obtain rfl : c1_0 = .int .u32 n1_0 := by simpa [Value.cells] using e1_0
  obtain ⟨n1_0, rfl, b1_0⟩ := nat_u32 w1_0
  obtain ⟨y1_1, hy1_1⟩ := hm1 1 _ rfl
  simp only [List.getElem_toArray, List.getElem_cons_zero, List.getElem_cons_succ, show Try.prog.cellsOf 4 = 1 by kernel_rfl] at hy1_1
  obtain ⟨n1_1, e1_1, _⟩ := DataW.trod_bool Try.underlying4 hy1_1
  obtain rfl : c1_1 = .bool n1_1 := by simpa [Value.cells] using e1_1
  obtain ⟨y1_2, hy1_2⟩ := hm1 2 _ rfl
  simp only [List.getElem_toArray, List.getElem_cons_zero, List.getElem_cons_succ, show Try.prog.cellsOf 3 = 1 by kernel_rfl] at hy1_2
  obtain ⟨n1_2, e1_2, _, w1_2⟩ := DataW.trod_int Try.underlying3 hy1_2
  obtain rfl : c1_2 = .int .i64 n1_2 := by simpa [Value.cells] using e1_2
  obtain ⟨b1_2, q1_2⟩ := int_i64 w1_2
  obtain ⟨cs2, rfl, hz2⟩ := okWide_struct Try.underlying70 (hval 2 70 v2 rfl rfl)
  rw [show Try.prog.cellsOf 70 = 2 by kernel_rfl] at hz2
  obtain ⟨c2_0, c2_1, rfl⟩ := arr2 hz2
  obtain ⟨u2, hu2⟩ := h2
  obtain ⟨m2, hm2⟩ := fieldRead Try.underlying70 hu2
  obtain ⟨y2_0, hy2_0⟩ := hm2 0 _ rfl
  simp only [List.getElem_toArray, List.getElem_cons_zero, List.getElem_cons_succ, show Try.prog.cellsOf 3 = 1 by kernel_rfl] at hy2_0
  obtain ⟨n2_0, e2_0, _, w2_0⟩ := DataW.trod_int Try.underlying3 hy2_0
  obtain rfl : c2_0 = .int .i64 n2_0 := by simpa [Value.cells] using e2_0
  obtain ⟨b2_0, q2_0⟩ := int_i64 w2_0
  obtain ⟨y2_1, hy2_1⟩ := hm2 1 _ rfl
  simp only [List.getElem_toArray, List.getElem_cons_zero, List.getElem_cons_succ, show Try.prog.cellsOf 23 = 1 by kernel_rfl] at hy2_1
  obtain ⟨n2_1, e2_1, _, w2_1⟩ := DataW.trod_int Try.underlying23 hy2_1
  obtain rfl : c2_1 = .int .u32 n2_1 := by simpa [Value.cells] using e2_1
  obtain ⟨n2_1, rfl, b2_1⟩ := nat_u32 w2_1
  clear hA0 hval0
  refine (lawMarkBack W n0 n1_0 n1_1 n1_2 n2_0 n2_1 b0 b1_0 b1_2 q1_2 b2_0 q2_0 b2_1).mono fun e W' ⟨he, bel⟩ => ?_
  subst he
  exact ⟨_, rfl, _, _, _, [], _, [], hW', trodAll_mk1 (shut_bool Try.underlying4 _), (trodAll_cons_mk (Below.trod laidOut (by kernel_rfl) (of_decide_eq_true (by kernel_rfl)) k0 bel lt0) (trodAll_cons_mk (Below.trod laidOut (by kernel_rfl) (of_decide_eq_true (by kernel_rfl)) k1 bel lt1) (trodAll_cons_mk (Below.trod laidOut (by kernel_rfl) (of_decide_eq_true (by kernel_rfl)) k2 bel lt2) trodAll_mk0))), rfl, bel.frame _, fun h => by cases h⟩

theorem over : Rows.markBackRow.holds Try.pinned (OpenSpec.ofChange Rows.markBackSpec) :=
  OpenClaim.holds_of_wide 14 Try.f14 rfl rfl rfl rfl rfl rfl rfl ⟨rfl, rfl, rfl, rfl, rfl⟩ rfl rfl rfl rfl rfl (by kernel_rfl) Try.func14 (by kernel_rfl)
    (of_decide_eq_true (by kernel_rfl)) (by unfold Func.isWrapper; first | (rw [if_pos (by decide +kernel)]; kernel_rfl) | (rw [if_neg (by decide +kernel)]; exact ⟨rfl, rfl⟩))
    (fun os started H enc _ => lifted os started H enc)

theorem proved : Rows.MarkBackSaid := over
#print axioms proved
end Go.Proofs.Ytdobepeeenjeeaa.markBack
