/- The statement CallResolves: for every input the Go function answers true, and each argument reads behind the call as it read before. No conditions. -/
import Derived.Test.YtkkhoiahjmfibaaResolveAll
import Derived.Test.YtkkhoiahjmfibaaLive28
import Derived.Test.YtkkhoiahjmfibaaFrame
namespace Go.Proofs.Ytkkhoiahjmfibaa
open Go.RowKit
set_option linter.unusedVariables false
set_option linter.unusedSimpArgs false

theorem said_form (t p u : Int) (ws : List Nat) (num : Int) : ∃ k a b c, saidV t p u ws num = .tuple #[.agg #[.int .i64 k, .int .i64 a, .int .i64 b], .bool c] := by
  unfold saidV
  repeat' split
  · exact ⟨_, _, _, _, rfl⟩
  · exact ofForm3 _ _ _
  · exact ofForm3 _ _ _
  · exact ⟨_, _, _, _, rfl⟩
theorem vals_settled {t p s : Int} {ws vs : List Nat} (h : settleO t p ws = some vs) (hr : rightC t p s = true) : (vs.length : Int) = cellsN t p ∧ Fit 4294967296 vs := by
  obtain ⟨⟨g1, g2⟩, ⟨g3, g4⟩, g5, g6⟩ := rightC_of hr
  unfold settleO at h
  cases hs : settledO t p ws with
  | none => rw [hs] at h; cases h
  | some r =>
    rw [hs] at h
    simp only [Option.map_some, Option.some.injEq] at h
    subst h
    refine ⟨by simp [valsOf]; unfold cellsN; omega, fun x hx => ?_⟩
    simp only [valsOf, List.mem_map] at hx
    obtain ⟨k, _, rfl⟩ := hx
    omega
/-- What became of a number, of any words: both say the same. -/
theorem resTwin (t p s u : Int) (len : Nat) (ws : List Nat) (hf : Fit 18446744073709551616 ws) (num : Int) :
    ∃ B0 B1 B2 B3 B4 B5 B6 : Int, (∀ (w : World) (a : Option Addr) (cap : Nat), Seen .u64 w a len cap ws → Calls Try.prog 31 #[.agg #[.int .i64 t, .int .i64 p, .int .i64 s], .slice a len cap, .int .i64 u, .int .i64 num] w fun e w' => e = .returned (.agg #[.int .i64 B0, .int .i64 B1, .int .i64 B2, .int .i64 B3, .int .i64 B4, .int .i64 B5, .int .i64 B6]) ∧ Below w.heap.size w w') ∧
      (∀ (w : World) (a : Option Addr) (cap : Nat), Seen .u64 w a len cap ws → Calls Try.prog 32 #[.agg #[.int .i64 t, .int .i64 p, .int .i64 s], .slice a len cap, .int .i64 u, .int .i64 num] w fun e w' => e = .returned (.agg #[.int .i64 B0, .int .i64 B1, .int .i64 B2, .int .i64 B3, .int .i64 B4, .int .i64 B5, .int .i64 B6]) ∧ Below w.heap.size w w') := by
  by_cases hr : okW t p s len ∧ 0 ≤ u ∧ u < t
  · obtain ⟨ho, h0, h1⟩ := hr
    have SP : ∀ (w : World) (a : Option Addr) (cap : Nat), Seen .u64 w a len cap ws → RowKit.Hid (∀ w', Below w.heap.size w w' → Calls Try.prog 18 #[.agg #[.int .i64 t, .int .i64 p, .int .i64 s], .slice a len cap] w' (OptPost 25 .u32 w' (settleO t p ws))) := fun w a cap hs => hid fun w' hb => redoSettle t p s w' a len cap ws (hs.below hb) hf ho
    have SR : ∀ (w : World) (a : Option Addr) (cap : Nat), Seen .u64 w a len cap ws → RowKit.Hid (∀ w', Below w.heap.size w w' → Calls Try.prog 72 #[.agg #[.int .i64 t, .int .i64 p, .int .i64 s], .slice a len cap] w' (OptPost 25 .u32 w' (settleO t p ws))) := fun w a cap hs => hid fun w' hb => refSettle27 t p s w' a len cap ws (hs.below hb) hf ho
    by_cases hn : num < 1 ∨ num ≠ (lastN t p u ws : Int)
    · refine ⟨0, 0, 0, 0, 0, 0, 0, fun w a cap hs => ?_, fun w a cap hs => refResolveOther t p s u w a len cap ws num hs ho h0 h1 hn⟩
      have hS := SP w a cap hs
      cases hset : settleO t p ws with
      | none => rw [hset] at hS; exact callResolveNone t p s u w a len cap ws num hS hs ho h0 h1
      | some vs => rw [hset] at hS; exact callResolveOther t p s u w a len cap ws num vs hS hs ho h0 h1 hn
    · have hl : num = (lastN t p u ws : Int) := by omega
      have hn1 : 1 ≤ num := by omega
      obtain ⟨ok, oa, ob, oc, hsv⟩ := said_form t p u ws num
      cases hset : settleO t p ws with
      | none =>
        rw [hset] at SP SR
        exact ⟨0, 0, 0, 0, 0, 0, 0, fun w a cap hs => callResolveNone t p s u w a len cap ws num (SP w a cap hs) hs ho h0 h1, fun w a cap hs => refResolveNone t p s u w a len cap ws num (SR w a cap hs) hs ho h0 h1 hn1 hl⟩
      | some vs =>
        rw [hset] at SP SR
        obtain ⟨v1, v2⟩ := vals_settled hset ho.1
        by_cases hd : (dvN u vs 0 : Int) = num
        · exact ⟨_, _, _, _, _, _, _, fun w a cap hs => callResolveDone t p s u w a len cap ws num vs ok oa ob oc (SP w a cap hs) hs ho h0 h1 hn1 hl v1 v2 hsv hd, fun w a cap hs => refResolveDone t p s u w a len cap ws num vs ok oa ob oc (SR w a cap hs) hs hf ho h0 h1 hn1 hl v1 v2 hsv hd⟩
        · exact ⟨_, _, _, _, _, _, _, fun w a cap hs => callResolveNot t p s u w a len cap ws num vs ok oa ob oc (SP w a cap hs) hs ho h0 h1 hn1 hl v1 v2 hsv hd, fun w a cap hs => refResolveNot t p s u w a len cap ws num vs ok oa ob oc (SR w a cap hs) hs hf ho h0 h1 hn1 hl v1 v2 hsv hd⟩
  · refine ⟨0, 0, 0, 0, 0, 0, 0, fun w a cap hs => ?_, fun w a cap hs => refResolveOut t p s u w a len cap ws num ⟨hs.2.1, hs.2.2.1⟩ hr⟩
    by_cases ho : okW t p s len
    · exact callResolveOut t p s u w a len cap ws num _ (hid fun w' hb => redoSettle t p s w' a len cap ws (hs.below hb) hf ho) ⟨hs.2.1, hs.2.2.1⟩ hr
    · exact callResolveOut t p s u w a len cap ws num _ (hid fun w' hb => redoSettleNo t p s w' a len cap ws ho) ⟨hs.2.1, hs.2.2.1⟩ hr

set_option maxRecDepth 100000 in
theorem callResolvesBig (w : World) (t p s : Int) (a : Option Addr) (len cap : Nat) (u num ok oa ob : Int) (hl1 : len ≤ cap) (hl2 : cap ≤ maxLen) (hf : 3000 < len) :
    Calls Try.prog 7 #[.agg #[.int .i64 t, .int .i64 p, .int .i64 s], .slice a len cap, .agg #[.int .i64 u, .int .i64 num, .int .i64 ok, .int .i64 oa, .int .i64 ob]] w fun e w' => e = .returned (.bool true) ∧ Below w.heap.size w w' := by
  go_enter Try.func7, Try.ntmps7
  go_wp2_with fail
  refine (live28 _).mono ?_
  rintro e w2 ⟨rfl, hb2⟩
  go_wp2_with fail
  go_ret
  exact ⟨rfl, bel⟩

set_option maxRecDepth 100000 in
set_option maxHeartbeats 3200000 in
theorem callResolvesFew (w : World) (t p s : Int) (a : Option Addr) (len cap : Nat) (ws : List Nat) (u num ok oa ob : Int) (hs : Seen .u64 w a len cap ws) (hf : Fit 18446744073709551616 ws) (hlen : len ≤ 3000) :
    Calls Try.prog 7 #[.agg #[.int .i64 t, .int .i64 p, .int .i64 s], .slice a len cap, .agg #[.int .i64 u, .int .i64 num, .int .i64 ok, .int .i64 oa, .int .i64 ob]] w fun e w' => e = .returned (.bool true) ∧ Below w.heap.size w w' := by
  obtain ⟨B0, B1, B2, B3, B4, B5, B6, HP, HR⟩ := resTwin t p s u len ws hf num
  have hl1 := hs.2.1
  have hl2 : cap ≤ maxLen := hs.2.2.1
  have PX := hid fun w' (h : Below w.heap.size w w') => HP w' a cap (hs.below h)
  have PY := hid fun w' (h : Below w.heap.size w w') => HR w' a cap (hs.below h)
  have hx := extCell
  clear HP HR hs hf
  go_enter Try.func7, Try.ntmps7
  go_wp2_with fail
  have hB0 : Below w.heap.size w ((w.alloc (.cells #[.int .i64 t, .int .i64 p, .int .i64 s] 23)).alloc (.cells #[.int .i64 u, .int .i64 num, .int .i64 ok, .int .i64 oa, .int .i64 ob] 57)) := ((Below.refl _ _).alloc (Nat.le_refl _) _).alloc (by simp) _
  refine regionBelow (by kernel_rfl) (by kernel_rfl) ?_
  repeat (go_big_quiet_step (first | (go_at_call 31; exact quietBelow (PX.out _ (hB0.trans ((Ext.below _).mono (by simp; omega))))) | (go_at_call 32; exact quietBelow (PY.out _ (hB0.trans ((Ext.below _).mono (by simp; omega))))) | (go_at_call 24; exact quietBelow (live28 _))))
  refine wpQuiet_nil ?_
  intro _ hw'
  obtain ⟨nq, hw''⟩ := hw'
  subst hw''
  have hn2 := nq.below
  have hB6 : Below w.heap.size w nq.to := hB0.trans (hn2.mono (by simp; omega))
  clear hn2
  go_wp2_with fail
  go_ret
  exact ⟨rfl, hB6⟩

theorem lawCallResolves (w : World) (t p s : Int) (a : Option Addr) (len cap : Nat) (ws : List Nat) (u num ok oa ob : Int)
    (_ : -9223372036854775808 ≤ t) (_ : t ≤ 9223372036854775807) (_ : -9223372036854775808 ≤ p) (_ : p ≤ 9223372036854775807) (_ : -9223372036854775808 ≤ s) (_ : s ≤ 9223372036854775807) (hs : Seen .u64 w a len cap ws) (hf : Fit 18446744073709551616 ws)
    (_ : -9223372036854775808 ≤ u) (_ : u ≤ 9223372036854775807) (_ : -9223372036854775808 ≤ num) (_ : num ≤ 9223372036854775807) (_ : -9223372036854775808 ≤ ok) (_ : ok ≤ 9223372036854775807) (_ : -9223372036854775808 ≤ oa) (_ : oa ≤ 9223372036854775807) (_ : -9223372036854775808 ≤ ob) (_ : ob ≤ 9223372036854775807) :
    Calls Try.prog 7 #[.agg #[.int .i64 t, .int .i64 p, .int .i64 s], .slice a len cap, .agg #[.int .i64 u, .int .i64 num, .int .i64 ok, .int .i64 oa, .int .i64 ob]] w fun e w' => e = .returned (.bool true) ∧ Below w.heap.size w w' := by
  by_cases hl : 3000 < len
  · exact callResolvesBig w t p s a len cap u num ok oa ob hs.2.1 hs.2.2.1 hl
  · exact callResolvesFew w t p s a len cap ws u num ok oa ob hs hf (by omega)
end Go.Proofs.Ytkkhoiahjmfibaa

namespace Go.Proofs.Ytkkhoiahjmfibaa.callResolves
open Go.ChangeShapes Go.WideShapes Go.ChangeAt Go.RowKit
set_option linter.unusedVariables false
set_option linter.unusedSimpArgs false

set_option maxRecDepth 100000 in
theorem lifted (os : Os) (started : os.Started) (H : Type) (enc : TypeId × Value → H) :
    ReturnsInHanded {} Try.checked os 7 .any (Rows.callResolvesSpec.pre6 enc Try.prog Try.f7 Rows.callResolvesRow.domain false) (Rows.callResolvesSpec.post enc Try.prog Try.f7 false true false false) := by
  refine returnsInHanded_of_change (C := Try.checked) own started (by kernel_rfl) Try.func7
    (ChangeSpec.witness6 (enc := enc) (C := Try.checked) false ⟨#[], #[.agg #[.int .i64 0, .int .i64 0, .int .i64 0], .slice none 0 0, .agg #[.int .i64 0, .int .i64 0, .int .i64 0, .int .i64 0, .int .i64 0]], []⟩ 8 (by kernel_rfl) (by kernel_rfl) (by kernel_rfl) (by kernel_rfl)) ?_
  intro W base args ds gs before hval0 hW hcnd _
  have hval : ∀ (j : Nat) t v, Try.f7.params[j]? = some t → args[j]? = some v → Value.okWide Try.prog W .any base t v := hval0
  have hW' := hW
  obtain ⟨p, q, hA0, hV, rfl, hfz, hnd⟩ := hW
  have hA : DataW.TrodAll enc Try.prog W 0 (fun _ => true) true Try.f7.params.toList args.toList ds p := hA0
  rw [Try.params7] at hA hval
  obtain ⟨v0, vs0, d0, ds0, p0, q0, hargs, rfl, rfl, h0, r0⟩ := trodAll_cons hA
  obtain ⟨v1, vs1, d1, ds1, p1, q1, rfl, rfl, rfl, h1, r1⟩ := trodAll_cons r0
  obtain ⟨v2, vs2, d2, ds2, p2, q2, rfl, rfl, rfl, h2, r2⟩ := trodAll_cons r1
  obtain ⟨rfl, rfl, rfl⟩ := trodAll_nil r2
  obtain rfl : args = #[v0, v1, v2] := by cases args; simp_all
  obtain ⟨rfl, rfl⟩ := trodVars_none hV
  have k0 := h0
  have lt0 : ∀ x ∈ p0, x.block < W.heap.size := by obtain ⟨m, hm⟩ := k0; exact DataW.trod_lt m _ _ _ hm
  have k1 := h1
  have lt1 : ∀ x ∈ p1, x.block < W.heap.size := by obtain ⟨m, hm⟩ := k1; exact DataW.trod_lt m _ _ _ hm
  have k2 := h2
  have lt2 : ∀ x ∈ p2, x.block < W.heap.size := by obtain ⟨m, hm⟩ := k2; exact DataW.trod_lt m _ _ _ hm
  obtain ⟨cs0, rfl, hz0⟩ := okWide_struct Try.underlying23 (hval 0 23 v0 rfl rfl)
  rw [show Try.prog.cellsOf 23 = 3 by kernel_rfl] at hz0
  obtain ⟨c0_0, c0_1, c0_2, rfl⟩ := arr3 hz0
  obtain ⟨u0, hu0⟩ := h0
  obtain ⟨m0, hm0⟩ := fieldRead Try.underlying23 hu0
  obtain ⟨y0_0, hy0_0⟩ := hm0 0 _ rfl
  simp only [List.getElem_toArray, List.getElem_cons_zero, List.getElem_cons_succ, show Try.prog.cellsOf 3 = 1 by kernel_rfl] at hy0_0
  obtain ⟨n0_0, e0_0, _, w0_0⟩ := DataW.trod_int Try.underlying3 hy0_0
  obtain rfl : c0_0 = .int .i64 n0_0 := by simpa [Value.cells] using e0_0
  obtain ⟨b0_0, q0_0⟩ := int_i64 w0_0
  obtain ⟨y0_1, hy0_1⟩ := hm0 1 _ rfl
  simp only [List.getElem_toArray, List.getElem_cons_zero, List.getElem_cons_succ, show Try.prog.cellsOf 3 = 1 by kernel_rfl] at hy0_1
  obtain ⟨n0_1, e0_1, _, w0_1⟩ := DataW.trod_int Try.underlying3 hy0_1
  obtain rfl : c0_1 = .int .i64 n0_1 := by simpa [Value.cells] using e0_1
  obtain ⟨b0_1, q0_1⟩ := int_i64 w0_1
  obtain ⟨y0_2, hy0_2⟩ := hm0 2 _ rfl
  simp only [List.getElem_toArray, List.getElem_cons_zero, List.getElem_cons_succ, show Try.prog.cellsOf 3 = 1 by kernel_rfl] at hy0_2
  obtain ⟨n0_2, e0_2, _, w0_2⟩ := DataW.trod_int Try.underlying3 hy0_2
  obtain rfl : c0_2 = .int .i64 n0_2 := by simpa [Value.cells] using e0_2
  obtain ⟨b0_2, q0_2⟩ := int_i64 w0_2
  obtain ⟨a1, len1, cap1, rfl⟩ := okWide_slice Try.underlying24 (hval 1 24 v1 rfl rfl)
  obtain ⟨xs1, s1, f1⟩ : ∃ xs, Seen .u64 W a1 len1 cap1 xs ∧ Fit 18446744073709551616 xs := by
    obtain ⟨fuel, hf⟩ := h1
    rcases open_ints Try.underlying24 Try.underlying46 (by kernel_rfl) hf with ⟨hcs, _⟩ | ⟨x, l, c, zs, hcs, _, hl, hm, hz, _, hcell, hwz⟩
    · simp [Value.cells] at hcs
      obtain ⟨rfl, rfl, rfl⟩ := hcs
      exact ⟨[], Seen.empty _ _ _ _ (by decide) (fun _ => rfl), fun x hx => by cases hx⟩
    · simp [Value.cells] at hcs
      obtain ⟨rfl, rfl, rfl⟩ := hcs
      exact seen_of_row hl hm (by simpa using hz) hcell (fun n hn => nat_u64 (hwz n hn))
  obtain ⟨cs2, rfl, hz2⟩ := okWide_struct Try.underlying57 (hval 2 57 v2 rfl rfl)
  rw [show Try.prog.cellsOf 57 = 5 by kernel_rfl] at hz2
  obtain ⟨c2_0, c2_1, c2_2, c2_3, c2_4, rfl⟩ := arr5 hz2
  obtain ⟨u2, hu2⟩ := h2
  obtain ⟨m2, hm2⟩ := fieldRead Try.underlying57 hu2
  obtain ⟨y2_0, hy2_0⟩ := hm2 0 _ rfl
  simp only [List.getElem_toArray, List.getElem_cons_zero, List.getElem_cons_succ, show Try.prog.cellsOf 3 = 1 by kernel_rfl] at hy2_0
  obtain ⟨n2_0, e2_0, _, w2_0⟩ := DataW.trod_int Try.underlying3 hy2_0
  obtain rfl : c2_0 = .int .i64 n2_0 := by simpa [Value.cells] using e2_0
  obtain ⟨b2_0, q2_0⟩ := int_i64 w2_0
  obtain ⟨y2_1, hy2_1⟩ := hm2 1 _ rfl
  simp only [List.getElem_toArray, List.getElem_cons_zero, List.getElem_cons_succ, show Try.prog.cellsOf 3 = 1 by kernel_rfl] at hy2_1
  obtain ⟨n2_1, e2_1, _, w2_1⟩ := DataW.trod_int Try.underlying3 hy2_1
  obtain rfl : c2_1 = .int .i64 n2_1 := by simpa [Value.cells] using e2_1
  obtain ⟨b2_1, q2_1⟩ := int_i64 w2_1
  obtain ⟨y2_2, hy2_2⟩ := hm2 2 _ rfl
  simp only [List.getElem_toArray, List.getElem_cons_zero, List.getElem_cons_succ, show Try.prog.cellsOf 55 = 3 by kernel_rfl] at hy2_2
  obtain ⟨m2_2, hm2_2⟩ := fieldRead Try.underlying55 hy2_2
  obtain ⟨y2_2_0, hy2_2_0⟩ := hm2_2 0 _ rfl
  simp only [List.getElem_toArray, List.getElem_cons_zero, List.getElem_cons_succ, show Try.prog.cellsOf 3 = 1 by kernel_rfl] at hy2_2_0
  obtain ⟨n2_2_0, e2_2_0, _, w2_2_0⟩ := DataW.trod_int Try.underlying3 hy2_2_0
  obtain rfl : c2_2 = .int .i64 n2_2_0 := by simpa [Value.cells] using e2_2_0
  obtain ⟨b2_2_0, q2_2_0⟩ := int_i64 w2_2_0
  obtain ⟨y2_2_1, hy2_2_1⟩ := hm2_2 1 _ rfl
  simp only [List.getElem_toArray, List.getElem_cons_zero, List.getElem_cons_succ, show Try.prog.cellsOf 2 = 1 by kernel_rfl] at hy2_2_1
  obtain ⟨n2_2_1, e2_2_1, _, w2_2_1⟩ := DataW.trod_int Try.underlying2 hy2_2_1
  obtain rfl : c2_3 = .int .i64 n2_2_1 := by simpa [Value.cells] using e2_2_1
  obtain ⟨b2_2_1, q2_2_1⟩ := int_i64 w2_2_1
  obtain ⟨y2_2_2, hy2_2_2⟩ := hm2_2 2 _ rfl
  simp only [List.getElem_toArray, List.getElem_cons_zero, List.getElem_cons_succ, show Try.prog.cellsOf 2 = 1 by kernel_rfl] at hy2_2_2
  obtain ⟨n2_2_2, e2_2_2, _, w2_2_2⟩ := DataW.trod_int Try.underlying2 hy2_2_2
  obtain rfl : c2_4 = .int .i64 n2_2_2 := by simpa [Value.cells] using e2_2_2
  obtain ⟨b2_2_2, q2_2_2⟩ := int_i64 w2_2_2
  clear hA0 hval0
  refine (lawCallResolves W n0_0 n0_1 n0_2 a1 len1 cap1 xs1 n2_0 n2_1 n2_2_0 n2_2_1 n2_2_2 b0_0 q0_0 b0_1 q0_1 b0_2 q0_2 s1 f1 b2_0 q2_0 b2_1 q2_1 b2_2_0 q2_2_0 b2_2_1 q2_2_1 b2_2_2 q2_2_2).mono fun e W' ⟨he, bel⟩ => ?_
  subst he
  exact ⟨_, rfl, _, _, _, [], _, [], hW', trodAll_mk1 (shut_bool Try.underlying4 _), (trodAll_cons_mk (Below.trod laidOut (by kernel_rfl) (of_decide_eq_true (by kernel_rfl)) k0 bel lt0) (trodAll_cons_mk (Below.trod laidOut (by kernel_rfl) (of_decide_eq_true (by kernel_rfl)) k1 bel lt1) (trodAll_cons_mk (Below.trod laidOut (by kernel_rfl) (of_decide_eq_true (by kernel_rfl)) k2 bel lt2) trodAll_mk0))), rfl, bel.frame _, fun h => by cases h⟩

theorem over : Rows.callResolvesRow.holds Try.pinned (OpenSpec.ofChange Rows.callResolvesSpec) :=
  OpenClaim.holds_of_wide 7 Try.f7 rfl rfl rfl rfl rfl rfl rfl ⟨rfl, rfl, rfl, rfl, rfl⟩ rfl rfl rfl rfl rfl (by kernel_rfl) Try.func7 (by kernel_rfl)
    (of_decide_eq_true (by kernel_rfl)) (by unfold Func.isWrapper; first | (rw [if_pos (by decide +kernel)]; kernel_rfl) | (rw [if_neg (by decide +kernel)]; exact ⟨rfl, rfl⟩))
    (fun os started H enc _ => lifted os started H enc)

theorem proved : Rows.CallResolvesSaid := over
#print axioms proved
end Go.Proofs.Ytkkhoiahjmfibaa.callResolves
