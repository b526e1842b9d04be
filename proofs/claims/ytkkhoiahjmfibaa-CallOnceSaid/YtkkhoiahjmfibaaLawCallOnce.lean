/- The statement CallOnce: for every input the Go function answers true, and each argument reads behind the call as it read before. No conditions. -/
import Derived.Test.YtkkhoiahjmfibaaFrame
import Derived.Test.YtkkhoiahjmfibaaCallOnceY1
import Derived.Test.YtkkhoiahjmfibaaCallOnceY2

namespace Go.Proofs.Ytkkhoiahjmfibaa
open Go.RowKit
set_option linter.unusedVariables false
set_option linter.unusedSimpArgs false

theorem sameCalls {t p u : Int} {xs ws : List Nat} (h : ∀ k, k < 16 → cwN t p u xs k = cwN t p u ws k) : lastN t p u xs = lastN t p u ws ∧ ∀ num, saidV t p u xs num = saidV t p u ws num := by
  have e0 : n0N t p u xs = n0N t p u ws := by rw [n0N, n0N, h 0 (by omega)]
  have e1 : n1N t p u xs = n1N t p u ws := by rw [n1N, n1N, h 8 (by omega)]
  refine ⟨by rw [lastN, lastN, e0, e1], fun num => ?_⟩
  rw [saidV, saidV, e0, e1, h 1 (by omega), h 2 (by omega), h 3 (by omega), h 9 (by omega), h 10 (by omega), h 11 (by omega)]
theorem tidyCalls {t p s u : Int} {len : Nat} {ws x a : List Nat} (T : Tidied t p ws x a) (ho : okW t p s len) (h0 : 0 ≤ u) (h1 : u < t) : ∀ k, k < 16 → cwN t p u x k = cwN t p u ws k := by
  intro k hk
  obtain ⟨⟨g1, g2⟩, ⟨g3, g4⟩, g5, g6⟩ := rightC_of ho.1
  have mb := makers_bd ⟨⟨g1, g2⟩, g3, g4⟩
  obtain ⟨m1, m2, m3⟩ := mkI_bd ho h0 h1
  refine T.rest _ (fun i hi => ?_) (fun v hv => ?_)
  · omega
  · obtain ⟨i1, _, _, _⟩ := noteI_bd (u := (v : Int)) ho (by omega) hv
    omega
theorem saidForm (t p u : Int) (ws : List Nat) (num : Int) : ∃ k a b c, saidV t p u ws num = .tuple #[.agg #[.int .i64 k, .int .i64 a, .int .i64 b], .bool c] := by
  unfold saidV
  repeat' split
  · exact ⟨_, _, _, _, rfl⟩
  · exact ofForm3 _ _ _
  · exact ofForm3 _ _ _
  · exact ⟨_, _, _, _, rfl⟩

theorem tidyO_length {t p : Int} {ws x : List Nat} (h : tidyO t p ws = some x) : x.length = ws.length := by
  unfold tidyO at h
  cases hs : settledO t p ws with
  | none => rw [hs] at h; cases h
  | some rn =>
    have hr := settledO_length (n := rn.2) (r := rn.1) hs
    rw [hs] at h
    simp only [Option.map_some, Option.some.injEq] at h
    subst h
    split
    · rw [List.length_set]; exact hr
    · exact hr
theorem settle_vals {t p s : Int} {ws vs : List Nat} (h : settleO t p ws = some vs) (hr : rightC t p s = true) : (vs.length : Int) = cellsN t p ∧ Fit 4294967296 vs := by
  obtain ⟨⟨g1, g2⟩, ⟨g3, g4⟩, g5, g6⟩ := rightC_of hr
  unfold settleO at h
  cases hs : settledO t p ws with
  | none => rw [hs] at h; cases h
  | some r =>
    rw [hs] at h
    simp only [Option.map_some, Option.some.injEq] at h
    subst h
    refine ⟨by simp [valsOf]; unfold cellsN; omega, fun x hx => ?_⟩
    simp only [valsOf, List.mem_map] at hx
    obtain ⟨k, _, rfl⟩ := hx
    omega
theorem setCalls {t p s : Int} {len : Nat} {ws vs : List Nat} (hf : Fit 18446744073709551616 ws) (ho : okW t p s len) (h : settleO t p ws = some vs) (w : World) (a : Option Addr) (cap : Nat) (hs : Seen .u64 w a len cap ws) :
    RowKit.Hid (∀ w', Below w.heap.size w w' → Calls Try.prog 18 #[.agg #[.int .i64 t, .int .i64 p, .int .i64 s], .slice a len cap] w' (OptPost 25 .u32 w' (some vs))) :=
  hid fun w' hb => by
    have g := redoSettle t p s w' a len cap ws (hs.below hb) hf ho
    rw [h] at g
    exact g
theorem res0 {t p s u : Int} {len : Nat} {ws vs : List Nat} (hf : Fit 18446744073709551616 ws) (ho : okW t p s len) (h0 : 0 ≤ u) (h1 : u < t) (h : settleO t p ws = some vs) (num : Int) (hn : num < 1 ∨ num ≠ (lastN t p u ws : Int)) (w : World) (a : Option Addr) (cap : Nat) (hs : Seen .u64 w a len cap ws) :
    Calls Try.prog 31 #[.agg #[.int .i64 t, .int .i64 p, .int .i64 s], .slice a len cap, .int .i64 u, .int .i64 num] w fun e w' => e = .returned (.agg #[.int .i64 0, .int .i64 0, .int .i64 0, .int .i64 0, .int .i64 0, .int .i64 0, .int .i64 0]) ∧ Below w.heap.size w w' :=
  callResolveOther t p s u w a len cap ws num vs (setCalls hf ho h w a cap hs) hs ho h0 h1 hn
theorem res1 {t p s u : Int} {len : Nat} {ws vs : List Nat} (hf : Fit 18446744073709551616 ws) (ho : okW t p s len) (h0 : 0 ≤ u) (h1 : u < t) (h : settleO t p ws = some vs) (num ok oa ob : Int) (oc : Bool) (hn : 1 ≤ num) (hl : num = (lastN t p u ws : Int)) (hsv : saidV t p u ws num = .tuple #[.agg #[.int .i64 ok, .int .i64 oa, .int .i64 ob], .bool oc]) (hd : (dvN u vs 0 : Int) ≠ num) (w : World) (a : Option Addr) (cap : Nat) (hs : Seen .u64 w a len cap ws) :
    Calls Try.prog 31 #[.agg #[.int .i64 t, .int .i64 p, .int .i64 s], .slice a len cap, .int .i64 u, .int .i64 num] w fun e w' => e = .returned (.agg #[.int .i64 1, .int .i64 ok, .int .i64 oa, .int .i64 ob, .int .i64 0, .int .i64 0, .int .i64 0]) ∧ Below w.heap.size w w' :=
  callResolveNot t p s u w a len cap ws num vs ok oa ob oc (setCalls hf ho h w a cap hs) hs ho h0 h1 hn hl (settle_vals h ho.1).1 (settle_vals h ho.1).2 hsv hd
theorem res2 {t p s u : Int} {len : Nat} {ws vs : List Nat} (hf : Fit 18446744073709551616 ws) (ho : okW t p s len) (h0 : 0 ≤ u) (h1 : u < t) (h : settleO t p ws = some vs) (num ok oa ob : Int) (oc : Bool) (hn : 1 ≤ num) (hl : num = (lastN t p u ws : Int)) (hsv : saidV t p u ws num = .tuple #[.agg #[.int .i64 ok, .int .i64 oa, .int .i64 ob], .bool oc]) (hd : (dvN u vs 0 : Int) = num) (w : World) (a : Option Addr) (cap : Nat) (hs : Seen .u64 w a len cap ws) :
    Calls Try.prog 31 #[.agg #[.int .i64 t, .int .i64 p, .int .i64 s], .slice a len cap, .int .i64 u, .int .i64 num] w fun e w' => e = .returned (.agg #[.int .i64 2, .int .i64 ok, .int .i64 oa, .int .i64 ob, .int .i64 (dvN u vs 1 : Int), .int .i64 (dvN u vs 2 : Int), .int .i64 (dvN u vs 3 : Int)]) ∧ Below w.heap.size w w' :=
  callResolveDone t p s u w a len cap ws num vs ok oa ob oc (setCalls hf ho h w a cap hs) hs ho h0 h1 hn hl (settle_vals h ho.1).1 (settle_vals h ho.1).2 hsv hd
/-- What becomes of any number of a thread, of words that settle. -/
theorem resAny {t p s u : Int} {len : Nat} {ws vs : List Nat} (hf : Fit 18446744073709551616 ws) (ho : okW t p s len) (h0 : 0 ≤ u) (h1 : u < t) (h : settleO t p ws = some vs) (num : Int) :
    ∃ B0 B1 B2 B3 B4 B5 B6 : Int, (B0 = 0 ∨ num = (lastN t p u ws : Int)) ∧ ∀ (w : World) (a : Option Addr) (cap : Nat), Seen .u64 w a len cap ws → Calls Try.prog 31 #[.agg #[.int .i64 t, .int .i64 p, .int .i64 s], .slice a len cap, .int .i64 u, .int .i64 num] w fun e w' => e = .returned (.agg #[.int .i64 B0, .int .i64 B1, .int .i64 B2, .int .i64 B3, .int .i64 B4, .int .i64 B5, .int .i64 B6]) ∧ Below w.heap.size w w' := by
  by_cases hn : num < 1 ∨ num ≠ (lastN t p u ws : Int)
  · exact ⟨0, 0, 0, 0, 0, 0, 0, .inl rfl, fun w a cap hs => res0 hf ho h0 h1 h num hn w a cap hs⟩
  · have hl : num = (lastN t p u ws : Int) := by omega
    have hn1 : 1 ≤ num := by omega
    obtain ⟨ok, oa, ob, oc, hsv⟩ := saidForm t p u ws num
    by_cases hd : (dvN u vs 0 : Int) = num
    · exact ⟨_, _, _, _, _, _, _, .inr hl, fun w a cap hs => res2 hf ho h0 h1 h num ok oa ob oc hn1 hl hsv hd w a cap hs⟩
    · exact ⟨_, _, _, _, _, _, _, .inr hl, fun w a cap hs => res1 hf ho h0 h1 h num ok oa ob oc hn1 hl hsv hd w a cap hs⟩

set_option maxRecDepth 100000 in
theorem callOnceBig (w : World) (t p s : Int) (a : Option Addr) (len cap : Nat) (u n1 n2 : Int) (hl1 : len ≤ cap) (hl2 : cap ≤ maxLen) (hf : 3000 < len) :
    Calls Try.prog 9 #[.agg #[.int .i64 t, .int .i64 p, .int .i64 s], .slice a len cap, .agg #[.int .i64 u, .int .i64 n1, .int .i64 n2]] w fun e w' => e = .returned (.bool true) ∧ Below w.heap.size w w' := by
  go_enter Try.func9, Try.ntmps9
  go_wp2_with fail
  refine (live28 _).mono ?_
  rintro e w2 ⟨rfl, hb2⟩
  go_wp2_with fail
  go_ret
  exact ⟨rfl, bel⟩

theorem callOnceFew (w : World) (t p s : Int) (a : Option Addr) (len cap : Nat) (ws : List Nat) (u n1 n2 : Int) (hs : Seen .u64 w a len cap ws) (hf : Fit 18446744073709551616 ws) (hlen : len ≤ 3000) :
    Calls Try.prog 9 #[.agg #[.int .i64 t, .int .i64 p, .int .i64 s], .slice a len cap, .agg #[.int .i64 u, .int .i64 n1, .int .i64 n2]] w fun e w' => e = .returned (.bool true) ∧ Below w.heap.size w w' := by
  by_cases hr : okW t p s len ∧ 0 ≤ u ∧ u < t
  · obtain ⟨ho, h0, h1⟩ := hr
    have LA := fun w' (hs' : Seen .u64 w' a len cap ws) => callLastYes t p s u w' a len cap ws hs' ho h0 h1
    have TY := fun w' (hs' : Seen .u64 w' a len cap ws) => refTidyYes t p s w' a len cap ws hs' hf ho
    cases hset : settleO t p ws with
    | none =>
      have hT : tidyO t p ws = none := by
        unfold settleO at hset
        unfold tidyO
        cases h : settledO t p ws with
        | none => rfl
        | some r => rw [h] at hset; cases hset
      rw [hT] at TY
      have SN : ∀ w', Seen .u64 w' a len cap ws → RowKit.Hid (∀ w'', Below w'.heap.size w' w'' → Calls Try.prog 18 #[.agg #[.int .i64 t, .int .i64 p, .int .i64 s], .slice a len cap] w'' (OptPost 25 .u32 w'' none)) := fun w' hs' => hid fun w'' hb => by
        have g := redoSettle t p s w'' a len cap ws (hs'.below hb) hf ho
        rw [hset] at g
        exact g
      exact callOnceZ w t p s a len cap ws u n1 n2 hs hlen 0 0 0 0 0 0 0 _ _ true none (hid fun w' hs' => callResolveNone t p s u w' a len cap ws n1 (SN w' hs') hs' ho h0 h1) (hid fun w' hs' => callResolveNone t p s u w' a len cap ws n2 (SN w' hs') hs' ho h0 h1) (hid LA) (hid TY) (hid fun xs hxs => by cases hxs) (hid (.inl rfl))
    | some vs =>
      obtain ⟨x, hx⟩ : ∃ x, tidyO t p ws = some x := by
        unfold settleO at hset
        unfold tidyO
        cases h : settledO t p ws with
        | none => rw [h] at hset; cases hset
        | some r => exact ⟨_, rfl⟩
      have hT := tidied ho hs.1 hx hset
      have hxl : x.length = len := by rw [← hs.1]; exact tidyO_length hx
      have hxf : Fit 18446744073709551616 x := tidyO_fit hx hf
      have hxs : settleO t p x = some vs := hT.settle.1
      obtain ⟨hcl, hcs⟩ := sameCalls (tidyCalls hT ho h0 h1)
      rw [hx] at TY
      obtain ⟨B0, B1, B2, B3, B4, B5, B6, hB, PB⟩ := resAny hf ho h0 h1 hset n2
      by_cases hn : n1 < 1 ∨ n1 ≠ (lastN t p u ws : Int)
      · refine callOnceZ w t p s a len cap ws u n1 n2 hs hlen B0 B1 B2 B3 B4 B5 B6 _ _ true (some x) (hid fun w' hs' => res0 hf ho h0 h1 hset n1 hn w' a cap hs') (hid fun w' hs' => PB w' a cap hs') (hid LA) (hid TY) (hid fun xs hxs' => ?_) (hid (.inr (.inr ?_)))
        · cases hxs'
          exact ⟨hxl, fun w' a' cap' hs' => res0 hxf ho h0 h1 hxs n1 (by rw [hcl]; exact hn) w' a' cap' hs'⟩
        · rcases hn with h | h
          · exact .inl h
          · exact .inr (fun e => h e.symm)
      · have hl : n1 = (lastN t p u ws : Int) := by omega
        have hn1 : 1 ≤ n1 := by omega
        obtain ⟨ok, oa, ob, oc, hsv⟩ := saidForm t p u ws n1
        have hFB : B0 = 0 ∨ n1 = n2 := by rcases hB with h | h; exact .inl h; exact .inr (by rw [hl, h])
        by_cases hd : (dvN u vs 0 : Int) = n1
        · refine callOnceY2 w t p s a len cap ws u n1 n2 hs hlen ok oa ob _ _ _ B0 B1 B2 B3 B4 B5 B6 _ _ true (some x) (hid fun w' hs' => res2 hf ho h0 h1 hset n1 ok oa ob oc hn1 hl hsv hd w' a cap hs') (hid fun w' hs' => PB w' a cap hs') (hid LA) (hid TY) (hid fun xs hxs' => ?_) (hid rfl) (hid hl.symm) (hid fun h => by cases h) (hid hFB)
          cases hxs'
          exact ⟨hxl, fun w' a' cap' hs' => res2 hxf ho h0 h1 hxs n1 ok oa ob oc hn1 (by rw [hcl]; exact hl) (by rw [hcs]; exact hsv) hd w' a' cap' hs'⟩
        · refine callOnceY1 w t p s a len cap ws u n1 n2 hs hlen ok oa ob _ _ _ B0 B1 B2 B3 B4 B5 B6 _ _ true (some x) (hid fun w' hs' => res1 hf ho h0 h1 hset n1 ok oa ob oc hn1 hl hsv hd w' a cap hs') (hid fun w' hs' => PB w' a cap hs') (hid LA) (hid TY) (hid fun xs hxs' => ?_) (hid rfl) (hid hl.symm) (hid fun h => by cases h) (hid hFB)
          cases hxs'
          exact ⟨hxl, fun w' a' cap' hs' => res1 hxf ho h0 h1 hxs n1 ok oa ob oc hn1 (by rw [hcl]; exact hl) (by rw [hcs]; exact hsv) hd w' a' cap' hs'⟩
  · have hl : ∀ w' a' cap' xs, Seen .u64 w' a' len cap' xs → len ≤ cap' ∧ cap' ≤ maxLen := fun w' a' cap' xs h => ⟨h.2.1, h.2.2.1⟩
    have LA := fun w' (hs' : Seen .u64 w' a len cap ws) => callLastNo t p s u w' a len cap ws (hl _ _ _ _ hs') hr
    have SW : ∀ (xs : List Nat), Fit 18446744073709551616 xs → ∀ w' a' cap', Seen .u64 w' a' len cap' xs → ∀ num, Calls Try.prog 31 #[.agg #[.int .i64 t, .int .i64 p, .int .i64 s], .slice a' len cap', .int .i64 u, .int .i64 num] w' fun e w'' => e = .returned (.agg #[.int .i64 0, .int .i64 0, .int .i64 0, .int .i64 0, .int .i64 0, .int .i64 0, .int .i64 0]) ∧ Below w'.heap.size w' w'' := by
      intro xs hxf w' a' cap' hs' num
      by_cases ho : okW t p s len
      · exact callResolveOut t p s u w' a' len cap' xs num _ (hid fun w'' hb => redoSettle t p s w'' a' len cap' xs (hs'.below hb) hxf ho) (hl _ _ _ _ hs') hr
      · exact callResolveOut t p s u w' a' len cap' xs num _ (hid fun w'' hb => redoSettleNo t p s w'' a' len cap' xs ho) (hl _ _ _ _ hs') hr
    by_cases ho : okW t p s len
    · refine callOnceZ w t p s a len cap ws u n1 n2 hs hlen 0 0 0 0 0 0 0 0 0 false (tidyO t p ws) (hid fun w' hs' => SW ws hf w' a cap hs' n1) (hid fun w' hs' => SW ws hf w' a cap hs' n2) (hid LA) (hid fun w' hs' => refTidyYes t p s w' a len cap ws hs' hf ho) (hid fun xs hx => ⟨?_, ?_⟩) (hid (.inr (.inl rfl)))
      · rw [← hs.1]; exact tidyO_length hx
      · exact fun w' a' cap' hs' => SW xs (tidyO_fit hx hf) w' a' cap' hs' n1
    · exact callOnceZ w t p s a len cap ws u n1 n2 hs hlen 0 0 0 0 0 0 0 0 0 false none (hid fun w' hs' => SW ws hf w' a cap hs' n1) (hid fun w' hs' => SW ws hf w' a cap hs' n2) (hid LA) (hid fun w' hs' => refTidyNo t p s w' a len cap ho) (hid fun xs hx => by cases hx) (hid (.inl rfl))

theorem lawCallOnce (w : World) (t p s : Int) (a : Option Addr) (len cap : Nat) (ws : List Nat) (u n1 n2 : Int)
    (_ : -9223372036854775808 ≤ t) (_ : t ≤ 9223372036854775807) (_ : -9223372036854775808 ≤ p) (_ : p ≤ 9223372036854775807) (_ : -9223372036854775808 ≤ s) (_ : s ≤ 9223372036854775807) (hs : Seen .u64 w a len cap ws) (hf : Fit 18446744073709551616 ws)
    (_ : -9223372036854775808 ≤ u) (_ : u ≤ 9223372036854775807) (_ : -9223372036854775808 ≤ n1) (_ : n1 ≤ 9223372036854775807) (_ : -9223372036854775808 ≤ n2) (_ : n2 ≤ 9223372036854775807) :
    Calls Try.prog 9 #[.agg #[.int .i64 t, .int .i64 p, .int .i64 s], .slice a len cap, .agg #[.int .i64 u, .int .i64 n1, .int .i64 n2]] w fun e w' => e = .returned (.bool true) ∧ Below w.heap.size w w' := by
  by_cases hl : 3000 < len
  · exact callOnceBig w t p s a len cap u n1 n2 hs.2.1 hs.2.2.1 hl
  · exact callOnceFew w t p s a len cap ws u n1 n2 hs hf (by omega)
end Go.Proofs.Ytkkhoiahjmfibaa

namespace Go.Proofs.Ytkkhoiahjmfibaa.callOnce
open Go.ChangeShapes Go.WideShapes Go.ChangeAt Go.RowKit
set_option linter.unusedVariables false
set_option linter.unusedSimpArgs false

set_option maxRecDepth 100000 in
theorem lifted (os : Os) (started : os.Started) (H : Type) (enc : TypeId × Value → H) :
    ReturnsInHanded {} Try.checked os 9 .any (Rows.callOnceSpec.pre6 enc Try.prog Try.f9 Rows.callOnceRow.domain false) (Rows.callOnceSpec.post enc Try.prog Try.f9 false true false false) := by
  refine returnsInHanded_of_change (C := Try.checked) own started (by kernel_rfl) Try.func9
    (ChangeSpec.witness6 (enc := enc) (C := Try.checked) false ⟨#[], #[.agg #[.int .i64 0, .int .i64 0, .int .i64 0], .slice none 0 0, .agg #[.int .i64 0, .int .i64 0, .int .i64 0]], []⟩ 8 (by kernel_rfl) (by kernel_rfl) (by kernel_rfl) (by kernel_rfl)) ?_
  intro W base args ds gs before hval0 hW hcnd _
  have hval : ∀ (j : Nat) t v, Try.f9.params[j]? = some t → args[j]? = some v → Value.okWide Try.prog W .any base t v := hval0
  have hW' := hW
  obtain ⟨p, q, hA0, hV, rfl, hfz, hnd⟩ := hW
  have hA : DataW.TrodAll enc Try.prog W 0 (fun _ => true) true Try.f9.params.toList args.toList ds p := hA0
  rw [Try.params9] at hA hval
  obtain ⟨v0, vs0, d0, ds0, p0, q0, hargs, rfl, rfl, h0, r0⟩ := trodAll_cons hA
  obtain ⟨v1, vs1, d1, ds1, p1, q1, rfl, rfl, rfl, h1, r1⟩ := trodAll_cons r0
  obtain ⟨v2, vs2, d2, ds2, p2, q2, rfl, rfl, rfl, h2, r2⟩ := trodAll_cons r1
  obtain ⟨rfl, rfl, rfl⟩ := trodAll_nil r2
  obtain rfl : args = #[v0, v1, v2] := by cases args; simp_all
  obtain ⟨rfl, rfl⟩ := trodVars_none hV
  have k0 := h0
  have lt0 : ∀ x ∈ p0, x.block < W.heap.size := by obtain ⟨m, hm⟩ := k0; exact DataW.trod_lt m _ _ _ hm
  have k1 := h1
  have lt1 : ∀ x ∈ p1, x.block < W.heap.size := by obtain ⟨m, hm⟩ := k1; exact DataW.trod_lt m _ _ _ hm
  have k2 := h2
  have lt2 : ∀ x ∈ p2, x.block < W.heap.size := by obtain ⟨m, hm⟩ := k2; exact DataW.trod_lt m _ _ _ hm
  obtain ⟨cs0, rfl, hz0⟩ := okWide_struct Try.underlying23 (hval 0 23 v0 rfl rfl)
  rw [show Try.prog.cellsOf 23 = 3 by kernel_rfl] at hz0
  obtain ⟨c0_0, c0_1, c0_2, rfl⟩ := arr3 hz0
  obtain ⟨u0, hu0⟩ := h0
  obtain ⟨m0, hm0⟩ := fieldRead Try.underlying23 hu0
  obtain ⟨y0_0, hy0_0⟩ := hm0 0 _ rfl
  simp only [List.getElem_toArray, List.getElem_cons_zero, List.getElem_cons_succ, show Try.prog.cellsOf 3 = 1 by kernel_rfl] at hy0_0
  obtain ⟨n0_0, e0_0, _, w0_0⟩ := DataW.trod_int Try.underlying3 hy0_0
  obtain rfl : c0_0 = .int .i64 n0_0 := by simpa [Value.cells] using e0_0
  obtain ⟨b0_0, q0_0⟩ := int_i64 w0_0
  obtain ⟨y0_1, hy0_1⟩ := hm0 1 _ rfl
  simp only [List.getElem_toArray, List.getElem_cons_zero, List.getElem_cons_succ, show Try.prog.cellsOf 3 = 1 by kernel_rfl] at hy0_1
  obtain ⟨n0_1, e0_1, _, w0_1⟩ := DataW.trod_int Try.underlying3 hy0_1
  obtain rfl : c0_1 = .int .i64 n0_1 := by simpa [Value.cells] using e0_1
  obtain ⟨b0_1, q0_1⟩ := int_i64 w0_1
  obtain ⟨y0_2, hy0_2⟩ := hm0 2 _ rfl
  simp only [List.getElem_toArray, List.getElem_cons_zero, List.getElem_cons_succ, show Try.prog.cellsOf 3 = 1 by kernel_rfl] at hy0_2
  obtain ⟨n0_2, e0_2, _, w0_2⟩ := DataW.trod_int Try.underlying3 hy0_2
  obtain rfl : c0_2 = .int .i64 n0_2 := by simpa [Value.cells] using e0_2
  obtain ⟨b0_2, q0_2⟩ := int_i64 w0_2
  obtain ⟨a1, len1, cap1, rfl⟩ := okWide_slice Try.underlying24 (hval 1 24 v1 rfl rfl)
  obtain ⟨xs1, s1, f1⟩ : ∃ xs, Seen .u64 W a1 len1 cap1 xs ∧ Fit 18446744073709551616 xs := by
    obtain ⟨fuel, hf⟩ := h1
    rcases open_ints Try.underlying24 Try.underlying46 (by kernel_rfl) hf with ⟨hcs, _⟩ | ⟨x, l, c, zs, hcs, _, hl, hm, hz, _, hcell, hwz⟩
    · simp [Value.cells] at hcs
      obtain ⟨rfl, rfl, rfl⟩ := hcs
      exact ⟨[], Seen.empty _ _ _ _ (by decide) (fun _ => rfl), fun x hx => by cases hx⟩
    · simp [Value.cells] at hcs
      obtain ⟨rfl, rfl, rfl⟩ := hcs
      exact seen_of_row hl hm (by simpa using hz) hcell (fun n hn => nat_u64 (hwz n hn))
  obtain ⟨cs2, rfl, hz2⟩ := okWide_arr Try.underlying71 (hval 2 71 v2 rfl rfl)
  rw [show Try.prog.cellsOf 71 = 3 by kernel_rfl] at hz2
  obtain ⟨c2_0, c2_1, c2_2, rfl⟩ := arr3 hz2
  obtain ⟨u2, hu2⟩ := h2
  obtain ⟨m2, hm2⟩ := elemRead Try.underlying71 hu2
  obtain ⟨y2_0, hy2_0⟩ := hm2 0 (by decide)
  rw [show Try.prog.cellsOf 3 = 1 by kernel_rfl] at hy2_0
  obtain ⟨n2_0, e2_0, _, w2_0⟩ := DataW.trod_int Try.underlying3 hy2_0
  obtain rfl : c2_0 = .int .i64 n2_0 := by simpa [Value.cells] using e2_0
  obtain ⟨b2_0, q2_0⟩ := int_i64 w2_0
  obtain ⟨y2_1, hy2_1⟩ := hm2 1 (by decide)
  rw [show Try.prog.cellsOf 3 = 1 by kernel_rfl] at hy2_1
  obtain ⟨n2_1, e2_1, _, w2_1⟩ := DataW.trod_int Try.underlying3 hy2_1
  obtain rfl : c2_1 = .int .i64 n2_1 := by simpa [Value.cells] using e2_1
  obtain ⟨b2_1, q2_1⟩ := int_i64 w2_1
  obtain ⟨y2_2, hy2_2⟩ := hm2 2 (by decide)
  rw [show Try.prog.cellsOf 3 = 1 by kernel_rfl] at hy2_2
  obtain ⟨n2_2, e2_2, _, w2_2⟩ := DataW.trod_int Try.underlying3 hy2_2
  obtain rfl : c2_2 = .int .i64 n2_2 := by simpa [Value.cells] using e2_2
  obtain ⟨b2_2, q2_2⟩ := int_i64 w2_2
  clear hA0 hval0
  refine (lawCallOnce W n0_0 n0_1 n0_2 a1 len1 cap1 xs1 n2_0 n2_1 n2_2 b0_0 q0_0 b0_1 q0_1 b0_2 q0_2 s1 f1 b2_0 q2_0 b2_1 q2_1 b2_2 q2_2).mono fun e W' ⟨he, bel⟩ => ?_
  subst he
  exact ⟨_, rfl, _, _, _, [], _, [], hW', trodAll_mk1 (shut_bool Try.underlying4 _), (trodAll_cons_mk (Below.trod laidOut (by kernel_rfl) (of_decide_eq_true (by kernel_rfl)) k0 bel lt0) (trodAll_cons_mk (Below.trod laidOut (by kernel_rfl) (of_decide_eq_true (by kernel_rfl)) k1 bel lt1) (trodAll_cons_mk (Below.trod laidOut (by kernel_rfl) (of_decide_eq_true (by kernel_rfl)) k2 bel lt2) trodAll_mk0))), rfl, bel.frame _, fun h => by cases h⟩

theorem over : Rows.callOnceRow.holds Try.pinned (OpenSpec.ofChange Rows.callOnceSpec) :=
  OpenClaim.holds_of_wide 9 Try.f9 rfl rfl rfl rfl rfl rfl rfl ⟨rfl, rfl, rfl, rfl, rfl⟩ rfl rfl rfl rfl rfl (by kernel_rfl) Try.func9 (by kernel_rfl)
    (of_decide_eq_true (by kernel_rfl)) (by unfold Func.isWrapper; first | (rw [if_pos (by decide +kernel)]; kernel_rfl) | (rw [if_neg (by decide +kernel)]; exact ⟨rfl, rfl⟩))
    (fun os started H enc _ => lifted os started H enc)

theorem proved : Rows.CallOnceSaid := over
#print axioms proved
end Go.Proofs.Ytkkhoiahjmfibaa.callOnce
