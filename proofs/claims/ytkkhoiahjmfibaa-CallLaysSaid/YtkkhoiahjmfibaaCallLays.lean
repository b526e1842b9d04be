/- Plain facts on a call that is laid; the walk of the statement: it answers true. -/
import Derived.Test.YtkkhoiahjmfibaaLive28
import Derived.Test.YtkkhoiahjmfibaaPlaceRef
namespace Go.Proofs.Ytkkhoiahjmfibaa
open Go.RowKit
set_option linter.unusedVariables false
set_option linter.unusedSimpArgs false

theorem back64c (k : Int) (h1 : -9223372036854775808 ≤ k) (h2 : k ≤ 9223372036854775807) : wrap64 (((IntKind.u64.wrap k).toNat : Nat) : Int) = k := by
  obtain ⟨m, hm, hb⟩ := wrapNat k
  rw [hm, Int.toNat_natCast, ← hm, IntKind.wrap_u64]
  unfold wrap64
  omega
/-- What a call that is laid comes to. -/
structure LaidC (t p u : Int) (ws XS : List Nat) (num ok oa ob : Int) (len : Nat) : Prop where
  length : XS.length = len
  last : (lastN t p u XS : Int) = num
  which : lastB t p u XS = 1 - lastB t p u ws
  said : saidV t p u XS num = .tuple #[.agg #[.int .i64 ok, .int .i64 oa, .int .i64 ob], .bool true]
  rest : ∀ i, XS[i]?.getD 0 ≠ ws[i]?.getD 0 → mkI t p u + 8 * (1 - lastB t p u ws) ≤ i ∧ i < mkI t p u + 8 * (1 - lastB t p u ws) + 4
theorem lastB_or (t p u : Int) (ws : List Nat) : (lastB t p u ws = 0 ∧ n1N t p u ws < n0N t p u ws ∧ lastN t p u ws = n0N t p u ws) ∨ (lastB t p u ws = 1 ∧ ¬ n1N t p u ws < n0N t p u ws ∧ lastN t p u ws = n1N t p u ws) := by
  unfold lastB lastN
  by_cases h : n1N t p u ws < n0N t p u ws
  · exact .inl ⟨if_pos h, h, if_pos h⟩
  · exact .inr ⟨if_neg h, h, if_neg h⟩
theorem laidC {t p s u : Int} {ws : List Nat} {num ok oa ob : Int} {len : Nat} (ho : okW t p s len) (h0 : 0 ≤ u) (h1 : u < t) (hl : ws.length = len) (hB : layB t p u ws num ok oa ob = true)
    (k1 : -9223372036854775808 ≤ ok) (k2 : ok ≤ 9223372036854775807) (a1 : -9223372036854775808 ≤ oa) (a2 : oa ≤ 9223372036854775807) (b1 : -9223372036854775808 ≤ ob) (b2 : ob ≤ 9223372036854775807) : LaidC t p u ws (layW t p u ws num ok oa ob) num ok oa ob len := by
  rw [layB, Bool.and_eq_true] at hB
  obtain ⟨g1, hr⟩ := hB
  obtain ⟨g3, g4⟩ := of_decide_eq_true g1
  obtain ⟨m1, m2, m3⟩ := mkI_bd ho h0 h1
  have hof : ofWords (((IntKind.u64.wrap ok).toNat : Nat) : Int) (((IntKind.u64.wrap oa).toNat : Nat) : Int) (((IntKind.u64.wrap ob).toNat : Nat) : Int) = .tuple #[.agg #[.int .i64 ok, .int .i64 oa, .int .i64 ob], .bool true] := by
    rw [ofWords, back64c ok k1 k2, back64c oa a1 a2, back64c ob b1 b2, if_pos hr]
  have hnx : numX num.toNat = num.toNat := by rw [numX, if_neg (by omega)]
  rcases lastB_or t p u ws with ⟨hb, hlt, hln⟩ | ⟨hb, hlt, hln⟩
  · have hW : layW t p u ws num ok oa ob = splice ws (mkI t p u + 8) [num.toNat, (IntKind.u64.wrap ok).toNat, (IntKind.u64.wrap oa).toNat, (IntKind.u64.wrap ob).toNat] := by rw [layW, hb]
    have hat : ∀ i, (layW t p u ws num ok oa ob)[i]?.getD 0 = if mkI t p u + 8 ≤ i ∧ i < mkI t p u + 8 + 4 then [num.toNat, (IntKind.u64.wrap ok).toNat, (IntKind.u64.wrap oa).toNat, (IntKind.u64.wrap ob).toNat][i - (mkI t p u + 8)]?.getD 0 else ws[i]?.getD 0 := fun i => by
      rw [hW, splice_at _ _ _ _ (by rw [hl]; show _ + 4 ≤ _; omega)]; rfl
    have e0 : n0N t p u (layW t p u ws num ok oa ob) = n0N t p u ws := by rw [n0N, n0N, cwN, cwN, hat, if_neg (by omega)]
    have c8 : cwN t p u (layW t p u ws num ok oa ob) 8 = num.toNat := by rw [cwN, hat, if_pos (by omega), Nat.sub_self]; rfl
    have c9 : cwN t p u (layW t p u ws num ok oa ob) 9 = (IntKind.u64.wrap ok).toNat := by rw [cwN, hat, if_pos (by omega), show mkI t p u + 9 - (mkI t p u + 8) = 1 by omega]; rfl
    have c10 : cwN t p u (layW t p u ws num ok oa ob) 10 = (IntKind.u64.wrap oa).toNat := by rw [cwN, hat, if_pos (by omega), show mkI t p u + 10 - (mkI t p u + 8) = 2 by omega]; rfl
    have c11 : cwN t p u (layW t p u ws num ok oa ob) 11 = (IntKind.u64.wrap ob).toNat := by rw [cwN, hat, if_pos (by omega), show mkI t p u + 11 - (mkI t p u + 8) = 3 by omega]; rfl
    have e1 : n1N t p u (layW t p u ws num ok oa ob) = num.toNat := by rw [n1N, c8, hnx]
    have hn : ¬ n1N t p u (layW t p u ws num ok oa ob) < n0N t p u (layW t p u ws num ok oa ob) := by rw [e0, e1]; omega
    refine ⟨?_, ?_, ?_, ?_, ?_⟩
    · rw [hW, length_splice _ _ _ (by rw [hl]; show _ + 4 ≤ _; omega), hl]
    · rw [lastN, if_neg hn, e1]; omega
    · rw [hb, lastB, if_neg hn]
    · rw [saidV, if_neg (by omega), if_pos (by rw [e1]; omega), c9, c10, c11, hof]
    · intro i hi
      rw [hb]
      rw [hat] at hi
      by_cases hc : mkI t p u + 8 ≤ i ∧ i < mkI t p u + 8 + 4
      · exact hc
      · rw [if_neg hc] at hi; exact absurd rfl hi
  · have hW : layW t p u ws num ok oa ob = splice ws (mkI t p u) [num.toNat, (IntKind.u64.wrap ok).toNat, (IntKind.u64.wrap oa).toNat, (IntKind.u64.wrap ob).toNat] := by rw [layW, hb]; rfl
    have hat : ∀ i, (layW t p u ws num ok oa ob)[i]?.getD 0 = if mkI t p u ≤ i ∧ i < mkI t p u + 4 then [num.toNat, (IntKind.u64.wrap ok).toNat, (IntKind.u64.wrap oa).toNat, (IntKind.u64.wrap ob).toNat][i - mkI t p u]?.getD 0 else ws[i]?.getD 0 := fun i => by
      rw [hW, splice_at _ _ _ _ (by rw [hl]; show _ + 4 ≤ _; omega)]; rfl
    have e1 : n1N t p u (layW t p u ws num ok oa ob) = n1N t p u ws := by rw [n1N, n1N, cwN, cwN, hat, if_neg (by omega)]
    have c0 : cwN t p u (layW t p u ws num ok oa ob) 0 = num.toNat := by rw [cwN, hat, if_pos (by omega), show mkI t p u + 0 - mkI t p u = 0 by omega]; rfl
    have c1 : cwN t p u (layW t p u ws num ok oa ob) 1 = (IntKind.u64.wrap ok).toNat := by rw [cwN, hat, if_pos (by omega), show mkI t p u + 1 - mkI t p u = 1 by omega]; rfl
    have c2 : cwN t p u (layW t p u ws num ok oa ob) 2 = (IntKind.u64.wrap oa).toNat := by rw [cwN, hat, if_pos (by omega), show mkI t p u + 2 - mkI t p u = 2 by omega]; rfl
    have c3 : cwN t p u (layW t p u ws num ok oa ob) 3 = (IntKind.u64.wrap ob).toNat := by rw [cwN, hat, if_pos (by omega), show mkI t p u + 3 - mkI t p u = 3 by omega]; rfl
    have e0 : n0N t p u (layW t p u ws num ok oa ob) = num.toNat := by rw [n0N, c0, hnx]
    have hn : n1N t p u (layW t p u ws num ok oa ob) < n0N t p u (layW t p u ws num ok oa ob) := by rw [e0, e1]; omega
    refine ⟨?_, ?_, ?_, ?_, ?_⟩
    · rw [hW, length_splice _ _ _ (by rw [hl]; show _ + 4 ≤ _; omega), hl]
    · rw [lastN, if_pos hn, e0]; omega
    · rw [hb, lastB, if_pos hn]
    · rw [saidV, if_neg (by omega), if_neg (by rw [e1]; omega), if_pos (by rw [e0]; omega), c1, c2, c3, hof]
    · intro i hi
      rw [hb]
      rw [hat] at hi
      by_cases hc : mkI t p u ≤ i ∧ i < mkI t p u + 4
      · omega
      · rw [if_neg hc] at hi; exact absurd rfl hi

set_option maxRecDepth 100000 in
theorem callLaysBig (w : World) (t p s : Int) (a : Option Addr) (len cap : Nat) (ws : List Nat) (u num ok oa ob : Int) (hl1 : len ≤ cap) (hl2 : cap ≤ maxLen) (hf : 3000 < len) :
    Calls Try.prog 8 #[.agg #[.int .i64 t, .int .i64 p, .int .i64 s], .slice a len cap, .agg #[.int .i64 u, .int .i64 num, .int .i64 ok, .int .i64 oa, .int .i64 ob]] w fun e w' => e = .returned (.bool true) ∧ Below w.heap.size w w' := by
  go_enter Try.func8, Try.ntmps8
  go_wp2_with fail
  refine (live28 _).mono ?_
  rintro e w2 ⟨rfl, hb2⟩
  go_wp2_with fail
  go_ret
  exact ⟨rfl, bel⟩

set_option maxRecDepth 100000 in
set_option maxHeartbeats 3200000 in
theorem callLaysNone (w : World) (t p s : Int) (a : Option Addr) (len cap : Nat) (ws : List Nat) (u num ok oa ob : Int) (hl1 : len ≤ cap) (hl2 : cap ≤ maxLen) (hf : len ≤ 3000) (ln lb : Int) (lk : Bool)
    (LA : RowKit.Hid (∀ w', Below w.heap.size w w' → Calls Try.prog 25 #[.agg #[.int .i64 t, .int .i64 p, .int .i64 s], .slice a len cap, .int .i64 u] w' fun e w'' => e = .returned (.tuple #[.int .i64 ln, .int .i64 lb, .bool lk]) ∧ Below w'.heap.size w' w''))
    (YA : RowKit.Hid (∀ w', Below w.heap.size w w' → Calls Try.prog 29 #[.agg #[.int .i64 t, .int .i64 p, .int .i64 s], .slice a len cap, .int .i64 u, .int .i64 num, .agg #[.int .i64 ok, .int .i64 oa, .int .i64 ob]] w' (OptPost 46 .u64 w' none))) :
    Calls Try.prog 8 #[.agg #[.int .i64 t, .int .i64 p, .int .i64 s], .slice a len cap, .agg #[.int .i64 u, .int .i64 num, .int .i64 ok, .int .i64 oa, .int .i64 ob]] w fun e w' => e = .returned (.bool true) ∧ Below w.heap.size w w' := by
  go_enter Try.func8, Try.ntmps8
  go_wp2_with fail
  have hB0 : Below w.heap.size w ((w.alloc (.cells #[.int .i64 t, .int .i64 p, .int .i64 s] 23)).alloc (.cells #[.int .i64 u, .int .i64 num, .int .i64 ok, .int .i64 oa, .int .i64 ob] 57)) := ((Below.refl _ _).alloc (Nat.le_refl _) _).alloc (by simp) _
  refine (LA.out _ hB0).mono ?_
  rintro e w1 ⟨rfl, hb1⟩
  have hC1 : Below (w.heap.size + 2) ((w.alloc (.cells #[.int .i64 t, .int .i64 p, .int .i64 s] 23)).alloc (.cells #[.int .i64 u, .int .i64 num, .int .i64 ok, .int .i64 oa, .int .i64 ob] 57)) w1 := hb1.mono (by simp)
  have z1 : w.heap.size + 2 ≤ w1.heap.size := by have := hb1.size; simp at this; omega
  have x1 : w.heap.size < w1.heap.size := by omega
  have x1' : w.heap.size + 1 < w1.heap.size := by omega
  have hB1 : Below w.heap.size w w1 := hB0.trans (hb1.mono (by simp; omega))
  have q0 : w1.cell? ⟨w.heap.size, 0, none⟩ = some (.int .i64 t) := (hC1.cell (p := ⟨w.heap.size, 0, none⟩) (by first | omega | (simp; done) | (simp; omega))).trans (cellOld (by simp) (cellNew rfl rfl))
  have q1 : w1.cell? ⟨w.heap.size, 1, none⟩ = some (.int .i64 p) := (hC1.cell (p := ⟨w.heap.size, 1, none⟩) (by first | omega | (simp; done) | (simp; omega))).trans (cellOld (by simp) (cellNew rfl rfl))
  have q2 : w1.cell? ⟨w.heap.size, 2, none⟩ = some (.int .i64 s) := (hC1.cell (p := ⟨w.heap.size, 2, none⟩) (by first | omega | (simp; done) | (simp; omega))).trans (cellOld (by simp) (cellNew rfl rfl))
  have q3 : w1.cell? ⟨w.heap.size + 1, 0, none⟩ = some (.int .i64 u) := (hC1.cell (p := ⟨w.heap.size + 1, 0, none⟩) (by first | omega | (simp; done) | (simp; omega))).trans (cellNew (by simp) rfl)
  have q4 : w1.cell? ⟨w.heap.size + 1, 1, none⟩ = some (.int .i64 num) := (hC1.cell (p := ⟨w.heap.size + 1, 1, none⟩) (by first | omega | (simp; done) | (simp; omega))).trans (cellNew (by simp) rfl)
  have q5 : w1.cell? ⟨w.heap.size + 1, 2, none⟩ = some (.int .i64 ok) := (hC1.cell (p := ⟨w.heap.size + 1, 2, none⟩) (by first | omega | (simp; done) | (simp; omega))).trans (cellNew (by simp) rfl)
  have q6 : w1.cell? ⟨w.heap.size + 1, 3, none⟩ = some (.int .i64 oa) := (hC1.cell (p := ⟨w.heap.size + 1, 3, none⟩) (by first | omega | (simp; done) | (simp; omega))).trans (cellNew (by simp) rfl)
  have q7 : w1.cell? ⟨w.heap.size + 1, 4, none⟩ = some (.int .i64 ob) := (hC1.cell (p := ⟨w.heap.size + 1, 4, none⟩) (by first | omega | (simp; done) | (simp; omega))).trans (cellNew (by simp) rfl)
  clear hb1 hC1 hB0
  go_wp2_with fail
  refine (YA.out _ hB1).mono ?_
  rintro e w2 (⟨r, h, _⟩ | ⟨_, rfl, hb2⟩)
  · cases h
  have hB2 : Below w.heap.size w w2 := hB1.trans (hb2.mono (by omega))
  clear hb2
  go_wp2_with fail
  refine (live28 _).mono ?_
  rintro e w3 ⟨rfl, hb3⟩
  have hB3 : Below w.heap.size w w3 := hB2.trans (hb3.mono hB2.size)
  clear hb3
  go_wp2_with fail
  go_ret
  exact ⟨rfl, hB3⟩

set_option maxRecDepth 100000 in
set_option maxHeartbeats 6400000 in
theorem callLaysSome0 (w : World) (t p s : Int) (a : Option Addr) (len cap : Nat) (ws : List Nat) (u num ok oa ob : Int) (hs : Seen .u64 w a len cap ws) (hf : len ≤ 3000) (h0 : 0 < len) (ln : Int) (XS : List Nat) (c : Nat)
    (LA : RowKit.Hid (∀ w', Below w.heap.size w w' → Calls Try.prog 25 #[.agg #[.int .i64 t, .int .i64 p, .int .i64 s], .slice a len cap, .int .i64 u] w' fun e w'' => e = .returned (.tuple #[.int .i64 ln, .int .i64 0, .bool true]) ∧ Below w'.heap.size w' w''))
    (YA : RowKit.Hid (∀ w', Below w.heap.size w w' → Calls Try.prog 29 #[.agg #[.int .i64 t, .int .i64 p, .int .i64 s], .slice a len cap, .int .i64 u, .int .i64 num, .agg #[.int .i64 ok, .int .i64 oa, .int .i64 ob]] w' (OptPost 46 .u64 w' (some XS))))
    (L1 : RowKit.Hid (∀ w' a' cap', Seen .u64 w' a' len cap' XS → Calls Try.prog 25 #[.agg #[.int .i64 t, .int .i64 p, .int .i64 s], .slice a' len cap', .int .i64 u] w' fun e w'' => e = .returned (.tuple #[.int .i64 num, .int .i64 1, .bool true]) ∧ Below w'.heap.size w' w''))
    (S1 : RowKit.Hid (∀ w' a' cap', Seen .u64 w' a' len cap' XS → Calls Try.prog 27 #[.agg #[.int .i64 t, .int .i64 p, .int .i64 s], .slice a' len cap', .int .i64 u, .int .i64 num] w' fun e w'' => e = .returned (.tuple #[.agg #[.int .i64 ok, .int .i64 oa, .int .i64 ob], .bool true]) ∧ Below w'.heap.size w' w''))
    (CW : RowKit.Hid (callW t p s u 1 = (c : Int))) (XL : RowKit.Hid (XS.length = len)) (hn : ln < num) (hcl : c + 4 ≤ len) (DF : RowKit.Hid (∀ i, XS[i]?.getD 0 ≠ ws[i]?.getD 0 → c ≤ i ∧ i < c + 4)) :
    Calls Try.prog 8 #[.agg #[.int .i64 t, .int .i64 p, .int .i64 s], .slice a len cap, .agg #[.int .i64 u, .int .i64 num, .int .i64 ok, .int .i64 oa, .int .i64 ob]] w fun e w' => e = .returned (.bool true) ∧ Below w.heap.size w w' := by
  have hl1 := hs.2.1
  have hl2 : cap ≤ maxLen := hs.2.2.1
  have HS := hid hs
  have hq := extCell
  have dn : decide (num ≤ ln) = false := by simp; omega
  clear hs
  go_enter Try.func8, Try.ntmps8
  go_wp2_with fail
  have hB0 : Below w.heap.size w ((w.alloc (.cells #[.int .i64 t, .int .i64 p, .int .i64 s] 23)).alloc (.cells #[.int .i64 u, .int .i64 num, .int .i64 ok, .int .i64 oa, .int .i64 ob] 57)) := ((Below.refl _ _).alloc (Nat.le_refl _) _).alloc (by simp) _
  refine (LA.out _ hB0).mono ?_
  rintro e w1 ⟨rfl, hb1⟩
  have hC1 : Below (w.heap.size + 2) ((w.alloc (.cells #[.int .i64 t, .int .i64 p, .int .i64 s] 23)).alloc (.cells #[.int .i64 u, .int .i64 num, .int .i64 ok, .int .i64 oa, .int .i64 ob] 57)) w1 := hb1.mono (by simp)
  have z1 : w.heap.size + 2 ≤ w1.heap.size := by have := hb1.size; simp at this; omega
  have x1 : w.heap.size < w1.heap.size := by omega
  have x1' : w.heap.size + 1 < w1.heap.size := by omega
  have hB1 : Below w.heap.size w w1 := hB0.trans (hb1.mono (by simp; omega))
  have q0 : w1.cell? ⟨w.heap.size, 0, none⟩ = some (.int .i64 t) := (hC1.cell (p := ⟨w.heap.size, 0, none⟩) (by first | omega | (simp; done) | (simp; omega))).trans (cellOld (by simp) (cellNew rfl rfl))
  have q1 : w1.cell? ⟨w.heap.size, 1, none⟩ = some (.int .i64 p) := (hC1.cell (p := ⟨w.heap.size, 1, none⟩) (by first | omega | (simp; done) | (simp; omega))).trans (cellOld (by simp) (cellNew rfl rfl))
  have q2 : w1.cell? ⟨w.heap.size, 2, none⟩ = some (.int .i64 s) := (hC1.cell (p := ⟨w.heap.size, 2, none⟩) (by first | omega | (simp; done) | (simp; omega))).trans (cellOld (by simp) (cellNew rfl rfl))
  have q3 : w1.cell? ⟨w.heap.size + 1, 0, none⟩ = some (.int .i64 u) := (hC1.cell (p := ⟨w.heap.size + 1, 0, none⟩) (by first | omega | (simp; done) | (simp; omega))).trans (cellNew (by simp) rfl)
  have q4 : w1.cell? ⟨w.heap.size + 1, 1, none⟩ = some (.int .i64 num) := (hC1.cell (p := ⟨w.heap.size + 1, 1, none⟩) (by first | omega | (simp; done) | (simp; omega))).trans (cellNew (by simp) rfl)
  have q5 : w1.cell? ⟨w.heap.size + 1, 2, none⟩ = some (.int .i64 ok) := (hC1.cell (p := ⟨w.heap.size + 1, 2, none⟩) (by first | omega | (simp; done) | (simp; omega))).trans (cellNew (by simp) rfl)
  have q6 : w1.cell? ⟨w.heap.size + 1, 3, none⟩ = some (.int .i64 oa) := (hC1.cell (p := ⟨w.heap.size + 1, 3, none⟩) (by first | omega | (simp; done) | (simp; omega))).trans (cellNew (by simp) rfl)
  have q7 : w1.cell? ⟨w.heap.size + 1, 4, none⟩ = some (.int .i64 ob) := (hC1.cell (p := ⟨w.heap.size + 1, 4, none⟩) (by first | omega | (simp; done) | (simp; omega))).trans (cellNew (by simp) rfl)
  clear hb1 hC1 hB0
  go_wp2_with fail
  refine (YA.out _ hB1).mono ?_
  rintro e w2 (⟨r, hr, a2, m2, cap2, rfl, ho2, hb2⟩ | ⟨h, _⟩)
  rotate_left
  · cases h
  cases hr
  have hm : m2 = len := by obtain ⟨a', c', h⟩ := ho2.anyForm; cases h; exact XL.out
  subst hm
  have z2 : w1.heap.size ≤ w2.heap.size := hb2.size
  have x2 : w.heap.size < w2.heap.size := by omega
  have x2' : w.heap.size + 1 < w2.heap.size := by omega
  have hB2 : Below w.heap.size w w2 := hB1.trans (hb2.mono (by omega))
  have q0 : w2.cell? ⟨w.heap.size, 0, none⟩ = some (.int .i64 t) := (hb2.cell (p := ⟨w.heap.size, 0, none⟩) (by (try simp); omega)).trans q0
  have q1 : w2.cell? ⟨w.heap.size, 1, none⟩ = some (.int .i64 p) := (hb2.cell (p := ⟨w.heap.size, 1, none⟩) (by (try simp); omega)).trans q1
  have q2 : w2.cell? ⟨w.heap.size, 2, none⟩ = some (.int .i64 s) := (hb2.cell (p := ⟨w.heap.size, 2, none⟩) (by (try simp); omega)).trans q2
  have q3 : w2.cell? ⟨w.heap.size + 1, 0, none⟩ = some (.int .i64 u) := (hb2.cell (p := ⟨w.heap.size + 1, 0, none⟩) (by (try simp); omega)).trans q3
  have q4 : w2.cell? ⟨w.heap.size + 1, 1, none⟩ = some (.int .i64 num) := (hb2.cell (p := ⟨w.heap.size + 1, 1, none⟩) (by (try simp); omega)).trans q4
  have q5 : w2.cell? ⟨w.heap.size + 1, 2, none⟩ = some (.int .i64 ok) := (hb2.cell (p := ⟨w.heap.size + 1, 2, none⟩) (by (try simp); omega)).trans q5
  have q6 : w2.cell? ⟨w.heap.size + 1, 3, none⟩ = some (.int .i64 oa) := (hb2.cell (p := ⟨w.heap.size + 1, 3, none⟩) (by (try simp); omega)).trans q6
  have q7 : w2.cell? ⟨w.heap.size + 1, 4, none⟩ = some (.int .i64 ob) := (hb2.cell (p := ⟨w.heap.size + 1, 4, none⟩) (by (try simp); omega)).trans q7
  clear hb2
  obtain ⟨g2, c2', hg2, hg2a, hg2b, _⟩ := ho2.form (by rw [XL.out]; omega)
  rw [XL.out] at hg2
  cases hg2
  go_wp2_with fail
  refine (L1.out _ _ _ ho2.seen).mono ?_
  rintro e w3 ⟨rfl, hb3⟩
  have z3 : w2.heap.size ≤ w3.heap.size := hb3.size
  have x3 : w.heap.size < w3.heap.size := by omega
  have x3' : w.heap.size + 1 < w3.heap.size := by omega
  have hB3 : Below w.heap.size w w3 := hB2.trans (hb3.mono (by omega))
  have q0 : w3.cell? ⟨w.heap.size, 0, none⟩ = some (.int .i64 t) := (hb3.cell (p := ⟨w.heap.size, 0, none⟩) (by (try simp); omega)).trans q0
  have q1 : w3.cell? ⟨w.heap.size, 1, none⟩ = some (.int .i64 p) := (hb3.cell (p := ⟨w.heap.size, 1, none⟩) (by (try simp); omega)).trans q1
  have q2 : w3.cell? ⟨w.heap.size, 2, none⟩ = some (.int .i64 s) := (hb3.cell (p := ⟨w.heap.size, 2, none⟩) (by (try simp); omega)).trans q2
  have q3 : w3.cell? ⟨w.heap.size + 1, 0, none⟩ = some (.int .i64 u) := (hb3.cell (p := ⟨w.heap.size + 1, 0, none⟩) (by (try simp); omega)).trans q3
  have q4 : w3.cell? ⟨w.heap.size + 1, 1, none⟩ = some (.int .i64 num) := (hb3.cell (p := ⟨w.heap.size + 1, 1, none⟩) (by (try simp); omega)).trans q4
  have q5 : w3.cell? ⟨w.heap.size + 1, 2, none⟩ = some (.int .i64 ok) := (hb3.cell (p := ⟨w.heap.size + 1, 2, none⟩) (by (try simp); omega)).trans q5
  have q6 : w3.cell? ⟨w.heap.size + 1, 3, none⟩ = some (.int .i64 oa) := (hb3.cell (p := ⟨w.heap.size + 1, 3, none⟩) (by (try simp); omega)).trans q6
  have q7 : w3.cell? ⟨w.heap.size + 1, 4, none⟩ = some (.int .i64 ob) := (hb3.cell (p := ⟨w.heap.size + 1, 4, none⟩) (by (try simp); omega)).trans q7
  have ho3 := ho2.kept hb3 (Nat.le_refl _)
  clear hb3 ho2
  go_wp2_with fail
  refine (S1.out _ _ _ ho3.seen).mono ?_
  rintro e w4 ⟨rfl, hb4⟩
  have z4 : w3.heap.size ≤ w4.heap.size := hb4.size
  have x4 : w.heap.size < w4.heap.size := by omega
  have x4' : w.heap.size + 1 < w4.heap.size := by omega
  have hB4 : Below w.heap.size w w4 := hB3.trans (hb4.mono (by omega))
  have q0 : w4.cell? ⟨w.heap.size, 0, none⟩ = some (.int .i64 t) := (hb4.cell (p := ⟨w.heap.size, 0, none⟩) (by (try simp); omega)).trans q0
  have q1 : w4.cell? ⟨w.heap.size, 1, none⟩ = some (.int .i64 p) := (hb4.cell (p := ⟨w.heap.size, 1, none⟩) (by (try simp); omega)).trans q1
  have q2 : w4.cell? ⟨w.heap.size, 2, none⟩ = some (.int .i64 s) := (hb4.cell (p := ⟨w.heap.size, 2, none⟩) (by (try simp); omega)).trans q2
  have q3 : w4.cell? ⟨w.heap.size + 1, 0, none⟩ = some (.int .i64 u) := (hb4.cell (p := ⟨w.heap.size + 1, 0, none⟩) (by (try simp); omega)).trans q3
  have q4 : w4.cell? ⟨w.heap.size + 1, 1, none⟩ = some (.int .i64 num) := (hb4.cell (p := ⟨w.heap.size + 1, 1, none⟩) (by (try simp); omega)).trans q4
  have q5 : w4.cell? ⟨w.heap.size + 1, 2, none⟩ = some (.int .i64 ok) := (hb4.cell (p := ⟨w.heap.size + 1, 2, none⟩) (by (try simp); omega)).trans q5
  have q6 : w4.cell? ⟨w.heap.size + 1, 3, none⟩ = some (.int .i64 oa) := (hb4.cell (p := ⟨w.heap.size + 1, 3, none⟩) (by (try simp); omega)).trans q6
  have q7 : w4.cell? ⟨w.heap.size + 1, 4, none⟩ = some (.int .i64 ob) := (hb4.cell (p := ⟨w.heap.size + 1, 4, none⟩) (by (try simp); omega)).trans q7
  have ho4 := (ho3.kept hb4 (Nat.le_refl _)).kept (B := w4.heap.size) ((Below.refl _ _).alloc (Nat.le_refl _) (.cells #[.int .i64 ok, .int .i64 oa, .int .i64 ob] 55)) (Nat.le_refl _)
  clear hb4 ho3
  go_wp2_with fail
  refine (refCallW t p s u 1 _).mono ?_
  rw [CW.out]
  rintro e w5 ⟨rfl, hb5⟩
  have hb5' : Below (w4.heap.size + 1) (w4.alloc (.cells #[.int .i64 ok, .int .i64 oa, .int .i64 ob] 55)) w5 := hb5.mono (by simp)
  have z5 : w4.heap.size + 1 ≤ w5.heap.size := by have := hb5'.size; simp at this; omega
  have hB5 : Below w.heap.size w w5 := (hB4.alloc (by omega) _).trans (hb5'.mono (by omega))
  have ho5 := ho4.kept hb5 (Nat.le_refl _)
  clear hb5 hb5' ho4 q0 q1 q2 q3 q4 q5 q6 q7
  go_wp2_with fail
  go_loopw [18] (fun i wr => ∃ j : Nat, j ≤ m2 ∧ i = .int .i64 j ∧ Own 46 .u64 wr w1.heap.size (.slice (some ⟨g2, 0, none⟩) m2 cap2) XS ∧ Below w.heap.size w wr) (fun i _ => m2 - (intOf i).toNat)
  case atStart => exact ⟨0, by omega, rfl, ho5, hB5⟩
  case round =>
    clear ho5 hB5
    obtain ⟨j, hj, rfl, hO, hB⟩ := hrel
    by_cases hlt : j < m2
    · obtain ⟨_, _, _, h6⟩ := HS.out.below hB
      rcases h6 with ⟨h6, _⟩ | ⟨b0, off, rfl, hcr⟩
      · omega
      have hcw := hcr j hlt
      have hcx := hO.cell XL.out j hlt
      have g2A : g2 < wr.heap.size := World.block_lt_of_cell? wr _ hcx
      have b0A : b0 < wr.heap.size := World.block_lt_of_cell? wr _ hcw
      have i0 : (0 : Int) ≤ (j : Int) := by omega
      have i1 : (j : Int) < (m2 : Int) := by omega
      have df := hid (DF.out j)
      clear hcr
      generalize XS[j]?.getD 0 = x at hcx df
      generalize ws[j]?.getD 0 = y at hcw df
      have wrp : IntKind.i64.wrap ((c : Int) + 3) = (c : Int) + 3 := IntWalk.i64_in _ (by omega)
      by_cases hxy : x = y
      · subst hxy
        go_wp2_with fail
        refine regionBelow (by kernel_rfl) (by kernel_rfl) ?_
        repeat (go_big_quiet_step (fail))
        refine wpQuiet_nil ?_
        intro _ hw'
        obtain ⟨nq, hw''⟩ := hw'
        subst hw''
        have hn2 := nq.below
        have hO2 := hO.kept hn2 (Nat.le_refl _)
        have hB2' := hB.trans (hn2.mono hB.size)
        clear hn2 hO hB
        go_wp2_with fail
        go_roundw
        case rel => exact ⟨j + 1, by omega, by go_num, hO2, hB2'⟩
        case measure => simp [intOf]; omega
      · have hd := df.out hxy
        have dx : ((x : Int) != (y : Int)) = true := by rw [bne_iff_ne]; omega
        have d1 : decide (j < c) = false := by simp; omega
        have d2 : decide ((j : Int) < (c : Int)) = false := by simp; omega
        have d3 : decide ((c : Int) + 3 < (j : Int)) = false := by simp; omega
        go_wp2_with fail
        refine regionBelow (by kernel_rfl) (by kernel_rfl) ?_
        repeat (go_big_quiet_step (fail))
        refine wpQuiet_nil ?_
        intro _ hw'
        obtain ⟨nq, hw''⟩ := hw'
        subst hw''
        have hn2 := nq.below
        have hO2 := hO.kept hn2 (Nat.le_refl _)
        have hB2' := hB.trans (hn2.mono hB.size)
        clear hn2 hO hB
        go_wp2_with fail
        go_roundw
        case rel => exact ⟨j + 1, by omega, by go_num, hO2, hB2'⟩
        case measure => simp [intOf]; omega
    · obtain rfl : j = m2 := by omega
      clear hO
      go_wp2_with fail
      refine (live28 _).mono ?_
      rintro e w9 ⟨rfl, hb9⟩
      have hB9 : Below w.heap.size w w9 := hB.trans (hb9.mono hB.size)
      clear hb9
      go_wp2_with fail
      go_ret
      exact ⟨rfl, hB9⟩

set_option maxRecDepth 100000 in
set_option maxHeartbeats 6400000 in
theorem callLaysSome1 (w : World) (t p s : Int) (a : Option Addr) (len cap : Nat) (ws : List Nat) (u num ok oa ob : Int) (hs : Seen .u64 w a len cap ws) (hf : len ≤ 3000) (h0 : 0 < len) (ln : Int) (XS : List Nat) (c : Nat)
    (LA : RowKit.Hid (∀ w', Below w.heap.size w w' → Calls Try.prog 25 #[.agg #[.int .i64 t, .int .i64 p, .int .i64 s], .slice a len cap, .int .i64 u] w' fun e w'' => e = .returned (.tuple #[.int .i64 ln, .int .i64 1, .bool true]) ∧ Below w'.heap.size w' w''))
    (YA : RowKit.Hid (∀ w', Below w.heap.size w w' → Calls Try.prog 29 #[.agg #[.int .i64 t, .int .i64 p, .int .i64 s], .slice a len cap, .int .i64 u, .int .i64 num, .agg #[.int .i64 ok, .int .i64 oa, .int .i64 ob]] w' (OptPost 46 .u64 w' (some XS))))
    (L1 : RowKit.Hid (∀ w' a' cap', Seen .u64 w' a' len cap' XS → Calls Try.prog 25 #[.agg #[.int .i64 t, .int .i64 p, .int .i64 s], .slice a' len cap', .int .i64 u] w' fun e w'' => e = .returned (.tuple #[.int .i64 num, .int .i64 0, .bool true]) ∧ Below w'.heap.size w' w''))
    (S1 : RowKit.Hid (∀ w' a' cap', Seen .u64 w' a' len cap' XS → Calls Try.prog 27 #[.agg #[.int .i64 t, .int .i64 p, .int .i64 s], .slice a' len cap', .int .i64 u, .int .i64 num] w' fun e w'' => e = .returned (.tuple #[.agg #[.int .i64 ok, .int .i64 oa, .int .i64 ob], .bool true]) ∧ Below w'.heap.size w' w''))
    (CW : RowKit.Hid (callW t p s u 0 = (c : Int))) (XL : RowKit.Hid (XS.length = len)) (hn : ln < num) (hcl : c + 4 ≤ len) (DF : RowKit.Hid (∀ i, XS[i]?.getD 0 ≠ ws[i]?.getD 0 → c ≤ i ∧ i < c + 4)) :
    Calls Try.prog 8 #[.agg #[.int .i64 t, .int .i64 p, .int .i64 s], .slice a len cap, .agg #[.int .i64 u, .int .i64 num, .int .i64 ok, .int .i64 oa, .int .i64 ob]] w fun e w' => e = .returned (.bool true) ∧ Below w.heap.size w w' := by
  have hl1 := hs.2.1
  have hl2 : cap ≤ maxLen := hs.2.2.1
  have HS := hid hs
  have hq := extCell
  have dn : decide (num ≤ ln) = false := by simp; omega
  clear hs
  go_enter Try.func8, Try.ntmps8
  go_wp2_with fail
  have hB0 : Below w.heap.size w ((w.alloc (.cells #[.int .i64 t, .int .i64 p, .int .i64 s] 23)).alloc (.cells #[.int .i64 u, .int .i64 num, .int .i64 ok, .int .i64 oa, .int .i64 ob] 57)) := ((Below.refl _ _).alloc (Nat.le_refl _) _).alloc (by simp) _
  refine (LA.out _ hB0).mono ?_
  rintro e w1 ⟨rfl, hb1⟩
  have hC1 : Below (w.heap.size + 2) ((w.alloc (.cells #[.int .i64 t, .int .i64 p, .int .i64 s] 23)).alloc (.cells #[.int .i64 u, .int .i64 num, .int .i64 ok, .int .i64 oa, .int .i64 ob] 57)) w1 := hb1.mono (by simp)
  have z1 : w.heap.size + 2 ≤ w1.heap.size := by have := hb1.size; simp at this; omega
  have x1 : w.heap.size < w1.heap.size := by omega
  have x1' : w.heap.size + 1 < w1.heap.size := by omega
  have hB1 : Below w.heap.size w w1 := hB0.trans (hb1.mono (by simp; omega))
  have q0 : w1.cell? ⟨w.heap.size, 0, none⟩ = some (.int .i64 t) := (hC1.cell (p := ⟨w.heap.size, 0, none⟩) (by first | omega | (simp; done) | (simp; omega))).trans (cellOld (by simp) (cellNew rfl rfl))
  have q1 : w1.cell? ⟨w.heap.size, 1, none⟩ = some (.int .i64 p) := (hC1.cell (p := ⟨w.heap.size, 1, none⟩) (by first | omega | (simp; done) | (simp; omega))).trans (cellOld (by simp) (cellNew rfl rfl))
  have q2 : w1.cell? ⟨w.heap.size, 2, none⟩ = some (.int .i64 s) := (hC1.cell (p := ⟨w.heap.size, 2, none⟩) (by first | omega | (simp; done) | (simp; omega))).trans (cellOld (by simp) (cellNew rfl rfl))
  have q3 : w1.cell? ⟨w.heap.size + 1, 0, none⟩ = some (.int .i64 u) := (hC1.cell (p := ⟨w.heap.size + 1, 0, none⟩) (by first | omega | (simp; done) | (simp; omega))).trans (cellNew (by simp) rfl)
  have q4 : w1.cell? ⟨w.heap.size + 1, 1, none⟩ = some (.int .i64 num) := (hC1.cell (p := ⟨w.heap.size + 1, 1, none⟩) (by first | omega | (simp; done) | (simp; omega))).trans (cellNew (by simp) rfl)
  have q5 : w1.cell? ⟨w.heap.size + 1, 2, none⟩ = some (.int .i64 ok) := (hC1.cell (p := ⟨w.heap.size + 1, 2, none⟩) (by first | omega | (simp; done) | (simp; omega))).trans (cellNew (by simp) rfl)
  have q6 : w1.cell? ⟨w.heap.size + 1, 3, none⟩ = some (.int .i64 oa) := (hC1.cell (p := ⟨w.heap.size + 1, 3, none⟩) (by first | omega | (simp; done) | (simp; omega))).trans (cellNew (by simp) rfl)
  have q7 : w1.cell? ⟨w.heap.size + 1, 4, none⟩ = some (.int .i64 ob) := (hC1.cell (p := ⟨w.heap.size + 1, 4, none⟩) (by first | omega | (simp; done) | (simp; omega))).trans (cellNew (by simp) rfl)
  clear hb1 hC1 hB0
  go_wp2_with fail
  refine (YA.out _ hB1).mono ?_
  rintro e w2 (⟨r, hr, a2, m2, cap2, rfl, ho2, hb2⟩ | ⟨h, _⟩)
  rotate_left
  · cases h
  cases hr
  have hm : m2 = len := by obtain ⟨a', c', h⟩ := ho2.anyForm; cases h; exact XL.out
  subst hm
  have z2 : w1.heap.size ≤ w2.heap.size := hb2.size
  have x2 : w.heap.size < w2.heap.size := by omega
  have x2' : w.heap.size + 1 < w2.heap.size := by omega
  have hB2 : Below w.heap.size w w2 := hB1.trans (hb2.mono (by omega))
  have q0 : w2.cell? ⟨w.heap.size, 0, none⟩ = some (.int .i64 t) := (hb2.cell (p := ⟨w.heap.size, 0, none⟩) (by (try simp); omega)).trans q0
  have q1 : w2.cell? ⟨w.heap.size, 1, none⟩ = some (.int .i64 p) := (hb2.cell (p := ⟨w.heap.size, 1, none⟩) (by (try simp); omega)).trans q1
  have q2 : w2.cell? ⟨w.heap.size, 2, none⟩ = some (.int .i64 s) := (hb2.cell (p := ⟨w.heap.size, 2, none⟩) (by (try simp); omega)).trans q2
  have q3 : w2.cell? ⟨w.heap.size + 1, 0, none⟩ = some (.int .i64 u) := (hb2.cell (p := ⟨w.heap.size + 1, 0, none⟩) (by (try simp); omega)).trans q3
  have q4 : w2.cell? ⟨w.heap.size + 1, 1, none⟩ = some (.int .i64 num) := (hb2.cell (p := ⟨w.heap.size + 1, 1, none⟩) (by (try simp); omega)).trans q4
  have q5 : w2.cell? ⟨w.heap.size + 1, 2, none⟩ = some (.int .i64 ok) := (hb2.cell (p := ⟨w.heap.size + 1, 2, none⟩) (by (try simp); omega)).trans q5
  have q6 : w2.cell? ⟨w.heap.size + 1, 3, none⟩ = some (.int .i64 oa) := (hb2.cell (p := ⟨w.heap.size + 1, 3, none⟩) (by (try simp); omega)).trans q6
  have q7 : w2.cell? ⟨w.heap.size + 1, 4, none⟩ = some (.int .i64 ob) := (hb2.cell (p := ⟨w.heap.size + 1, 4, none⟩) (by (try simp); omega)).trans q7
  clear hb2
  obtain ⟨g2, c2', hg2, hg2a, hg2b, _⟩ := ho2.form (by rw [XL.out]; omega)
  rw [XL.out] at hg2
  cases hg2
  go_wp2_with fail
  refine (L1.out _ _ _ ho2.seen).mono ?_
  rintro e w3 ⟨rfl, hb3⟩
  have z3 : w2.heap.size ≤ w3.heap.size := hb3.size
  have x3 : w.heap.size < w3.heap.size := by omega
  have x3' : w.heap.size + 1 < w3.heap.size := by omega
  have hB3 : Below w.heap.size w w3 := hB2.trans (hb3.mono (by omega))
  have q0 : w3.cell? ⟨w.heap.size, 0, none⟩ = some (.int .i64 t) := (hb3.cell (p := ⟨w.heap.size, 0, none⟩) (by (try simp); omega)).trans q0
  have q1 : w3.cell? ⟨w.heap.size, 1, none⟩ = some (.int .i64 p) := (hb3.cell (p := ⟨w.heap.size, 1, none⟩) (by (try simp); omega)).trans q1
  have q2 : w3.cell? ⟨w.heap.size, 2, none⟩ = some (.int .i64 s) := (hb3.cell (p := ⟨w.heap.size, 2, none⟩) (by (try simp); omega)).trans q2
  have q3 : w3.cell? ⟨w.heap.size + 1, 0, none⟩ = some (.int .i64 u) := (hb3.cell (p := ⟨w.heap.size + 1, 0, none⟩) (by (try simp); omega)).trans q3
  have q4 : w3.cell? ⟨w.heap.size + 1, 1, none⟩ = some (.int .i64 num) := (hb3.cell (p := ⟨w.heap.size + 1, 1, none⟩) (by (try simp); omega)).trans q4
  have q5 : w3.cell? ⟨w.heap.size + 1, 2, none⟩ = some (.int .i64 ok) := (hb3.cell (p := ⟨w.heap.size + 1, 2, none⟩) (by (try simp); omega)).trans q5
  have q6 : w3.cell? ⟨w.heap.size + 1, 3, none⟩ = some (.int .i64 oa) := (hb3.cell (p := ⟨w.heap.size + 1, 3, none⟩) (by (try simp); omega)).trans q6
  have q7 : w3.cell? ⟨w.heap.size + 1, 4, none⟩ = some (.int .i64 ob) := (hb3.cell (p := ⟨w.heap.size + 1, 4, none⟩) (by (try simp); omega)).trans q7
  have ho3 := ho2.kept hb3 (Nat.le_refl _)
  clear hb3 ho2
  go_wp2_with fail
  refine (S1.out _ _ _ ho3.seen).mono ?_
  rintro e w4 ⟨rfl, hb4⟩
  have z4 : w3.heap.size ≤ w4.heap.size := hb4.size
  have x4 : w.heap.size < w4.heap.size := by omega
  have x4' : w.heap.size + 1 < w4.heap.size := by omega
  have hB4 : Below w.heap.size w w4 := hB3.trans (hb4.mono (by omega))
  have q0 : w4.cell? ⟨w.heap.size, 0, none⟩ = some (.int .i64 t) := (hb4.cell (p := ⟨w.heap.size, 0, none⟩) (by (try simp); omega)).trans q0
  have q1 : w4.cell? ⟨w.heap.size, 1, none⟩ = some (.int .i64 p) := (hb4.cell (p := ⟨w.heap.size, 1, none⟩) (by (try simp); omega)).trans q1
  have q2 : w4.cell? ⟨w.heap.size, 2, none⟩ = some (.int .i64 s) := (hb4.cell (p := ⟨w.heap.size, 2, none⟩) (by (try simp); omega)).trans q2
  have q3 : w4.cell? ⟨w.heap.size + 1, 0, none⟩ = some (.int .i64 u) := (hb4.cell (p := ⟨w.heap.size + 1, 0, none⟩) (by (try simp); omega)).trans q3
  have q4 : w4.cell? ⟨w.heap.size + 1, 1, none⟩ = some (.int .i64 num) := (hb4.cell (p := ⟨w.heap.size + 1, 1, none⟩) (by (try simp); omega)).trans q4
  have q5 : w4.cell? ⟨w.heap.size + 1, 2, none⟩ = some (.int .i64 ok) := (hb4.cell (p := ⟨w.heap.size + 1, 2, none⟩) (by (try simp); omega)).trans q5
  have q6 : w4.cell? ⟨w.heap.size + 1, 3, none⟩ = some (.int .i64 oa) := (hb4.cell (p := ⟨w.heap.size + 1, 3, none⟩) (by (try simp); omega)).trans q6
  have q7 : w4.cell? ⟨w.heap.size + 1, 4, none⟩ = some (.int .i64 ob) := (hb4.cell (p := ⟨w.heap.size + 1, 4, none⟩) (by (try simp); omega)).trans q7
  have ho4 := (ho3.kept hb4 (Nat.le_refl _)).kept (B := w4.heap.size) ((Below.refl _ _).alloc (Nat.le_refl _) (.cells #[.int .i64 ok, .int .i64 oa, .int .i64 ob] 55)) (Nat.le_refl _)
  clear hb4 ho3
  go_wp2_with fail
  refine (refCallW t p s u 0 _).mono ?_
  rw [CW.out]
  rintro e w5 ⟨rfl, hb5⟩
  have hb5' : Below (w4.heap.size + 1) (w4.alloc (.cells #[.int .i64 ok, .int .i64 oa, .int .i64 ob] 55)) w5 := hb5.mono (by simp)
  have z5 : w4.heap.size + 1 ≤ w5.heap.size := by have := hb5'.size; simp at this; omega
  have hB5 : Below w.heap.size w w5 := (hB4.alloc (by omega) _).trans (hb5'.mono (by omega))
  have ho5 := ho4.kept hb5 (Nat.le_refl _)
  clear hb5 hb5' ho4 q0 q1 q2 q3 q4 q5 q6 q7
  go_wp2_with fail
  go_loopw [18] (fun i wr => ∃ j : Nat, j ≤ m2 ∧ i = .int .i64 j ∧ Own 46 .u64 wr w1.heap.size (.slice (some ⟨g2, 0, none⟩) m2 cap2) XS ∧ Below w.heap.size w wr) (fun i _ => m2 - (intOf i).toNat)
  case atStart => exact ⟨0, by omega, rfl, ho5, hB5⟩
  case round =>
    clear ho5 hB5
    obtain ⟨j, hj, rfl, hO, hB⟩ := hrel
    by_cases hlt : j < m2
    · obtain ⟨_, _, _, h6⟩ := HS.out.below hB
      rcases h6 with ⟨h6, _⟩ | ⟨b0, off, rfl, hcr⟩
      · omega
      have hcw := hcr j hlt
      have hcx := hO.cell XL.out j hlt
      have g2A : g2 < wr.heap.size := World.block_lt_of_cell? wr _ hcx
      have b0A : b0 < wr.heap.size := World.block_lt_of_cell? wr _ hcw
      have i0 : (0 : Int) ≤ (j : Int) := by omega
      have i1 : (j : Int) < (m2 : Int) := by omega
      have df := hid (DF.out j)
      clear hcr
      generalize XS[j]?.getD 0 = x at hcx df
      generalize ws[j]?.getD 0 = y at hcw df
      have wrp : IntKind.i64.wrap ((c : Int) + 3) = (c : Int) + 3 := IntWalk.i64_in _ (by omega)
      by_cases hxy : x = y
      · subst hxy
        go_wp2_with fail
        refine regionBelow (by kernel_rfl) (by kernel_rfl) ?_
        repeat (go_big_quiet_step (fail))
        refine wpQuiet_nil ?_
        intro _ hw'
        obtain ⟨nq, hw''⟩ := hw'
        subst hw''
        have hn2 := nq.below
        have hO2 := hO.kept hn2 (Nat.le_refl _)
        have hB2' := hB.trans (hn2.mono hB.size)
        clear hn2 hO hB
        go_wp2_with fail
        go_roundw
        case rel => exact ⟨j + 1, by omega, by go_num, hO2, hB2'⟩
        case measure => simp [intOf]; omega
      · have hd := df.out hxy
        have dx : ((x : Int) != (y : Int)) = true := by rw [bne_iff_ne]; omega
        have d1 : decide (j < c) = false := by simp; omega
        have d2 : decide ((j : Int) < (c : Int)) = false := by simp; omega
        have d3 : decide ((c : Int) + 3 < (j : Int)) = false := by simp; omega
        go_wp2_with fail
        refine regionBelow (by kernel_rfl) (by kernel_rfl) ?_
        repeat (go_big_quiet_step (fail))
        refine wpQuiet_nil ?_
        intro _ hw'
        obtain ⟨nq, hw''⟩ := hw'
        subst hw''
        have hn2 := nq.below
        have hO2 := hO.kept hn2 (Nat.le_refl _)
        have hB2' := hB.trans (hn2.mono hB.size)
        clear hn2 hO hB
        go_wp2_with fail
        go_roundw
        case rel => exact ⟨j + 1, by omega, by go_num, hO2, hB2'⟩
        case measure => simp [intOf]; omega
    · obtain rfl : j = m2 := by omega
      clear hO
      go_wp2_with fail
      refine (live28 _).mono ?_
      rintro e w9 ⟨rfl, hb9⟩
      have hB9 : Below w.heap.size w w9 := hB.trans (hb9.mono hB.size)
      clear hb9
      go_wp2_with fail
      go_ret
      exact ⟨rfl, hB9⟩

theorem lawCallLays (w : World) (t p s : Int) (a : Option Addr) (len cap : Nat) (ws : List Nat) (u num ok oa ob : Int) (t1 : -9223372036854775808 ≤ t) (t2 : t ≤ 9223372036854775807) (p1 : -9223372036854775808 ≤ p) (p2 : p ≤ 9223372036854775807) (s1 : -9223372036854775808 ≤ s) (s2 : s ≤ 9223372036854775807)
    (hs : Seen .u64 w a len cap ws) (hf : Fit 18446744073709551616 ws) (u1 : -9223372036854775808 ≤ u) (u2 : u ≤ 9223372036854775807) (n1 : -9223372036854775808 ≤ num) (n2 : num ≤ 9223372036854775807) (k1 : -9223372036854775808 ≤ ok) (k2 : ok ≤ 9223372036854775807) (aa1 : -9223372036854775808 ≤ oa) (aa2 : oa ≤ 9223372036854775807) (bb1 : -9223372036854775808 ≤ ob) (bb2 : ob ≤ 9223372036854775807) :
    Calls Try.prog 8 #[.agg #[.int .i64 t, .int .i64 p, .int .i64 s], .slice a len cap, .agg #[.int .i64 u, .int .i64 num, .int .i64 ok, .int .i64 oa, .int .i64 ob]] w fun e w' => e = .returned (.bool true) ∧ Below w.heap.size w w' := by
  have hl1 := hs.2.1
  have hl2 : cap ≤ maxLen := hs.2.2.1
  by_cases hw : len ≤ 3000
  · by_cases h : okW t p s len ∧ 0 ≤ u ∧ u < t
    · cases hl : layB t p u ws num ok oa ob
      · exact callLaysNone w t p s a len cap ws u num ok oa ob hl1 hl2 hw _ _ _
          (hid fun w' hb => callLastYes t p s u w' a len cap ws (hs.below hb) h.1 h.2.1 h.2.2)
          (hid fun w' hb => by have g := callLayYes t p s u w' a len cap ws num ok oa ob (hs.below hb) h.1 h.2.1 h.2.2; rw [layC, hl] at g; exact g)
      · have F := laidC h.1 h.2.1 h.2.2 hs.1 hl k1 k2 aa1 aa2 bb1 bb2
        obtain ⟨m1, m2, m3⟩ := mkI_bd h.1 h.2.1 h.2.2
        have hl' := hl
        rw [layB, Bool.and_eq_true] at hl'
        obtain ⟨g3, g4⟩ := of_decide_eq_true hl'.1
        have hbs : lastB t p u ws = 0 ∨ lastB t p u ws = 1 := by unfold lastB; split <;> simp
        rcases hbs with hb' | hb'
        · skip
          exact callLaysSome0 w t p s a len cap ws u num ok oa ob hs hw (by omega) (lastN t p u ws : Int) _ (mkI t p u + 8)
            (hid fun w' hb => by have g := callLastYes t p s u w' a len cap ws (hs.below hb) h.1 h.2.1 h.2.2; rw [hb'] at g; exact g)
            (hid fun w' hb => by have g := callLayYes t p s u w' a len cap ws num ok oa ob (hs.below hb) h.1 h.2.1 h.2.2; rw [layC, if_pos hl] at g; exact g)
            (hid fun w' a' cap' hx => by have g := callLastYes t p s u w' a' len cap' _ hx h.1 h.2.1 h.2.2; rw [F.last, F.which, hb'] at g; exact g)
            (hid fun w' a' cap' hx => by have g := callSaidYes t p s u w' a' len cap' _ num hx h.1 h.2.1 h.2.2; rw [F.said] at g; exact g)
            (hid (by rw [callW, if_pos ⟨h.1.1, ⟨h.2.1, by omega⟩, by omega, by omega⟩]; omega)) (hid F.length) g3 (by omega)
            (hid fun i hi => by have g := F.rest i hi; rw [hb'] at g; omega)
        · skip
          exact callLaysSome1 w t p s a len cap ws u num ok oa ob hs hw (by omega) (lastN t p u ws : Int) _ (mkI t p u)
            (hid fun w' hb => by have g := callLastYes t p s u w' a len cap ws (hs.below hb) h.1 h.2.1 h.2.2; rw [hb'] at g; exact g)
            (hid fun w' hb => by have g := callLayYes t p s u w' a len cap ws num ok oa ob (hs.below hb) h.1 h.2.1 h.2.2; rw [layC, if_pos hl] at g; exact g)
            (hid fun w' a' cap' hx => by have g := callLastYes t p s u w' a' len cap' _ hx h.1 h.2.1 h.2.2; rw [F.last, F.which, hb'] at g; exact g)
            (hid fun w' a' cap' hx => by have g := callSaidYes t p s u w' a' len cap' _ num hx h.1 h.2.1 h.2.2; rw [F.said] at g; exact g)
            (hid (by rw [callW, if_pos ⟨h.1.1, ⟨h.2.1, by omega⟩, by omega, by omega⟩]; omega)) (hid F.length) g3 (by omega)
            (hid fun i hi => by have g := F.rest i hi; rw [hb'] at g; omega)
    · exact callLaysNone w t p s a len cap ws u num ok oa ob hl1 hl2 hw _ _ _
        (hid fun w' hb => callLastNo t p s u w' a len cap ws ⟨hl1, hl2⟩ h)
        (hid fun w' hb => callLayNo t p s u w' a len cap ws num ok oa ob ⟨hl1, hl2⟩ h)
  · exact callLaysBig w t p s a len cap ws u num ok oa ob hl1 hl2 (by omega)
end Go.Proofs.Ytkkhoiahjmfibaa
