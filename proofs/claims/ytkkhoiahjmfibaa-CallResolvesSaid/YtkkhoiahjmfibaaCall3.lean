/- Rows into which something is copied; the walk of package call's Lay. -/
import Derived.Test.YtkkhoiahjmfibaaCall2
import Derived.Test.YtkkhoiahjmfibaaEq
namespace Go.Proofs.Ytkkhoiahjmfibaa
open Go.RowKit
set_option linter.unusedVariables false
set_option linter.unusedSimpArgs false

theorem Own.row {e : TypeId} {k : IntKind} {w : World} {base g n cap : Nat} {xs : List Nat} (h : Own e k w base (.slice (some ⟨g, 0, none⟩) n cap) xs) (hn : xs.length = n) :
    ∃ cur : List Value, w.heap[g]? = some (.cells cur.toArray e (0, 0)) ∧ cur.length = cap ∧ cur.take n = xs.map (fun x : Nat => Value.int k (x : Int)) ∧ n ≤ cap ∧ cap ≤ maxLen ∧ base ≤ g := by
  subst hn
  have h' : w.ownsRow base e 1 (.slice (some ⟨g, 0, none⟩) xs.length cap) xs.length (xs.map fun x : Nat => Value.int k (x : Int)) := h
  rcases h'.2 with ⟨hv, _⟩ | ⟨g', cap', cur, hv, hb, hg, hnc, hcm, hcs, htake⟩
  · cases hv
  · cases hv
    exact ⟨cur.toList, by simpa using hg, by simpa using hcs, by simpa using htake, hnc, hcm, hb⟩
theorem splice_take {α : Type} (L cs : List α) (off n : Nat) (h : off + cs.length ≤ n) (hn : n ≤ L.length) : (splice L off cs).take n = splice (L.take n) off cs := by
  unfold splice
  have e1 : (L.take off).length = off := by rw [List.length_take]; omega
  rw [List.take_append, List.take_append, e1, List.take_take, List.take_take, Nat.min_eq_right (show off ≤ n by omega), Nat.min_eq_left (show off ≤ n by omega), List.take_of_length_le (show cs.length ≤ n - off by omega), List.drop_take, show n - off - cs.length = n - (off + cs.length) by omega]
theorem splice_map {α β : Type} (f : α → β) (L cs : List α) (off : Nat) : (splice L off cs).map f = splice (L.map f) off (cs.map f) := by
  simp [splice, List.map_take, List.map_drop]
theorem Own.spliced {e : TypeId} {k : IntKind} {w' : World} {base g n cap off : Nat} {xs ys : List Nat} {cur : List Value} (hcap : cur.length = cap) (ht : cur.take n = xs.map (fun x : Nat => Value.int k (x : Int))) (hn : xs.length = n) (hnc : n ≤ cap) (hcm : cap ≤ maxLen) (hb : base ≤ g)
    (hfit : off + ys.length ≤ n) (hw : w'.heap[g]? = some (.cells (splice cur off (ys.map fun x : Nat => Value.int k (x : Int))).toArray e (0, 0))) :
    Own e k w' base (.slice (some ⟨g, 0, none⟩) n cap) (splice xs off ys) := by
  have hl : (splice xs off ys).length = n := by rw [length_splice _ _ _ (by omega), hn]
  show w'.ownsRow base e 1 _ (splice xs off ys).length _
  rw [hl]
  refine ⟨by simp [hl], .inr ⟨g, cap, _, rfl, hb, hw, hnc, hcm, ?_, ?_⟩⟩
  · simp only [List.size_toArray, Nat.mul_one]
    rw [length_splice _ _ _ (by simp; omega), hcap]
  · simp only [Nat.mul_one]
    rw [splice_take _ _ _ _ (by simp; omega) (by omega), ht, ← splice_map]
theorem splice_at (xs ys : List Nat) (off i : Nat) (h : off + ys.length ≤ xs.length) : (splice xs off ys)[i]?.getD 0 = if off ≤ i ∧ i < off + ys.length then ys[i - off]?.getD 0 else xs[i]?.getD 0 := by
  unfold splice
  by_cases h1 : i < off
  · rw [if_neg (by omega), List.getElem?_append_left (by rw [List.length_take]; omega), List.getElem?_take, if_pos h1]
  · rw [List.getElem?_append_right (by rw [List.length_take]; omega), List.length_take, Nat.min_eq_left (by omega)]
    by_cases h2 : i < off + ys.length
    · rw [if_pos ⟨by omega, h2⟩, List.getElem?_append_left (by omega)]
    · rw [if_neg (by omega), List.getElem?_append_right (by omega), List.getElem?_drop]
      congr 2
      omega
theorem wrapNat (k : Int) : ∃ m : Nat, IntKind.u64.wrap k = (m : Int) ∧ m < 18446744073709551616 := by
  rw [IntKind.wrap_u64]
  exact ⟨(k % 18446744073709551616).toNat, by omega, by omega⟩

theorem eqCall4 (a0 a1 a2 a3 b0 b1 b2 b3 : Int) (w : World) : (Op.equalIn 10000 94 (.agg #[.int .u64 a0, .int .u64 a1, .int .u64 a2, .int .u64 a3]) (.agg #[.int .u64 b0, .int .u64 b1, .int .u64 b2, .int .u64 b3])).run Try.prog w = .ok (a0 == b0 && (a1 == b1 && (a2 == b2 && a3 == b3))) w := by
  obtain ⟨i, hi⟩ := infoSome (show (Try.prog.info? 46).map (fun i => (i.zero, i.size, i.bytes)) = some (some (.int .u64 0), 1, 8) by kernel_rfl)
  have h := equalIn_ints (P := Try.prog) (k := .u64) Try.underlying94 hi Try.underlying46 (by kernel_rfl) (by kernel_rfl) [a0, a1, a2, a3] [b0, b1, b2, b3] rfl rfl w
  have e : ([a0, a1, a2, a3] == [b0, b1, b2, b3]) = (a0 == b0 && (a1 == b1 && (a2 == b2 && a3 == b3))) := by simp
  rw [e] at h
  exact h

theorem src3 {W : World} {b o : Nat} {k : IntKind} {a0 a1 a2 : Nat} (h0 : W.cell? ⟨b, o, none⟩ = some (.int k (a0 : Int))) (h1 : W.cell? ⟨b, o + 1, none⟩ = some (.int k (a1 : Int))) (h2 : W.cell? ⟨b, o + 2, none⟩ = some (.int k (a2 : Int))) :
    ∀ j v, ([.int k (a0 : Int), .int k (a1 : Int), .int k (a2 : Int)] : List Value)[j]? = some v → W.cell? ((⟨b, o, none⟩ : Addr).add j) = some v := by
  intro j v h
  match j, h with
  | 0, h => simp at h; subst h; simpa [Addr.add] using h0
  | 1, h => simp at h; subst h; simpa [Addr.add] using h1
  | 2, h => simp at h; subst h; simpa [Addr.add] using h2
  | j + 3, h => simp at h
theorem cellIn {W : World} {g : Nat} {L : List Value} {T : TypeId} (h : W.heap[g]? = some (.cells L.toArray T (0, 0))) (j : Nat) {v : Value} (hj : L[j]? = some v) : W.cell? ⟨g, j, none⟩ = some v := by
  rw [cell_of_row W g j _ _ (0, 0) h]
  simpa using hj

/-- The words with a call that is laid. -/
def layW (t p u : Int) (ws : List Nat) (num k a b : Int) : List Nat := splice ws (mkI t p u + 8 * (1 - lastB t p u ws)) [num.toNat, (IntKind.u64.wrap k).toNat, (IntKind.u64.wrap a).toNat, (IntKind.u64.wrap b).toNat]
def layB (t p u : Int) (ws : List Nat) (num k a b : Int) : Bool := decide ((lastN t p u ws : Int) < num ∧ num ≤ 2147483647) && rightB k a b
def layC (t p u : Int) (ws : List Nat) (num k a b : Int) : Option (List Nat) := if layB t p u ws num k a b = true then some (layW t p u ws num k a b) else none

theorem callLayNo (t p s u : Int) (w : World) (a : Option Addr) (len cap : Nat) (ws : List Nat) (num ok oa ob : Int) (hl : len ≤ cap ∧ cap ≤ maxLen) (h : ¬ (okW t p s len ∧ 0 ≤ u ∧ u < t)) :
    Calls Try.prog 29 #[.agg #[.int .i64 t, .int .i64 p, .int .i64 s], .slice a len cap, .int .i64 u, .int .i64 num, .agg #[.int .i64 ok, .int .i64 oa, .int .i64 ob]] w (OptPost 46 .u64 w none) := by
  have H := hid h
  have HL := hid hl
  clear h hl
  go_enter Try.func29, Try.ntmps29
  go_wp2_with fail
  refine (callLastNo t p s u _ a len cap ws HL.out H.out).mono ?_
  rintro e w1 ⟨rfl, hb1⟩
  have hC1 : Below (w.heap.size + 2) ((w.alloc (.cells #[.int .i64 t, .int .i64 p, .int .i64 s] 23)).alloc (.cells #[.int .i64 ok, .int .i64 oa, .int .i64 ob] 55)) w1 := hb1.mono (by simp)
  have z1 : w.heap.size < w1.heap.size := by have := hb1.size; simp at this; omega
  have z1' : w.heap.size + 1 < w1.heap.size := by have := hb1.size; simp at this; omega
  have hB1 : Below w.heap.size w w1 := bel
  have q0 : w1.cell? ⟨w.heap.size, 0, none⟩ = some (.int .i64 t) := (hC1.cell (p := ⟨w.heap.size, 0, none⟩) (by first | omega | (simp; done) | (simp; omega))).trans (cellOld (by simp) (cellNew rfl rfl))
  have q1 : w1.cell? ⟨w.heap.size, 1, none⟩ = some (.int .i64 p) := (hC1.cell (p := ⟨w.heap.size, 1, none⟩) (by first | omega | (simp; done) | (simp; omega))).trans (cellOld (by simp) (cellNew rfl rfl))
  have q2 : w1.cell? ⟨w.heap.size, 2, none⟩ = some (.int .i64 s) := (hC1.cell (p := ⟨w.heap.size, 2, none⟩) (by first | omega | (simp; done) | (simp; omega))).trans (cellOld (by simp) (cellNew rfl rfl))
  have q3 : w1.cell? ⟨w.heap.size + 1, 0, none⟩ = some (.int .i64 ok) := (hC1.cell (p := ⟨w.heap.size + 1, 0, none⟩) (by first | omega | (simp; done) | (simp; omega))).trans (cellNew (by simp) rfl)
  have q4 : w1.cell? ⟨w.heap.size + 1, 1, none⟩ = some (.int .i64 oa) := (hC1.cell (p := ⟨w.heap.size + 1, 1, none⟩) (by first | omega | (simp; done) | (simp; omega))).trans (cellNew (by simp) rfl)
  have q5 : w1.cell? ⟨w.heap.size + 1, 2, none⟩ = some (.int .i64 ob) := (hC1.cell (p := ⟨w.heap.size + 1, 2, none⟩) (by first | omega | (simp; done) | (simp; omega))).trans (cellNew (by simp) rfl)
  clear hb1 hC1
  go_wp2_with fail
  go_ret2
  exact .inr ⟨rfl, rfl, hB1⟩

set_option maxRecDepth 100000 in
theorem callLayBad (t p s u : Int) (w : World) (a : Option Addr) (len cap : Nat) (ws : List Nat) (num ok oa ob : Int) (hs : Seen .u64 w a len cap ws) (ho : okW t p s len) (h0 : 0 ≤ u) (h1 : u < t) (h : layB t p u ws num ok oa ob = false) :
    Calls Try.prog 29 #[.agg #[.int .i64 t, .int .i64 p, .int .i64 s], .slice a len cap, .int .i64 u, .int .i64 num, .agg #[.int .i64 ok, .int .i64 oa, .int .i64 ob]] w (OptPost 46 .u64 w none) := by
  have HS := hid hs
  have HO := hid ho
  clear hs ho
  by_cases g1 : num ≤ (lastN t p u ws : Int)
  · clear h
    generalize hB : lastB t p u ws = bb
    generalize hN : lastN t p u ws = n at g1
    go_enter Try.func29, Try.ntmps29
    go_wp2_with fail
    refine (callLastYes t p s u _ a len cap ws (HS.out.below bel) HO.out h0 h1).mono ?_
    rw [hB, hN]
    rintro e w1 ⟨rfl, hb1⟩
    have hC1 : Below (w.heap.size + 2) ((w.alloc (.cells #[.int .i64 t, .int .i64 p, .int .i64 s] 23)).alloc (.cells #[.int .i64 ok, .int .i64 oa, .int .i64 ob] 55)) w1 := hb1.mono (by simp)
    have z1 : w.heap.size < w1.heap.size := by have := hb1.size; simp at this; omega
    have z1' : w.heap.size + 1 < w1.heap.size := by have := hb1.size; simp at this; omega
    have hB1 : Below w.heap.size w w1 := bel
    have q0 : w1.cell? ⟨w.heap.size, 0, none⟩ = some (.int .i64 t) := (hC1.cell (p := ⟨w.heap.size, 0, none⟩) (by first | omega | (simp; done) | (simp; omega))).trans (cellOld (by simp) (cellNew rfl rfl))
    have q1 : w1.cell? ⟨w.heap.size, 1, none⟩ = some (.int .i64 p) := (hC1.cell (p := ⟨w.heap.size, 1, none⟩) (by first | omega | (simp; done) | (simp; omega))).trans (cellOld (by simp) (cellNew rfl rfl))
    have q2 : w1.cell? ⟨w.heap.size, 2, none⟩ = some (.int .i64 s) := (hC1.cell (p := ⟨w.heap.size, 2, none⟩) (by first | omega | (simp; done) | (simp; omega))).trans (cellOld (by simp) (cellNew rfl rfl))
    have q3 : w1.cell? ⟨w.heap.size + 1, 0, none⟩ = some (.int .i64 ok) := (hC1.cell (p := ⟨w.heap.size + 1, 0, none⟩) (by first | omega | (simp; done) | (simp; omega))).trans (cellNew (by simp) rfl)
    have q4 : w1.cell? ⟨w.heap.size + 1, 1, none⟩ = some (.int .i64 oa) := (hC1.cell (p := ⟨w.heap.size + 1, 1, none⟩) (by first | omega | (simp; done) | (simp; omega))).trans (cellNew (by simp) rfl)
    have q5 : w1.cell? ⟨w.heap.size + 1, 2, none⟩ = some (.int .i64 ob) := (hC1.cell (p := ⟨w.heap.size + 1, 2, none⟩) (by first | omega | (simp; done) | (simp; omega))).trans (cellNew (by simp) rfl)
    clear hb1 hC1
    go_wp2_with fail
    go_ret2
    exact .inr ⟨rfl, rfl, hB1⟩
  by_cases g2 : 2147483647 < num
  · clear h
    have d1 : decide (num ≤ (lastN t p u ws : Int)) = false := by simp; omega
    generalize hB : lastB t p u ws = bb
    generalize hN : lastN t p u ws = n at g1 d1
    go_enter Try.func29, Try.ntmps29
    go_wp2_with fail
    refine (callLastYes t p s u _ a len cap ws (HS.out.below bel) HO.out h0 h1).mono ?_
    rw [hB, hN]
    rintro e w1 ⟨rfl, hb1⟩
    have hC1 : Below (w.heap.size + 2) ((w.alloc (.cells #[.int .i64 t, .int .i64 p, .int .i64 s] 23)).alloc (.cells #[.int .i64 ok, .int .i64 oa, .int .i64 ob] 55)) w1 := hb1.mono (by simp)
    have z1 : w.heap.size < w1.heap.size := by have := hb1.size; simp at this; omega
    have z1' : w.heap.size + 1 < w1.heap.size := by have := hb1.size; simp at this; omega
    have hB1 : Below w.heap.size w w1 := bel
    have q0 : w1.cell? ⟨w.heap.size, 0, none⟩ = some (.int .i64 t) := (hC1.cell (p := ⟨w.heap.size, 0, none⟩) (by first | omega | (simp; done) | (simp; omega))).trans (cellOld (by simp) (cellNew rfl rfl))
    have q1 : w1.cell? ⟨w.heap.size, 1, none⟩ = some (.int .i64 p) := (hC1.cell (p := ⟨w.heap.size, 1, none⟩) (by first | omega | (simp; done) | (simp; omega))).trans (cellOld (by simp) (cellNew rfl rfl))
    have q2 : w1.cell? ⟨w.heap.size, 2, none⟩ = some (.int .i64 s) := (hC1.cell (p := ⟨w.heap.size, 2, none⟩) (by first | omega | (simp; done) | (simp; omega))).trans (cellOld (by simp) (cellNew rfl rfl))
    have q3 : w1.cell? ⟨w.heap.size + 1, 0, none⟩ = some (.int .i64 ok) := (hC1.cell (p := ⟨w.heap.size + 1, 0, none⟩) (by first | omega | (simp; done) | (simp; omega))).trans (cellNew (by simp) rfl)
    have q4 : w1.cell? ⟨w.heap.size + 1, 1, none⟩ = some (.int .i64 oa) := (hC1.cell (p := ⟨w.heap.size + 1, 1, none⟩) (by first | omega | (simp; done) | (simp; omega))).trans (cellNew (by simp) rfl)
    have q5 : w1.cell? ⟨w.heap.size + 1, 2, none⟩ = some (.int .i64 ob) := (hC1.cell (p := ⟨w.heap.size + 1, 2, none⟩) (by first | omega | (simp; done) | (simp; omega))).trans (cellNew (by simp) rfl)
    clear hb1 hC1
    go_wp2_with fail
    go_ret2
    exact .inr ⟨rfl, rfl, hB1⟩
  · have hr : rightB ok oa ob = false := by
      cases hr : rightB ok oa ob
      · rfl
      · rw [layB, hr, decide_eq_true ⟨by omega, by omega⟩] at h
        cases h
    have RB := hid hr
    have d1 : decide (num ≤ (lastN t p u ws : Int)) = false := by simp; omega
    have d2 : decide (2147483647 < num) = false := by simp; omega
    clear h hr
    generalize hB : lastB t p u ws = bb
    generalize hN : lastN t p u ws = n at g1 d1
    go_enter Try.func29, Try.ntmps29
    go_wp2_with fail
    refine (callLastYes t p s u _ a len cap ws (HS.out.below bel) HO.out h0 h1).mono ?_
    rw [hB, hN]
    rintro e w1 ⟨rfl, hb1⟩
    have hC1 : Below (w.heap.size + 2) ((w.alloc (.cells #[.int .i64 t, .int .i64 p, .int .i64 s] 23)).alloc (.cells #[.int .i64 ok, .int .i64 oa, .int .i64 ob] 55)) w1 := hb1.mono (by simp)
    have z1 : w.heap.size < w1.heap.size := by have := hb1.size; simp at this; omega
    have z1' : w.heap.size + 1 < w1.heap.size := by have := hb1.size; simp at this; omega
    have hB1 : Below w.heap.size w w1 := bel
    have q0 : w1.cell? ⟨w.heap.size, 0, none⟩ = some (.int .i64 t) := (hC1.cell (p := ⟨w.heap.size, 0, none⟩) (by first | omega | (simp; done) | (simp; omega))).trans (cellOld (by simp) (cellNew rfl rfl))
    have q1 : w1.cell? ⟨w.heap.size, 1, none⟩ = some (.int .i64 p) := (hC1.cell (p := ⟨w.heap.size, 1, none⟩) (by first | omega | (simp; done) | (simp; omega))).trans (cellOld (by simp) (cellNew rfl rfl))
    have q2 : w1.cell? ⟨w.heap.size, 2, none⟩ = some (.int .i64 s) := (hC1.cell (p := ⟨w.heap.size, 2, none⟩) (by first | omega | (simp; done) | (simp; omega))).trans (cellOld (by simp) (cellNew rfl rfl))
    have q3 : w1.cell? ⟨w.heap.size + 1, 0, none⟩ = some (.int .i64 ok) := (hC1.cell (p := ⟨w.heap.size + 1, 0, none⟩) (by first | omega | (simp; done) | (simp; omega))).trans (cellNew (by simp) rfl)
    have q4 : w1.cell? ⟨w.heap.size + 1, 1, none⟩ = some (.int .i64 oa) := (hC1.cell (p := ⟨w.heap.size + 1, 1, none⟩) (by first | omega | (simp; done) | (simp; omega))).trans (cellNew (by simp) rfl)
    have q5 : w1.cell? ⟨w.heap.size + 1, 2, none⟩ = some (.int .i64 ob) := (hC1.cell (p := ⟨w.heap.size + 1, 2, none⟩) (by first | omega | (simp; done) | (simp; omega))).trans (cellNew (by simp) rfl)
    clear hb1 hC1
    go_wp2_with fail
    refine (opRight ok oa ob _).mono ?_
    rw [RB.out]
    rintro e w2 ⟨rfl, hb2⟩
    have hB2 : Below w.heap.size w w2 := hB1.trans (hb2.mono (by omega))
    have z2 : w.heap.size < w2.heap.size := by have := hb2.size; omega
    have z2' : w.heap.size + 1 < w2.heap.size := by have := hb2.size; omega
    have q0 := (hb2.cell (p := ⟨w.heap.size, 0, none⟩) z1).trans q0
    have q1 := (hb2.cell (p := ⟨w.heap.size, 1, none⟩) z1).trans q1
    have q2 := (hb2.cell (p := ⟨w.heap.size, 2, none⟩) z1).trans q2
    have q3 := (hb2.cell (p := ⟨w.heap.size + 1, 0, none⟩) z1').trans q3
    have q4 := (hb2.cell (p := ⟨w.heap.size + 1, 1, none⟩) z1').trans q4
    have q5 := (hb2.cell (p := ⟨w.heap.size + 1, 2, none⟩) z1').trans q5
    clear hb2 hB1
    go_wp2_with fail
    go_ret2
    exact .inr ⟨rfl, rfl, hB2⟩

set_option maxRecDepth 100000 in
set_option maxHeartbeats 6400000 in
theorem callLayGood0 (t p s u : Int) (w : World) (a : Option Addr) (len cap : Nat) (ws : List Nat) (num ok oa ob : Int) (hs : Seen .u64 w a len cap ws) (ho : okW t p s len) (h0 : 0 ≤ u) (h1 : u < t) (hr : rightB ok oa ob = true) (hn1 : (lastN t p u ws : Int) < num) (hn2 : num ≤ 2147483647) (hb : lastB t p u ws = 0) :
    Calls Try.prog 29 #[.agg #[.int .i64 t, .int .i64 p, .int .i64 s], .slice a len cap, .int .i64 u, .int .i64 num, .agg #[.int .i64 ok, .int .i64 oa, .int .i64 ob]] w (OptPost 46 .u64 w (layC t p u ws num ok oa ob)) := by
  obtain ⟨kk, hkk, _⟩ := wrapNat ok
  obtain ⟨aa, haa, _⟩ := wrapNat oa
  obtain ⟨bb, hbb, _⟩ := wrapNat ob
  obtain ⟨m, rfl⟩ : ∃ m : Nat, num = (m : Int) := ⟨num.toNat, by omega⟩
  obtain ⟨m1, m2, m3⟩ := mkI_bd ho h0 h1
  obtain ⟨ew, hb3, hb4⟩ := okW_words ho
  have CW := hid (show callW t p s u 1 = ((mkI t p u + 8 : Nat) : Int) by rw [callW, if_pos ⟨ho.1, ⟨h0, by omega⟩, by omega, by omega⟩]; omega)
  have LC0 : layC t p u ws (m : Int) ok oa ob = some (layW t p u ws (m : Int) ok oa ob) := by
    have hl : layB t p u ws (m : Int) ok oa ob = true := by rw [layB, hr, decide_eq_true ⟨hn1, hn2⟩]; rfl
    rw [layC, if_pos hl]
  have LW0 : splice ws (mkI t p u + 8) [m, kk, aa, bb] = layW t p u ws (m : Int) ok oa ob := by rw [layW, hb, hkk, haa, hbb]; rfl
  obtain ⟨XS, hXS⟩ : ∃ XS, XS = layW t p u ws (m : Int) ok oa ob := ⟨_, rfl⟩
  rw [← hXS] at LC0 LW0
  have LC := hid LC0
  have LW := hid LW0
  have C0 := hid (show cwN t p u XS 8 = m by rw [cwN, ← LW.out, splice_at _ _ _ _ (by rw [hs.1]; show _ + 4 ≤ _; omega), if_pos ⟨by omega, by show _ < _ + 4; omega⟩]; exact congrArg (fun i => ([m, kk, aa, bb] : List Nat)[i]?.getD 0) (show _ = 0 by omega))
  have C1 := hid (show cwN t p u XS 9 = kk by rw [cwN, ← LW.out, splice_at _ _ _ _ (by rw [hs.1]; show _ + 4 ≤ _; omega), if_pos ⟨by omega, by show _ < _ + 4; omega⟩]; exact congrArg (fun i => ([m, kk, aa, bb] : List Nat)[i]?.getD 0) (show _ = 1 by omega))
  have C2 := hid (show cwN t p u XS 10 = aa by rw [cwN, ← LW.out, splice_at _ _ _ _ (by rw [hs.1]; show _ + 4 ≤ _; omega), if_pos ⟨by omega, by show _ < _ + 4; omega⟩]; exact congrArg (fun i => ([m, kk, aa, bb] : List Nat)[i]?.getD 0) (show _ = 2 by omega))
  have C3 := hid (show cwN t p u XS 11 = bb by rw [cwN, ← LW.out, splice_at _ _ _ _ (by rw [hs.1]; show _ + 4 ≤ _; omega), if_pos ⟨by omega, by show _ < _ + 4; omega⟩]; exact congrArg (fun i => ([m, kk, aa, bb] : List Nat)[i]?.getD 0) (show _ = 3 by omega))
  have HS := hid hs
  have HO := hid ho
  have RB := hid hr
  have hlc := hs.2.1
  have hlm : cap ≤ maxLen := hs.2.2.1
  have hq := extCell
  have LBB := hid hb
  clear LC0 LW0 hXS hs ho hr ew m1 hb
  have d1 : decide ((m : Int) ≤ (lastN t p u ws : Int)) = false := by simp; omega
  have d2 : decide (2147483647 < (m : Int)) = false := by simp; omega
  generalize hNN : lastN t p u ws = n at hn1 d1
  have LNN := hid hNN
  clear hNN
  generalize mkI t p u = c at *
  go_enter Try.func29, Try.ntmps29
  go_wp2_with fail
  refine (callLastYes t p s u _ a len cap ws (HS.out.below bel) HO.out h0 h1).mono ?_
  rw [LBB.out, LNN.out]
  rintro e w1 ⟨rfl, hb1⟩
  have hC1 : Below (w.heap.size + 2) ((w.alloc (.cells #[.int .i64 t, .int .i64 p, .int .i64 s] 23)).alloc (.cells #[.int .i64 ok, .int .i64 oa, .int .i64 ob] 55)) w1 := hb1.mono (by simp)
  have z1 : w.heap.size < w1.heap.size := by have := hb1.size; simp at this; omega
  have z1' : w.heap.size + 1 < w1.heap.size := by have := hb1.size; simp at this; omega
  have hB1 : Below w.heap.size w w1 := bel
  have q0 : w1.cell? ⟨w.heap.size, 0, none⟩ = some (.int .i64 t) := (hC1.cell (p := ⟨w.heap.size, 0, none⟩) (by first | omega | (simp; done) | (simp; omega))).trans (cellOld (by simp) (cellNew rfl rfl))
  have q1 : w1.cell? ⟨w.heap.size, 1, none⟩ = some (.int .i64 p) := (hC1.cell (p := ⟨w.heap.size, 1, none⟩) (by first | omega | (simp; done) | (simp; omega))).trans (cellOld (by simp) (cellNew rfl rfl))
  have q2 : w1.cell? ⟨w.heap.size, 2, none⟩ = some (.int .i64 s) := (hC1.cell (p := ⟨w.heap.size, 2, none⟩) (by first | omega | (simp; done) | (simp; omega))).trans (cellOld (by simp) (cellNew rfl rfl))
  have q3 : w1.cell? ⟨w.heap.size + 1, 0, none⟩ = some (.int .i64 ok) := (hC1.cell (p := ⟨w.heap.size + 1, 0, none⟩) (by first | omega | (simp; done) | (simp; omega))).trans (cellNew (by simp) rfl)
  have q4 : w1.cell? ⟨w.heap.size + 1, 1, none⟩ = some (.int .i64 oa) := (hC1.cell (p := ⟨w.heap.size + 1, 1, none⟩) (by first | omega | (simp; done) | (simp; omega))).trans (cellNew (by simp) rfl)
  have q5 : w1.cell? ⟨w.heap.size + 1, 2, none⟩ = some (.int .i64 ob) := (hC1.cell (p := ⟨w.heap.size + 1, 2, none⟩) (by first | omega | (simp; done) | (simp; omega))).trans (cellNew (by simp) rfl)
  clear hb1 hC1
  go_wp2_with fail
  refine (opRight ok oa ob _).mono ?_
  rw [RB.out]
  rintro e w2 ⟨rfl, hb2⟩
  have hB2 : Below w.heap.size w w2 := hB1.trans (hb2.mono (by omega))
  have z2 : w.heap.size < w2.heap.size := by have := hb2.size; omega
  have z2' : w.heap.size + 1 < w2.heap.size := by have := hb2.size; omega
  have q0 := (hb2.cell (p := ⟨w.heap.size, 0, none⟩) z1).trans q0
  have q1 := (hb2.cell (p := ⟨w.heap.size, 1, none⟩) z1).trans q1
  have q2 := (hb2.cell (p := ⟨w.heap.size, 2, none⟩) z1).trans q2
  have q3 := (hb2.cell (p := ⟨w.heap.size + 1, 0, none⟩) z1').trans q3
  have q4 := (hb2.cell (p := ⟨w.heap.size + 1, 1, none⟩) z1').trans q4
  have q5 := (hb2.cell (p := ⟨w.heap.size + 1, 2, none⟩) z1').trans q5
  clear hb2 hB1
  go_wp2_with fail
  refine (opWords ok oa ob _).mono ?_
  rw [hkk, haa, hbb]
  rintro e w3 ⟨rfl, hb3⟩
  obtain ⟨gA, hgA⟩ : ∃ gA, gA = w2.heap.size := ⟨_, rfl⟩
  have hC3 : Below (w2.heap.size + 1) (w2.alloc (.cells #[.int .u64 (m : Int), .int .u64 0, .int .u64 0, .int .u64 0] 94)) w3 := hb3.mono (by simp)
  have hA3 : w3.heap[gA]? = some (.cells [.int .u64 (m : Int), .int .u64 0, .int .u64 0, .int .u64 0].toArray 94 (0, 0)) := by rw [hgA]; exact (hC3.block w2.heap.size (Nat.lt_succ_self _)).trans (heap_alloc_new w2 _)
  have hB3 : Below w.heap.size w w3 := (hB2.alloc (by omega) _).trans (hC3.mono (by omega))
  have zA3 : gA < w3.heap.size := by have := hC3.size; simp at this; omega
  have zA0 : w.heap.size + 1 < gA := by omega
  have q0 := (hC3.cell (p := ⟨w.heap.size, 0, none⟩) (by show w.heap.size < w2.heap.size + 1; omega)).trans (cellOld (by omega) q0)
  have q1 := (hC3.cell (p := ⟨w.heap.size, 1, none⟩) (by show w.heap.size < w2.heap.size + 1; omega)).trans (cellOld (by omega) q1)
  have q2 := (hC3.cell (p := ⟨w.heap.size, 2, none⟩) (by show w.heap.size < w2.heap.size + 1; omega)).trans (cellOld (by omega) q2)
  have q3 := (hC3.cell (p := ⟨w.heap.size + 1, 0, none⟩) (by show w.heap.size + 1 < w2.heap.size + 1; omega)).trans (cellOld (by omega) q3)
  have q4 := (hC3.cell (p := ⟨w.heap.size + 1, 1, none⟩) (by show w.heap.size + 1 < w2.heap.size + 1; omega)).trans (cellOld (by omega) q4)
  have q5 := (hC3.cell (p := ⟨w.heap.size + 1, 2, none⟩) (by show w.heap.size + 1 < w2.heap.size + 1; omega)).trans (cellOld (by omega) q5)
  rw [← hgA]
  clear hb3 hC3 hB2 hgA
  go_wp2_with fail
  obtain ⟨w4, hw4⟩ : ∃ x : World, x = w3.alloc (.cells #[.int .u64 (kk : Int), .int .u64 (aa : Int), .int .u64 (bb : Int)] 103) := ⟨_, rfl⟩
  obtain ⟨gB, hgB⟩ : ∃ gB, gB = w3.heap.size := ⟨_, rfl⟩
  have hA4 : w4.heap[gA]? = some (.cells [.int .u64 (m : Int), .int .u64 0, .int .u64 0, .int .u64 0].toArray 94 (0, 0)) := by rw [hw4]; exact (((Below.refl _ _).alloc (Nat.le_refl _) _).block gA zA3).trans hA3
  have b0 : w4.cell? ⟨gB, 0, none⟩ = some (.int .u64 (kk : Int)) := by rw [hw4, hgB]; exact cellNew rfl rfl
  have b1 : w4.cell? ⟨gB, 1, none⟩ = some (.int .u64 (aa : Int)) := by rw [hw4, hgB]; exact cellNew rfl rfl
  have b2 : w4.cell? ⟨gB, 2, none⟩ = some (.int .u64 (bb : Int)) := by rw [hw4, hgB]; exact cellNew rfl rfl
  have hB4 : Below w.heap.size w w4 := by rw [hw4]; exact hB3.alloc (by omega) _
  have zB : gB < w4.heap.size := by rw [hw4, hgB]; simp
  have zAB : gA < gB := by rw [hgB]; exact zA3
  have q0 : w4.cell? ⟨w.heap.size, 0, none⟩ = some (.int .i64 t) := by rw [hw4]; exact cellOld (by omega) q0
  have q1 : w4.cell? ⟨w.heap.size, 1, none⟩ = some (.int .i64 p) := by rw [hw4]; exact cellOld (by omega) q1
  have q2 : w4.cell? ⟨w.heap.size, 2, none⟩ = some (.int .i64 s) := by rw [hw4]; exact cellOld (by omega) q2
  have q3 : w4.cell? ⟨w.heap.size + 1, 0, none⟩ = some (.int .i64 ok) := by rw [hw4]; exact cellOld (by omega) q3
  have q4 : w4.cell? ⟨w.heap.size + 1, 1, none⟩ = some (.int .i64 oa) := by rw [hw4]; exact cellOld (by omega) q4
  have q5 : w4.cell? ⟨w.heap.size + 1, 2, none⟩ = some (.int .i64 ob) := by rw [hw4]; exact cellOld (by omega) q5
  rw [← hw4, ← hgB]
  clear hw4 hgB hA3 hB3 zA3
  have hA4d := hid (show w4.drew.heap[gA]? = _ from hA4)
  have hB4d : Below gA w4 w4.drew := (Below.refl _ _).drew
  go_region_held3 (fun w' => True) (trivial)
    (first
      | (refine step_copy_splice rfl (.tmp 49) (.tmp 50) 24 24 rfl 46 Try.underlying24 (by kernel_rfl) _ _ _ _ _ _ rfl rfl gA 1 [.int .u64 (m : Int), .int .u64 0, .int .u64 0, .int .u64 0] 94 hA4d.out [.int .u64 (kk : Int), .int .u64 (aa : Int), .int .u64 (bb : Int)] rfl (fun _ => ⟨rfl, ⟨gB, 0, none⟩, rfl, src3 b0 b1 b2⟩) (show 1 + 3 ≤ 4 by omega) (by intro v hv; simp at hv; rcases hv with rfl | rfl | rfl <;> rfl) gA w4 hB4d (Nat.le_refl _) ?_; intro w5 hg5 hb5))
  have hA5 : w5.heap[gA]? = some (.cells [.int .u64 (m : Int), .int .u64 (kk : Int), .int .u64 (aa : Int), .int .u64 (bb : Int)].toArray 94 (0, 0)) := hg5.out
  have hB5 : Below w.heap.size w w5 := hB4.trans (hb5.mono (by omega))
  have z5 : gB < w5.heap.size := by have := hb5.size; omega
  have q0 := (hb5.cell (p := ⟨w.heap.size, 0, none⟩) (show w.heap.size < gA by omega)).trans q0
  have q1 := (hb5.cell (p := ⟨w.heap.size, 1, none⟩) (show w.heap.size < gA by omega)).trans q1
  have q2 := (hb5.cell (p := ⟨w.heap.size, 2, none⟩) (show w.heap.size < gA by omega)).trans q2
  have q3 := (hb5.cell (p := ⟨w.heap.size + 1, 0, none⟩) zA0).trans q3
  have q4 := (hb5.cell (p := ⟨w.heap.size + 1, 1, none⟩) zA0).trans q4
  have q5 := (hb5.cell (p := ⟨w.heap.size + 1, 2, none⟩) zA0).trans q5
  have HA5 := hid hA5
  clear hg5 hA4 hA4d hB4d hb5 b0 b1 b2 hB4 hA5
  have hs5 := HS.out.below hB5
  go_wp2_with fail
  refine (cloneWords _ _ len cap ws hs5 (by omega)).mono ?_
  rintro e w6 ⟨a6, m6, cap6, rfl, ho6, hb6⟩
  obtain ⟨g6, hca⟩ : ∃ g6, .slice a6 m6 cap6 = Value.slice (some ⟨g6, 0, none⟩) len cap6 ∧ w5.heap.size ≤ g6 ∧ g6 < w6.heap.size := by
    obtain ⟨g, c', h1, h2, h3, _⟩ := ho6.form (by rw [HS.out.1]; omega)
    rw [HS.out.1] at h1
    cases h1
    exact ⟨g, rfl, h2, h3⟩
  obtain ⟨hv6, hg6, hg6'⟩ := hca
  rw [hv6] at ho6 ⊢
  obtain ⟨cur, R1, R2, R3, R4, R5, R6⟩ := ho6.row HS.out.1
  have hA6 := hid ((hb6.block gA (by omega)).trans HA5.out)
  have hB6 : Below w.heap.size w w6 := hB5.trans (hb6.mono (by omega))
  have z6 : w.heap.size < w6.heap.size := by omega
  have q0 := (hb6.cell (p := ⟨w.heap.size, 0, none⟩) (show w.heap.size < w5.heap.size by omega)).trans q0
  have q1 := (hb6.cell (p := ⟨w.heap.size, 1, none⟩) (show w.heap.size < w5.heap.size by omega)).trans q1
  have q2 := (hb6.cell (p := ⟨w.heap.size, 2, none⟩) (show w.heap.size < w5.heap.size by omega)).trans q2
  have q3 := (hb6.cell (p := ⟨w.heap.size + 1, 0, none⟩) (show w.heap.size + 1 < w5.heap.size by omega)).trans q3
  have q4 := (hb6.cell (p := ⟨w.heap.size + 1, 1, none⟩) (show w.heap.size + 1 < w5.heap.size by omega)).trans q4
  have q5 := (hb6.cell (p := ⟨w.heap.size + 1, 2, none⟩) (show w.heap.size + 1 < w5.heap.size by omega)).trans q5
  clear hv6 hs5 hb6 ho6 HA5
  have R0 := hid (show w6.drew.heap[g6]? = _ from R1)
  have RR := hid R3
  clear R1 R3
  go_wp2_with fail
  have sl : ∀ W, (Instr.slice 24 (.slice (some ⟨g6, 0, none⟩) len cap6) (some (.int .i64 ((c : Int) + 8))) none none).run Try.prog W = .ok (.slice (some ⟨g6, 0 + (c + 8), none⟩) (len - (c + 8)) (cap6 - (c + 8))) W := fun W => slice1 g6 0 len cap6 (c + 8) (by omega) (by omega) W
  rw [Nat.zero_add] at sl
  have nA : ¬ g6 = gA := by omega
  go_region_held3 (fun w' => (w'.cell? ⟨w.heap.size, 0, none⟩ = some (.int .i64 t) ∧ w'.cell? ⟨w.heap.size, 1, none⟩ = some (.int .i64 p) ∧ w'.cell? ⟨w.heap.size, 2, none⟩ = some (.int .i64 s)) ∧ w.heap.size < w'.heap.size)
    (((go_split_ands); (try dsimp only); (repeat' apply And.intro); (all_goals first | assumption | omega | (simp; omega) | go_keep)))
    (first
      | (go_at_call 68; refine (placeCall t p s u 1 _).mono ?_; rw [CW.out]; rintro e wx ⟨rfl, hbx⟩; (try go_split_ands); obtain ⟨hcx, hfx, hzx⟩ := after hbx; have zdd : w6.drew.heap.size = w6.heap.size := rfl; have zx : w.heap.size < wx.heap.size := (by omega); have yy0 : wx.cell? ⟨w.heap.size, 0, none⟩ = some (.int .i64 t) := (hcx _ _ (by first | assumption | omega)).trans (by first | assumption | go_keep); have yy1 : wx.cell? ⟨w.heap.size, 1, none⟩ = some (.int .i64 p) := (hcx _ _ (by first | assumption | omega)).trans (by first | assumption | go_keep); have yy2 : wx.cell? ⟨w.heap.size, 2, none⟩ = some (.int .i64 s) := (hcx _ _ (by first | assumption | omega)).trans (by first | assumption | go_keep); have hgx := hid ((hbx.block g6 (by omega)).trans R0.out); have hAx : wx.heap[gA]? = _ := (hbx.block gA (by omega)).trans hA6.out; have hBx : Below w6.heap.size w6 wx := ((Below.refl _ _).drew).trans (hbx.mono (by omega)); have hBwx : Below w.heap.size w wx := hB6.trans (hBx.mono (by omega)); have hBg : Below gA w6 wx := hBx.mono (by omega))
      | (refine step_copy_splice rfl (.tmp 60) (.tmp 61) 24 24 rfl 46 Try.underlying24 (by kernel_rfl) _ _ _ _ _ _ rfl rfl g6 (c + 8) cur 46 hgx.out ([m, kk, aa, bb].map fun x : Nat => Value.int .u64 (x : Int)) (show 4 = min 4 (len - (c + 8)) by omega) (fun _ => ⟨rfl, ⟨gA, 0, none⟩, rfl, src4 (cellIn hAx 0 rfl) (cellIn hAx 1 rfl) (cellIn hAx 2 rfl) (cellIn hAx 3 rfl)⟩) (show (c + 8) + 4 ≤ cur.length by omega) (by intro v hv; simp at hv; rcases hv with rfl | rfl | rfl | rfl <;> rfl) g6 wx (Below.refl _ _) (Nat.le_refl _) ?_; intro wy hgy hby; have zy : w.heap.size < wy.heap.size := (by have := hby.size; omega); have yy0 := (hby.cell (p := ⟨w.heap.size, 0, none⟩) (show w.heap.size < g6 by omega)).trans yy0; have yy1 := (hby.cell (p := ⟨w.heap.size, 1, none⟩) (show w.heap.size < g6 by omega)).trans yy1; have yy2 := (hby.cell (p := ⟨w.heap.size, 2, none⟩) (show w.heap.size < g6 by omega)).trans yy2))
  have hAy : wy.heap[gA]? = _ := (hby.block gA (by omega)).trans hAx
  have hBy : Below w.heap.size w wy := hBwx.trans (hby.mono (by omega))
  have hoy : Own 46 .u64 wy w.heap.size (.slice (some ⟨g6, 0, none⟩) len cap6) (splice ws (c + 8) [m, kk, aa, bb]) := Own.spliced R2 RR.out HS.out.1 R4 R5 (by omega) (show (c + 8) + 4 ≤ len by omega) hgy.out
  have za : gA < wy.heap.size := by have := hby.size; omega
  have a0 := cellIn hAy 0 rfl
  have a1 := cellIn hAy 1 rfl
  have a2 := cellIn hAy 2 rfl
  have a3 := cellIn hAy 3 rfl
  clear hby hgy hgx hAx hBx hBwx hBg R0 hA6 sl hcx hfx hAy RR
  rw [LW.out] at hoy
  have HOY := hid hoy
  go_wp2_with fail
  refine (callOfYes t p s u _ _ len cap6 XS hoy.seen HO.out h0 h1).mono ?_
  rw [C0.out, C1.out, C2.out, C3.out]
  rintro e w8 ⟨rfl, hb8⟩
  have ho8 := hoy.kept hb8 (Nat.le_refl _)
  have hB8 : Below w.heap.size w w8 := hBy.trans (hb8.mono (by omega))
  have a0 := (hb8.cell (p := ⟨gA, 0, none⟩) za).trans a0
  have a1 := (hb8.cell (p := ⟨gA, 1, none⟩) za).trans a1
  have a2 := (hb8.cell (p := ⟨gA, 2, none⟩) za).trans a2
  have a3 := (hb8.cell (p := ⟨gA, 3, none⟩) za).trans a3
  have z8 : gA < w8.heap.size := by have := hb8.size; omega
  clear hb8 hoy HOY
  generalize cwN t p u XS 0 = o0
  generalize cwN t p u XS 1 = o1
  generalize cwN t p u XS 2 = o2
  generalize cwN t p u XS 3 = o3
  go_wp2_with fail
  obtain ⟨w9, hw9⟩ : ∃ x : World, x = w8.alloc (.cells #[.int .u64 (o0 : Int), .int .u64 (o1 : Int), .int .u64 (o2 : Int), .int .u64 (o3 : Int), .int .u64 (m : Int), .int .u64 (kk : Int), .int .u64 (aa : Int), .int .u64 (bb : Int)] 95) := ⟨_, rfl⟩
  have e0 : w9.cell? ⟨w8.heap.size, 4, none⟩ = some (.int .u64 (m : Int)) := by rw [hw9]; exact cellNew rfl rfl
  have e1 : w9.cell? ⟨w8.heap.size, 5, none⟩ = some (.int .u64 (kk : Int)) := by rw [hw9]; exact cellNew rfl rfl
  have e2 : w9.cell? ⟨w8.heap.size, 6, none⟩ = some (.int .u64 (aa : Int)) := by rw [hw9]; exact cellNew rfl rfl
  have e3 : w9.cell? ⟨w8.heap.size, 7, none⟩ = some (.int .u64 (bb : Int)) := by rw [hw9]; exact cellNew rfl rfl
  have a0 : w9.cell? ⟨gA, 0, none⟩ = some (.int .u64 (m : Int)) := by rw [hw9]; exact cellOld z8 a0
  have a1 : w9.cell? ⟨gA, 1, none⟩ = some (.int .u64 (kk : Int)) := by rw [hw9]; exact cellOld z8 a1
  have a2 : w9.cell? ⟨gA, 2, none⟩ = some (.int .u64 (aa : Int)) := by rw [hw9]; exact cellOld z8 a2
  have a3 : w9.cell? ⟨gA, 3, none⟩ = some (.int .u64 (bb : Int)) := by rw [hw9]; exact cellOld z8 a3
  have z9 : w8.heap.size < w9.heap.size := by rw [hw9]; simp
  have z9' : gA < w9.heap.size := by omega
  have hB9 : Below w.heap.size w w9 := by rw [hw9]; exact hB8.alloc (by omega) _
  have ho9 := ho8.kept (B := w8.heap.size) (w' := w9) (by rw [hw9]; exact (Below.refl _ _).alloc (Nat.le_refl _) _) (Nat.le_refl _)
  rw [← hw9]
  clear hw9 hB8 ho8
  have EQ : ∀ W, (Op.equalIn 10000 94 (.agg #[.int .u64 (m : Int), .int .u64 (kk : Int), .int .u64 (aa : Int), .int .u64 (bb : Int)]) (.agg #[.int .u64 (m : Int), .int .u64 (kk : Int), .int .u64 (aa : Int), .int .u64 (bb : Int)])).run Try.prog W = .ok true W := fun W => by rw [eqCall4]; simp
  refine regionBelow (by kernel_rfl) (by kernel_rfl) ?_
  repeat (go_big_quiet_step (fail))
  refine wpQuiet_nil ?_
  intro _ hw'
  obtain ⟨nq, hw''⟩ := hw'
  subst hw''
  have hn2 := nq.below
  have hoA := ho9.kept hn2 (Nat.le_refl _)
  have hBA : Below w.heap.size w nq.to := hB9.trans (hn2.mono (by omega))
  clear hn2 ho9 hB9
  go_wp2_with fail
  go_ret2
  exact .inl ⟨_, LC.out, _, _, _, rfl, hoA, hBA⟩

set_option maxRecDepth 100000 in
set_option maxHeartbeats 6400000 in
theorem callLayGood1 (t p s u : Int) (w : World) (a : Option Addr) (len cap : Nat) (ws : List Nat) (num ok oa ob : Int) (hs : Seen .u64 w a len cap ws) (ho : okW t p s len) (h0 : 0 ≤ u) (h1 : u < t) (hr : rightB ok oa ob = true) (hn1 : (lastN t p u ws : Int) < num) (hn2 : num ≤ 2147483647) (hb : lastB t p u ws = 1) :
    Calls Try.prog 29 #[.agg #[.int .i64 t, .int .i64 p, .int .i64 s], .slice a len cap, .int .i64 u, .int .i64 num, .agg #[.int .i64 ok, .int .i64 oa, .int .i64 ob]] w (OptPost 46 .u64 w (layC t p u ws num ok oa ob)) := by
  obtain ⟨kk, hkk, _⟩ := wrapNat ok
  obtain ⟨aa, haa, _⟩ := wrapNat oa
  obtain ⟨bb, hbb, _⟩ := wrapNat ob
  obtain ⟨m, rfl⟩ : ∃ m : Nat, num = (m : Int) := ⟨num.toNat, by omega⟩
  obtain ⟨m1, m2, m3⟩ := mkI_bd ho h0 h1
  obtain ⟨ew, hb3, hb4⟩ := okW_words ho
  have CW := hid (show callW t p s u 0 = ((mkI t p u : Nat) : Int) by rw [callW, if_pos ⟨ho.1, ⟨h0, by omega⟩, by omega, by omega⟩]; omega)
  have LC0 : layC t p u ws (m : Int) ok oa ob = some (layW t p u ws (m : Int) ok oa ob) := by
    have hl : layB t p u ws (m : Int) ok oa ob = true := by rw [layB, hr, decide_eq_true ⟨hn1, hn2⟩]; rfl
    rw [layC, if_pos hl]
  have LW0 : splice ws (mkI t p u) [m, kk, aa, bb] = layW t p u ws (m : Int) ok oa ob := by rw [layW, hb, hkk, haa, hbb]; rfl
  obtain ⟨XS, hXS⟩ : ∃ XS, XS = layW t p u ws (m : Int) ok oa ob := ⟨_, rfl⟩
  rw [← hXS] at LC0 LW0
  have LC := hid LC0
  have LW := hid LW0
  have C0 := hid (show cwN t p u XS 0 = m by rw [cwN, ← LW.out, splice_at _ _ _ _ (by rw [hs.1]; show _ + 4 ≤ _; omega), if_pos ⟨by omega, by show _ < _ + 4; omega⟩]; exact congrArg (fun i => ([m, kk, aa, bb] : List Nat)[i]?.getD 0) (show _ = 0 by omega))
  have C1 := hid (show cwN t p u XS 1 = kk by rw [cwN, ← LW.out, splice_at _ _ _ _ (by rw [hs.1]; show _ + 4 ≤ _; omega), if_pos ⟨by omega, by show _ < _ + 4; omega⟩]; exact congrArg (fun i => ([m, kk, aa, bb] : List Nat)[i]?.getD 0) (show _ = 1 by omega))
  have C2 := hid (show cwN t p u XS 2 = aa by rw [cwN, ← LW.out, splice_at _ _ _ _ (by rw [hs.1]; show _ + 4 ≤ _; omega), if_pos ⟨by omega, by show _ < _ + 4; omega⟩]; exact congrArg (fun i => ([m, kk, aa, bb] : List Nat)[i]?.getD 0) (show _ = 2 by omega))
  have C3 := hid (show cwN t p u XS 3 = bb by rw [cwN, ← LW.out, splice_at _ _ _ _ (by rw [hs.1]; show _ + 4 ≤ _; omega), if_pos ⟨by omega, by show _ < _ + 4; omega⟩]; exact congrArg (fun i => ([m, kk, aa, bb] : List Nat)[i]?.getD 0) (show _ = 3 by omega))
  have HS := hid hs
  have HO := hid ho
  have RB := hid hr
  have hlc := hs.2.1
  have hlm : cap ≤ maxLen := hs.2.2.1
  have hq := extCell
  have LBB := hid hb
  clear LC0 LW0 hXS hs ho hr ew m1 hb
  have d1 : decide ((m : Int) ≤ (lastN t p u ws : Int)) = false := by simp; omega
  have d2 : decide (2147483647 < (m : Int)) = false := by simp; omega
  generalize hNN : lastN t p u ws = n at hn1 d1
  have LNN := hid hNN
  clear hNN
  generalize mkI t p u = c at *
  go_enter Try.func29, Try.ntmps29
  go_wp2_with fail
  refine (callLastYes t p s u _ a len cap ws (HS.out.below bel) HO.out h0 h1).mono ?_
  rw [LBB.out, LNN.out]
  rintro e w1 ⟨rfl, hb1⟩
  have hC1 : Below (w.heap.size + 2) ((w.alloc (.cells #[.int .i64 t, .int .i64 p, .int .i64 s] 23)).alloc (.cells #[.int .i64 ok, .int .i64 oa, .int .i64 ob] 55)) w1 := hb1.mono (by simp)
  have z1 : w.heap.size < w1.heap.size := by have := hb1.size; simp at this; omega
  have z1' : w.heap.size + 1 < w1.heap.size := by have := hb1.size; simp at this; omega
  have hB1 : Below w.heap.size w w1 := bel
  have q0 : w1.cell? ⟨w.heap.size, 0, none⟩ = some (.int .i64 t) := (hC1.cell (p := ⟨w.heap.size, 0, none⟩) (by first | omega | (simp; done) | (simp; omega))).trans (cellOld (by simp) (cellNew rfl rfl))
  have q1 : w1.cell? ⟨w.heap.size, 1, none⟩ = some (.int .i64 p) := (hC1.cell (p := ⟨w.heap.size, 1, none⟩) (by first | omega | (simp; done) | (simp; omega))).trans (cellOld (by simp) (cellNew rfl rfl))
  have q2 : w1.cell? ⟨w.heap.size, 2, none⟩ = some (.int .i64 s) := (hC1.cell (p := ⟨w.heap.size, 2, none⟩) (by first | omega | (simp; done) | (simp; omega))).trans (cellOld (by simp) (cellNew rfl rfl))
  have q3 : w1.cell? ⟨w.heap.size + 1, 0, none⟩ = some (.int .i64 ok) := (hC1.cell (p := ⟨w.heap.size + 1, 0, none⟩) (by first | omega | (simp; done) | (simp; omega))).trans (cellNew (by simp) rfl)
  have q4 : w1.cell? ⟨w.heap.size + 1, 1, none⟩ = some (.int .i64 oa) := (hC1.cell (p := ⟨w.heap.size + 1, 1, none⟩) (by first | omega | (simp; done) | (simp; omega))).trans (cellNew (by simp) rfl)
  have q5 : w1.cell? ⟨w.heap.size + 1, 2, none⟩ = some (.int .i64 ob) := (hC1.cell (p := ⟨w.heap.size + 1, 2, none⟩) (by first | omega | (simp; done) | (simp; omega))).trans (cellNew (by simp) rfl)
  clear hb1 hC1
  go_wp2_with fail
  refine (opRight ok oa ob _).mono ?_
  rw [RB.out]
  rintro e w2 ⟨rfl, hb2⟩
  have hB2 : Below w.heap.size w w2 := hB1.trans (hb2.mono (by omega))
  have z2 : w.heap.size < w2.heap.size := by have := hb2.size; omega
  have z2' : w.heap.size + 1 < w2.heap.size := by have := hb2.size; omega
  have q0 := (hb2.cell (p := ⟨w.heap.size, 0, none⟩) z1).trans q0
  have q1 := (hb2.cell (p := ⟨w.heap.size, 1, none⟩) z1).trans q1
  have q2 := (hb2.cell (p := ⟨w.heap.size, 2, none⟩) z1).trans q2
  have q3 := (hb2.cell (p := ⟨w.heap.size + 1, 0, none⟩) z1').trans q3
  have q4 := (hb2.cell (p := ⟨w.heap.size + 1, 1, none⟩) z1').trans q4
  have q5 := (hb2.cell (p := ⟨w.heap.size + 1, 2, none⟩) z1').trans q5
  clear hb2 hB1
  go_wp2_with fail
  refine (opWords ok oa ob _).mono ?_
  rw [hkk, haa, hbb]
  rintro e w3 ⟨rfl, hb3⟩
  obtain ⟨gA, hgA⟩ : ∃ gA, gA = w2.heap.size := ⟨_, rfl⟩
  have hC3 : Below (w2.heap.size + 1) (w2.alloc (.cells #[.int .u64 (m : Int), .int .u64 0, .int .u64 0, .int .u64 0] 94)) w3 := hb3.mono (by simp)
  have hA3 : w3.heap[gA]? = some (.cells [.int .u64 (m : Int), .int .u64 0, .int .u64 0, .int .u64 0].toArray 94 (0, 0)) := by rw [hgA]; exact (hC3.block w2.heap.size (Nat.lt_succ_self _)).trans (heap_alloc_new w2 _)
  have hB3 : Below w.heap.size w w3 := (hB2.alloc (by omega) _).trans (hC3.mono (by omega))
  have zA3 : gA < w3.heap.size := by have := hC3.size; simp at this; omega
  have zA0 : w.heap.size + 1 < gA := by omega
  have q0 := (hC3.cell (p := ⟨w.heap.size, 0, none⟩) (by show w.heap.size < w2.heap.size + 1; omega)).trans (cellOld (by omega) q0)
  have q1 := (hC3.cell (p := ⟨w.heap.size, 1, none⟩) (by show w.heap.size < w2.heap.size + 1; omega)).trans (cellOld (by omega) q1)
  have q2 := (hC3.cell (p := ⟨w.heap.size, 2, none⟩) (by show w.heap.size < w2.heap.size + 1; omega)).trans (cellOld (by omega) q2)
  have q3 := (hC3.cell (p := ⟨w.heap.size + 1, 0, none⟩) (by show w.heap.size + 1 < w2.heap.size + 1; omega)).trans (cellOld (by omega) q3)
  have q4 := (hC3.cell (p := ⟨w.heap.size + 1, 1, none⟩) (by show w.heap.size + 1 < w2.heap.size + 1; omega)).trans (cellOld (by omega) q4)
  have q5 := (hC3.cell (p := ⟨w.heap.size + 1, 2, none⟩) (by show w.heap.size + 1 < w2.heap.size + 1; omega)).trans (cellOld (by omega) q5)
  rw [← hgA]
  clear hb3 hC3 hB2 hgA
  go_wp2_with fail
  obtain ⟨w4, hw4⟩ : ∃ x : World, x = w3.alloc (.cells #[.int .u64 (kk : Int), .int .u64 (aa : Int), .int .u64 (bb : Int)] 103) := ⟨_, rfl⟩
  obtain ⟨gB, hgB⟩ : ∃ gB, gB = w3.heap.size := ⟨_, rfl⟩
  have hA4 : w4.heap[gA]? = some (.cells [.int .u64 (m : Int), .int .u64 0, .int .u64 0, .int .u64 0].toArray 94 (0, 0)) := by rw [hw4]; exact (((Below.refl _ _).alloc (Nat.le_refl _) _).block gA zA3).trans hA3
  have b0 : w4.cell? ⟨gB, 0, none⟩ = some (.int .u64 (kk : Int)) := by rw [hw4, hgB]; exact cellNew rfl rfl
  have b1 : w4.cell? ⟨gB, 1, none⟩ = some (.int .u64 (aa : Int)) := by rw [hw4, hgB]; exact cellNew rfl rfl
  have b2 : w4.cell? ⟨gB, 2, none⟩ = some (.int .u64 (bb : Int)) := by rw [hw4, hgB]; exact cellNew rfl rfl
  have hB4 : Below w.heap.size w w4 := by rw [hw4]; exact hB3.alloc (by omega) _
  have zB : gB < w4.heap.size := by rw [hw4, hgB]; simp
  have zAB : gA < gB := by rw [hgB]; exact zA3
  have q0 : w4.cell? ⟨w.heap.size, 0, none⟩ = some (.int .i64 t) := by rw [hw4]; exact cellOld (by omega) q0
  have q1 : w4.cell? ⟨w.heap.size, 1, none⟩ = some (.int .i64 p) := by rw [hw4]; exact cellOld (by omega) q1
  have q2 : w4.cell? ⟨w.heap.size, 2, none⟩ = some (.int .i64 s) := by rw [hw4]; exact cellOld (by omega) q2
  have q3 : w4.cell? ⟨w.heap.size + 1, 0, none⟩ = some (.int .i64 ok) := by rw [hw4]; exact cellOld (by omega) q3
  have q4 : w4.cell? ⟨w.heap.size + 1, 1, none⟩ = some (.int .i64 oa) := by rw [hw4]; exact cellOld (by omega) q4
  have q5 : w4.cell? ⟨w.heap.size + 1, 2, none⟩ = some (.int .i64 ob) := by rw [hw4]; exact cellOld (by omega) q5
  rw [← hw4, ← hgB]
  clear hw4 hgB hA3 hB3 zA3
  have hA4d := hid (show w4.drew.heap[gA]? = _ from hA4)
  have hB4d : Below gA w4 w4.drew := (Below.refl _ _).drew
  go_region_held3 (fun w' => True) (trivial)
    (first
      | (refine step_copy_splice rfl (.tmp 49) (.tmp 50) 24 24 rfl 46 Try.underlying24 (by kernel_rfl) _ _ _ _ _ _ rfl rfl gA 1 [.int .u64 (m : Int), .int .u64 0, .int .u64 0, .int .u64 0] 94 hA4d.out [.int .u64 (kk : Int), .int .u64 (aa : Int), .int .u64 (bb : Int)] rfl (fun _ => ⟨rfl, ⟨gB, 0, none⟩, rfl, src3 b0 b1 b2⟩) (show 1 + 3 ≤ 4 by omega) (by intro v hv; simp at hv; rcases hv with rfl | rfl | rfl <;> rfl) gA w4 hB4d (Nat.le_refl _) ?_; intro w5 hg5 hb5))
  have hA5 : w5.heap[gA]? = some (.cells [.int .u64 (m : Int), .int .u64 (kk : Int), .int .u64 (aa : Int), .int .u64 (bb : Int)].toArray 94 (0, 0)) := hg5.out
  have hB5 : Below w.heap.size w w5 := hB4.trans (hb5.mono (by omega))
  have z5 : gB < w5.heap.size := by have := hb5.size; omega
  have q0 := (hb5.cell (p := ⟨w.heap.size, 0, none⟩) (show w.heap.size < gA by omega)).trans q0
  have q1 := (hb5.cell (p := ⟨w.heap.size, 1, none⟩) (show w.heap.size < gA by omega)).trans q1
  have q2 := (hb5.cell (p := ⟨w.heap.size, 2, none⟩) (show w.heap.size < gA by omega)).trans q2
  have q3 := (hb5.cell (p := ⟨w.heap.size + 1, 0, none⟩) zA0).trans q3
  have q4 := (hb5.cell (p := ⟨w.heap.size + 1, 1, none⟩) zA0).trans q4
  have q5 := (hb5.cell (p := ⟨w.heap.size + 1, 2, none⟩) zA0).trans q5
  have HA5 := hid hA5
  clear hg5 hA4 hA4d hB4d hb5 b0 b1 b2 hB4 hA5
  have hs5 := HS.out.below hB5
  go_wp2_with fail
  refine (cloneWords _ _ len cap ws hs5 (by omega)).mono ?_
  rintro e w6 ⟨a6, m6, cap6, rfl, ho6, hb6⟩
  obtain ⟨g6, hca⟩ : ∃ g6, .slice a6 m6 cap6 = Value.slice (some ⟨g6, 0, none⟩) len cap6 ∧ w5.heap.size ≤ g6 ∧ g6 < w6.heap.size := by
    obtain ⟨g, c', h1, h2, h3, _⟩ := ho6.form (by rw [HS.out.1]; omega)
    rw [HS.out.1] at h1
    cases h1
    exact ⟨g, rfl, h2, h3⟩
  obtain ⟨hv6, hg6, hg6'⟩ := hca
  rw [hv6] at ho6 ⊢
  obtain ⟨cur, R1, R2, R3, R4, R5, R6⟩ := ho6.row HS.out.1
  have hA6 := hid ((hb6.block gA (by omega)).trans HA5.out)
  have hB6 : Below w.heap.size w w6 := hB5.trans (hb6.mono (by omega))
  have z6 : w.heap.size < w6.heap.size := by omega
  have q0 := (hb6.cell (p := ⟨w.heap.size, 0, none⟩) (show w.heap.size < w5.heap.size by omega)).trans q0
  have q1 := (hb6.cell (p := ⟨w.heap.size, 1, none⟩) (show w.heap.size < w5.heap.size by omega)).trans q1
  have q2 := (hb6.cell (p := ⟨w.heap.size, 2, none⟩) (show w.heap.size < w5.heap.size by omega)).trans q2
  have q3 := (hb6.cell (p := ⟨w.heap.size + 1, 0, none⟩) (show w.heap.size + 1 < w5.heap.size by omega)).trans q3
  have q4 := (hb6.cell (p := ⟨w.heap.size + 1, 1, none⟩) (show w.heap.size + 1 < w5.heap.size by omega)).trans q4
  have q5 := (hb6.cell (p := ⟨w.heap.size + 1, 2, none⟩) (show w.heap.size + 1 < w5.heap.size by omega)).trans q5
  clear hv6 hs5 hb6 ho6 HA5
  have R0 := hid (show w6.drew.heap[g6]? = _ from R1)
  have RR := hid R3
  clear R1 R3
  go_wp2_with fail
  have sl : ∀ W, (Instr.slice 24 (.slice (some ⟨g6, 0, none⟩) len cap6) (some (.int .i64 (c : Int))) none none).run Try.prog W = .ok (.slice (some ⟨g6, 0 + (c), none⟩) (len - (c)) (cap6 - (c))) W := fun W => slice1 g6 0 len cap6 (c) (by omega) (by omega) W
  rw [Nat.zero_add] at sl
  have nA : ¬ g6 = gA := by omega
  go_region_held3 (fun w' => (w'.cell? ⟨w.heap.size, 0, none⟩ = some (.int .i64 t) ∧ w'.cell? ⟨w.heap.size, 1, none⟩ = some (.int .i64 p) ∧ w'.cell? ⟨w.heap.size, 2, none⟩ = some (.int .i64 s)) ∧ w.heap.size < w'.heap.size)
    (((go_split_ands); (try dsimp only); (repeat' apply And.intro); (all_goals first | assumption | omega | (simp; omega) | go_keep)))
    (first
      | (go_at_call 68; refine (placeCall t p s u 0 _).mono ?_; rw [CW.out]; rintro e wx ⟨rfl, hbx⟩; (try go_split_ands); obtain ⟨hcx, hfx, hzx⟩ := after hbx; have zdd : w6.drew.heap.size = w6.heap.size := rfl; have zx : w.heap.size < wx.heap.size := (by omega); have yy0 : wx.cell? ⟨w.heap.size, 0, none⟩ = some (.int .i64 t) := (hcx _ _ (by first | assumption | omega)).trans (by first | assumption | go_keep); have yy1 : wx.cell? ⟨w.heap.size, 1, none⟩ = some (.int .i64 p) := (hcx _ _ (by first | assumption | omega)).trans (by first | assumption | go_keep); have yy2 : wx.cell? ⟨w.heap.size, 2, none⟩ = some (.int .i64 s) := (hcx _ _ (by first | assumption | omega)).trans (by first | assumption | go_keep); have hgx := hid ((hbx.block g6 (by omega)).trans R0.out); have hAx : wx.heap[gA]? = _ := (hbx.block gA (by omega)).trans hA6.out; have hBx : Below w6.heap.size w6 wx := ((Below.refl _ _).drew).trans (hbx.mono (by omega)); have hBwx : Below w.heap.size w wx := hB6.trans (hBx.mono (by omega)); have hBg : Below gA w6 wx := hBx.mono (by omega))
      | (refine step_copy_splice rfl (.tmp 60) (.tmp 61) 24 24 rfl 46 Try.underlying24 (by kernel_rfl) _ _ _ _ _ _ rfl rfl g6 (c) cur 46 hgx.out ([m, kk, aa, bb].map fun x : Nat => Value.int .u64 (x : Int)) (show 4 = min 4 (len - (c)) by omega) (fun _ => ⟨rfl, ⟨gA, 0, none⟩, rfl, src4 (cellIn hAx 0 rfl) (cellIn hAx 1 rfl) (cellIn hAx 2 rfl) (cellIn hAx 3 rfl)⟩) (show (c) + 4 ≤ cur.length by omega) (by intro v hv; simp at hv; rcases hv with rfl | rfl | rfl | rfl <;> rfl) g6 wx (Below.refl _ _) (Nat.le_refl _) ?_; intro wy hgy hby; have zy : w.heap.size < wy.heap.size := (by have := hby.size; omega); have yy0 := (hby.cell (p := ⟨w.heap.size, 0, none⟩) (show w.heap.size < g6 by omega)).trans yy0; have yy1 := (hby.cell (p := ⟨w.heap.size, 1, none⟩) (show w.heap.size < g6 by omega)).trans yy1; have yy2 := (hby.cell (p := ⟨w.heap.size, 2, none⟩) (show w.heap.size < g6 by omega)).trans yy2))
  have hAy : wy.heap[gA]? = _ := (hby.block gA (by omega)).trans hAx
  have hBy : Below w.heap.size w wy := hBwx.trans (hby.mono (by omega))
  have hoy : Own 46 .u64 wy w.heap.size (.slice (some ⟨g6, 0, none⟩) len cap6) (splice ws (c) [m, kk, aa, bb]) := Own.spliced R2 RR.out HS.out.1 R4 R5 (by omega) (show (c) + 4 ≤ len by omega) hgy.out
  have za : gA < wy.heap.size := by have := hby.size; omega
  have a0 := cellIn hAy 0 rfl
  have a1 := cellIn hAy 1 rfl
  have a2 := cellIn hAy 2 rfl
  have a3 := cellIn hAy 3 rfl
  clear hby hgy hgx hAx hBx hBwx hBg R0 hA6 sl hcx hfx hAy RR
  rw [LW.out] at hoy
  have HOY := hid hoy
  go_wp2_with fail
  refine (callOfYes t p s u _ _ len cap6 XS hoy.seen HO.out h0 h1).mono ?_
  rw [C0.out, C1.out, C2.out, C3.out]
  rintro e w8 ⟨rfl, hb8⟩
  have ho8 := hoy.kept hb8 (Nat.le_refl _)
  have hB8 : Below w.heap.size w w8 := hBy.trans (hb8.mono (by omega))
  have a0 := (hb8.cell (p := ⟨gA, 0, none⟩) za).trans a0
  have a1 := (hb8.cell (p := ⟨gA, 1, none⟩) za).trans a1
  have a2 := (hb8.cell (p := ⟨gA, 2, none⟩) za).trans a2
  have a3 := (hb8.cell (p := ⟨gA, 3, none⟩) za).trans a3
  have z8 : gA < w8.heap.size := by have := hb8.size; omega
  clear hb8 hoy HOY
  generalize cwN t p u XS 8 = o0
  generalize cwN t p u XS 9 = o1
  generalize cwN t p u XS 10 = o2
  generalize cwN t p u XS 11 = o3
  go_wp2_with fail
  obtain ⟨w9, hw9⟩ : ∃ x : World, x = w8.alloc (.cells #[.int .u64 (m : Int), .int .u64 (kk : Int), .int .u64 (aa : Int), .int .u64 (bb : Int), .int .u64 (o0 : Int), .int .u64 (o1 : Int), .int .u64 (o2 : Int), .int .u64 (o3 : Int)] 95) := ⟨_, rfl⟩
  have e0 : w9.cell? ⟨w8.heap.size, 0, none⟩ = some (.int .u64 (m : Int)) := by rw [hw9]; exact cellNew rfl rfl
  have e1 : w9.cell? ⟨w8.heap.size, 1, none⟩ = some (.int .u64 (kk : Int)) := by rw [hw9]; exact cellNew rfl rfl
  have e2 : w9.cell? ⟨w8.heap.size, 2, none⟩ = some (.int .u64 (aa : Int)) := by rw [hw9]; exact cellNew rfl rfl
  have e3 : w9.cell? ⟨w8.heap.size, 3, none⟩ = some (.int .u64 (bb : Int)) := by rw [hw9]; exact cellNew rfl rfl
  have a0 : w9.cell? ⟨gA, 0, none⟩ = some (.int .u64 (m : Int)) := by rw [hw9]; exact cellOld z8 a0
  have a1 : w9.cell? ⟨gA, 1, none⟩ = some (.int .u64 (kk : Int)) := by rw [hw9]; exact cellOld z8 a1
  have a2 : w9.cell? ⟨gA, 2, none⟩ = some (.int .u64 (aa : Int)) := by rw [hw9]; exact cellOld z8 a2
  have a3 : w9.cell? ⟨gA, 3, none⟩ = some (.int .u64 (bb : Int)) := by rw [hw9]; exact cellOld z8 a3
  have z9 : w8.heap.size < w9.heap.size := by rw [hw9]; simp
  have z9' : gA < w9.heap.size := by omega
  have hB9 : Below w.heap.size w w9 := by rw [hw9]; exact hB8.alloc (by omega) _
  have ho9 := ho8.kept (B := w8.heap.size) (w' := w9) (by rw [hw9]; exact (Below.refl _ _).alloc (Nat.le_refl _) _) (Nat.le_refl _)
  rw [← hw9]
  clear hw9 hB8 ho8
  have EQ : ∀ W, (Op.equalIn 10000 94 (.agg #[.int .u64 (m : Int), .int .u64 (kk : Int), .int .u64 (aa : Int), .int .u64 (bb : Int)]) (.agg #[.int .u64 (m : Int), .int .u64 (kk : Int), .int .u64 (aa : Int), .int .u64 (bb : Int)])).run Try.prog W = .ok true W := fun W => by rw [eqCall4]; simp
  refine regionBelow (by kernel_rfl) (by kernel_rfl) ?_
  repeat (go_big_quiet_step (fail))
  refine wpQuiet_nil ?_
  intro _ hw'
  obtain ⟨nq, hw''⟩ := hw'
  subst hw''
  have hn2 := nq.below
  have hoA := ho9.kept hn2 (Nat.le_refl _)
  have hBA : Below w.heap.size w nq.to := hB9.trans (hn2.mono (by omega))
  clear hn2 ho9 hB9
  go_wp2_with fail
  go_ret2
  exact .inl ⟨_, LC.out, _, _, _, rfl, hoA, hBA⟩

theorem callLayYes (t p s u : Int) (w : World) (a : Option Addr) (len cap : Nat) (ws : List Nat) (num ok oa ob : Int) (hs : Seen .u64 w a len cap ws) (ho : okW t p s len) (h0 : 0 ≤ u) (h1 : u < t) :
    Calls Try.prog 29 #[.agg #[.int .i64 t, .int .i64 p, .int .i64 s], .slice a len cap, .int .i64 u, .int .i64 num, .agg #[.int .i64 ok, .int .i64 oa, .int .i64 ob]] w (OptPost 46 .u64 w (layC t p u ws num ok oa ob)) := by
  cases hl : layB t p u ws num ok oa ob
  · have h := callLayBad t p s u w a len cap ws num ok oa ob hs ho h0 h1 hl
    rw [layC, hl]
    exact h
  · have hl' := hl
    rw [layB, Bool.and_eq_true] at hl'
    obtain ⟨g1, g2⟩ := hl'
    obtain ⟨g3, g4⟩ := of_decide_eq_true g1
    have hb : lastB t p u ws = 0 ∨ lastB t p u ws = 1 := by unfold lastB; split <;> simp
    rcases hb with hb | hb
    · exact callLayGood0 t p s u w a len cap ws num ok oa ob hs ho h0 h1 g2 g3 g4 hb
    · exact callLayGood1 t p s u w a len cap ws num ok oa ob hs ho h0 h1 g2 g3 g4 hb
end Go.Proofs.Ytkkhoiahjmfibaa
