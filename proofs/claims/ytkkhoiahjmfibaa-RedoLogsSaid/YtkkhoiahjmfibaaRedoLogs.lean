/- The likeness of rows of pairs; the walk of the statement on logs: it answers true. -/
import Derived.Test.YtkkhoiahjmfibaaRefLay
import Derived.Test.YtkkhoiahjmfibaaRedoLive2
import Derived.Test.YtkkhoiahjmfibaaRedoPart2
import Derived.Deep.SlicePairs
namespace Go.Proofs.Ytkkhoiahjmfibaa
open Go.RowKit
set_option linter.unusedVariables false
set_option linter.unusedSimpArgs false

theorem pairCells_get (es : List Nat) : ∀ j, j < es.length → (pairCells es)[j * 2]? = some (.int .i64 ((es[j]?.getD 0 : Nat) / 4294967296 : Int)) ∧ (pairCells es)[j * 2 + 1]? = some (.int .u32 ((es[j]?.getD 0 : Nat) % 4294967296 : Int)) := by
  induction es with
  | nil => intro j hj; simp at hj
  | cons e es ih =>
    intro j hj
    have hp : pairCells (e :: es) = .int .i64 ((e : Int) / 4294967296) :: .int .u32 ((e : Int) % 4294967296) :: pairCells es := rfl
    rw [hp]
    cases j with
    | zero => exact ⟨rfl, rfl⟩
    | succ j =>
      have := ih j (by simpa using hj)
      rw [show (j + 1) * 2 = j * 2 + 1 + 1 by omega, List.getElem?_cons_succ, List.getElem?_cons_succ, List.getElem?_cons_succ, List.getElem?_cons_succ, List.getElem?_cons_succ]
      exact this

/-- A row of pairs that is seen, each what an entry's word is. -/
def SeenE (w : World) (a : Option Addr) (n : Nat) (es : List Nat) : Prop :=
  es.length = n ∧ (n = 0 ∨ ∃ b, a = some ⟨b, 0, none⟩ ∧ ∀ j, j < n → w.cell? ⟨b, j * 2, none⟩ = some (.int .i64 ((es[j]?.getD 0 : Nat) / 4294967296 : Int)) ∧ w.cell? ⟨b, j * 2 + 1, none⟩ = some (.int .u32 ((es[j]?.getD 0 : Nat) % 4294967296 : Int)))
theorem OwnP.seen {w : World} {base : Nat} {a : Option Addr} {n cap : Nat} {es : List Nat} (h : OwnP w base (.slice a n cap) es) : SeenE w a n es := by
  have h' := h
  rcases h.2 with ⟨hv, hn⟩ | ⟨g, cap', cur, hv, hbs, rest⟩
  · cases hv; exact ⟨hn, .inl rfl⟩
  · cases hv
    refine ⟨rfl, .inr ⟨g, rfl, fun j hj => ?_⟩⟩
    obtain ⟨e1, e2⟩ := pairCells_get es j hj
    rw [← e1, ← e2]
    exact ⟨World.ownsRow.cellAt h' (j * 2) (by omega), World.ownsRow.cellAt h' (j * 2 + 1) (by omega)⟩

set_option maxHeartbeats 800000 in
theorem refSamePairs (w : World) (a b : Option Addr) (n ca cb : Nat) (es : List Nat) (hx : SeenE w a n es) (hy : SeenE w b n es) (hn : n ≤ 9223372036854775807) :
    Calls Try.prog 16 #[.slice a n ca, .slice b n cb] w fun e w' => e = .returned (.bool true) ∧ Below w.heap.size w w' := by
  obtain ⟨x1, x4⟩ := hx
  obtain ⟨y1, y4⟩ := hy
  have X := hid x1
  clear x1 y1
  go_enter Try.func16, Try.ntmps16
  go_wp2_with fail
  go_loopw [5] (fun i wr => ∃ k : Nat, k ≤ n ∧ i = .int .i64 k ∧ ∃ m, wr = w.drewN m) (fun i _ => n - (intOf i).toNat)
  case atStart => exact ⟨0, by omega, rfl, 0, rfl⟩
  case round =>
    obtain ⟨k, hk, rfl, m, rfl⟩ := hrel
    by_cases hlt : k < n
    · rcases x4 with rfl | ⟨bx, rfl, hcx⟩
      · omega
      rcases y4 with rfl | ⟨b', rfl, hcy⟩
      · omega
      obtain ⟨c1, c2⟩ := hcx k hlt
      obtain ⟨d1, d2⟩ := hcy k hlt
      have c1 : (w.drewN m).cell? ⟨bx, k * 2, none⟩ = _ := c1
      have c2 : (w.drewN m).cell? ⟨bx, k * 2 + 1, none⟩ = _ := c2
      have d1 : (w.drewN m).cell? ⟨b', k * 2, none⟩ = _ := d1
      have d2 : (w.drewN m).cell? ⟨b', k * 2 + 1, none⟩ = _ := d2
      clear hcx hcy
      have W := hid (show ∃ k, w.drewN m = w.drewN k from ⟨m, rfl⟩)
      generalize w.drewN m = wk at c1 c2 d1 d2 W ⊢
      generalize (es[k]?.getD 0 : Nat) = x at c1 c2 d1 d2
      have k0 : (0 : Int) ≤ (k : Int) := by omega
      have k1 : (k : Int) < (n : Int) := by omega
      go_wp2_with fail
      go_quiet (fail)
      go_wp2_with fail
      go_roundw
      case rel =>
        obtain ⟨m, rfl⟩ := W.out
        exact ⟨k + 1, by omega, by go_num, m + nq, by simp⟩
      case measure => simp [intOf]; omega
    · obtain rfl : k = n := by omega
      go_wp2_with fail
      go_ret
      exact ⟨rfl, belowDrewN (Below.refl _ _) _⟩

theorem few27Yes (w : World) (a : Option Addr) (len cap : Nat) (u : Int) (S : Nat) (al : Option Addr) (n cl : Nat) (hl : len ≤ cap ∧ cap ≤ maxLen) (hc : n ≤ cl ∧ cl ≤ maxLen) (hf : len ≤ 3000 ∧ n ≤ 200) :
    Calls Try.prog 10 #[.slice a len cap, .agg #[.int .i64 u, .int .u32 (S : Int), .slice al n cl]] w fun e w' => e = .returned (.bool true) ∧ Below w.heap.size w w' := by
  obtain ⟨l1, l2⟩ := hl
  obtain ⟨c1, c2⟩ := hc
  obtain ⟨h1, h2⟩ := hf
  go_enter Try.func10, Try.ntmps10
  go_wp2_with fail
  go_ret
  exact ⟨ret_bool (by simp; omega), bel⟩
theorem few27No (w : World) (a : Option Addr) (len cap : Nat) (u : Int) (S : Nat) (al : Option Addr) (n cl : Nat) (hl : len ≤ cap ∧ cap ≤ maxLen) (hc : n ≤ cl ∧ cl ≤ maxLen) (hf : ¬ (len ≤ 3000 ∧ n ≤ 200)) :
    Calls Try.prog 10 #[.slice a len cap, .agg #[.int .i64 u, .int .u32 (S : Int), .slice al n cl]] w fun e w' => e = .returned (.bool false) ∧ Below w.heap.size w w' := by
  obtain ⟨l1, l2⟩ := hl
  obtain ⟨c1, c2⟩ := hc
  by_cases h1 : len ≤ 3000
  · have h2 : 200 < n := by omega
    clear hf
    go_enter Try.func10, Try.ntmps10
    go_wp2_with fail
    go_ret
    exact ⟨ret_bool (by simp; omega), bel⟩
  · have h2 : 3000 < len := by omega
    clear hf h1
    go_enter Try.func10, Try.ntmps10
    go_wp2_with fail
    go_ret
    exact ⟨rfl, bel⟩

theorem LogPost.form {w w' : World} {t p u : Int} {ws : List Nat} {g : Bool} {e : Ending} (h : LogPost w t p u ws g e w') :
    ∃ v, e = .returned (.tuple #[.agg #[.int .u32 (if (g && logB t p u ws) = true then (noteX t p u ws : Int) / 4294967296 else 0), .bool (if (g && logB t p u ws) = true then ((noteX t p u ws : Int) / 2147483648 % 2 == 1) else false), .int .i64 (if (g && logB t p u ws) = true then (noteX t p u ws : Int) % 2147483648 else 0)], v, .bool (g && logB t p u ws)]) ∧ OwnP w' w.heap.size v (if (g && logB t p u ws) = true then logXs t p u ws else []) ∧ Below w.heap.size w w' := by
  rcases h with ⟨h, v, he, ho, hb⟩ | ⟨h, he, hb⟩
  · refine ⟨v, ?_, ?_, hb⟩
    · rw [he, h]; rfl
    · rw [if_pos h]; exact ho
  · refine ⟨.slice none 0 0, ?_, ?_, hb⟩
    · rw [he, h]; rfl
    · rw [h]; exact OwnP.nil _ _
theorem OptPost.form {T : TypeId} {k : IntKind} {w w' : World} {o : Option (List Nat)} {e : Ending} (h : OptPost T k w o e w') :
    ∃ a m cap, e = .returned (.tuple #[.slice a m cap, .bool o.isSome]) ∧ Own T k w' w.heap.size (.slice a m cap) (o.getD []) ∧ Below w.heap.size w w' := by
  rcases h with ⟨r, rfl, a, m, c, he, ho, hb⟩ | ⟨rfl, he, hb⟩
  · exact ⟨a, m, c, he, ho, hb⟩
  · exact ⟨none, 0, 0, he, Own.nil _ _ _ _, hb⟩

set_option maxRecDepth 100000 in
theorem redoLogsBig (w : World) (t p s : Int) (a : Option Addr) (len cap : Nat) (ws : List Nat) (u : Int) (S : Nat) (al : Option Addr) (n cl : Nat) (ps : List (Int × Nat)) (hl1 : len ≤ cap) (hl2 : cap ≤ maxLen) (hc1 : n ≤ cl) (hc2 : cl ≤ maxLen) (hf : ¬ (len ≤ 3000 ∧ n ≤ 200)) :
    Calls Try.prog 3 #[.agg #[.int .i64 t, .int .i64 p, .int .i64 s], .slice a len cap, .agg #[.int .i64 u, .int .u32 (S : Int), .slice al n cl]] w fun e w' => e = .returned (.bool true) ∧ Below w.heap.size w w' := by
  have FEW := hid hf
  clear hf
  go_enter Try.func3, Try.ntmps3
  go_wp2_with fail
  refine (few27No _ a len cap u S al n cl ⟨hl1, hl2⟩ ⟨hc1, hc2⟩ FEW.out).mono ?_
  rintro e w1 ⟨rfl, hb1⟩
  have z1 : w.heap.size < w1.heap.size := by have := hb1.size; simp at this; omega
  go_wp2_with fail
  refine (liveRedo _).mono ?_
  rintro e w2 ⟨rfl, hb2⟩
  go_wp2_with fail
  go_ret
  exact ⟨rfl, bel⟩

set_option maxRecDepth 100000 in
set_option maxHeartbeats 3200000 in
theorem redoLogsFew (w : World) (t p s : Int) (a : Option Addr) (len cap : Nat) (ws : List Nat) (u : Int) (S : Nat) (al : Option Addr) (n cl : Nat) (ps : List (Int × Nat)) (hl1 : len ≤ cap) (hl2 : cap ≤ maxLen) (hc1 : n ≤ cl) (hc2 : cl ≤ maxLen) (hf : len ≤ 3000 ∧ n ≤ 200)
    (st : Int) (ob : Bool) (cn : Int) (es : List Nat) (lb : Bool) (r : Option (List Nat))
    (LOG : RowKit.Hid (∀ w', Below w.heap.size w w' → Calls Try.prog 12 #[.agg #[.int .i64 t, .int .i64 p, .int .i64 s], .slice a len cap, .int .i64 u] w' fun e w'' => ∃ v, e = .returned (.tuple #[.agg #[.int .u32 st, .bool ob, .int .i64 cn], v, .bool lb]) ∧ OwnP w'' w'.heap.size v es ∧ Below w'.heap.size w' w''))
    (REF : RowKit.Hid (∀ w', Below w.heap.size w w' → Calls Try.prog 13 #[.agg #[.int .i64 t, .int .i64 p, .int .i64 s], .slice a len cap, .int .i64 u] w' fun e w'' => ∃ v, e = .returned (.tuple #[.agg #[.int .u32 st, .bool ob, .int .i64 cn], v, .bool lb]) ∧ OwnP w'' w'.heap.size v es ∧ Below w'.heap.size w' w''))
    (LAY : RowKit.Hid (∀ w', Below w.heap.size w w' → Calls Try.prog 14 #[.agg #[.int .i64 t, .int .i64 p, .int .i64 s], .slice a len cap, .int .i64 u, .int .u32 (S : Int), .slice al n cl] w' (OptPost 46 .u64 w' r)))
    (RLY : RowKit.Hid (∀ w', Below w.heap.size w w' → Calls Try.prog 15 #[.agg #[.int .i64 t, .int .i64 p, .int .i64 s], .slice a len cap, .int .i64 u, .int .u32 (S : Int), .slice al n cl] w' (OptPost 46 .u64 w' r))) (hes : es.length ≤ 9223372036854775807) :
    Calls Try.prog 3 #[.agg #[.int .i64 t, .int .i64 p, .int .i64 s], .slice a len cap, .agg #[.int .i64 u, .int .u32 (S : Int), .slice al n cl]] w fun e w' => e = .returned (.bool true) ∧ Below w.heap.size w w' := by
  have FEW := hid hf
  clear hf
  go_enter Try.func3, Try.ntmps3
  go_wp2_with fail
  refine (few27Yes _ a len cap u S al n cl ⟨hl1, hl2⟩ ⟨hc1, hc2⟩ FEW.out).mono ?_
  rintro e w1 ⟨rfl, hb1⟩
  have hC1 : Below (w.heap.size + 2) ((w.alloc (.cells #[.int .i64 t, .int .i64 p, .int .i64 s] 23)).alloc (.cells #[.int .i64 u, .int .u32 (S : Int), .slice al n cl] 28)) w1 := hb1.mono (by simp)
  have z1 : w.heap.size + 2 ≤ w1.heap.size := by have := hb1.size; simp at this; omega
  have x1 : w.heap.size < w1.heap.size := by omega
  have x1' : w.heap.size + 1 < w1.heap.size := by omega
  have hB1 : Below w.heap.size w w1 := bel
  have q0 : w1.cell? ⟨w.heap.size, 0, none⟩ = some (.int .i64 t) := (hC1.cell (p := ⟨w.heap.size, 0, none⟩) (by (try simp); try omega)).trans (cellOld (by simp) (cellNew rfl rfl))
  have q1 : w1.cell? ⟨w.heap.size, 1, none⟩ = some (.int .i64 p) := (hC1.cell (p := ⟨w.heap.size, 1, none⟩) (by (try simp); try omega)).trans (cellOld (by simp) (cellNew rfl rfl))
  have q2 : w1.cell? ⟨w.heap.size, 2, none⟩ = some (.int .i64 s) := (hC1.cell (p := ⟨w.heap.size, 2, none⟩) (by (try simp); try omega)).trans (cellOld (by simp) (cellNew rfl rfl))
  have q3 : w1.cell? ⟨w.heap.size + 1, 0, none⟩ = some (.int .i64 u) := (hC1.cell (p := ⟨w.heap.size + 1, 0, none⟩) (by (try simp); try omega)).trans (cellNew (by simp) rfl)
  have q4 : w1.cell? ⟨w.heap.size + 1, 1, none⟩ = some (.int .u32 (S : Int)) := (hC1.cell (p := ⟨w.heap.size + 1, 1, none⟩) (by (try simp); try omega)).trans (cellNew (by simp) rfl)
  have q5 : w1.cell? ⟨w.heap.size + 1, 2, none⟩ = some (.slice al n cl) := (hC1.cell (p := ⟨w.heap.size + 1, 2, none⟩) (by (try simp); try omega)).trans (cellNew (by simp) rfl)
  clear hb1 hC1
  go_wp2_with fail
  refine (LOG.out _ hB1).mono ?_
  rintro e w2 ⟨v2, rfl, ho2, hb2⟩
  obtain ⟨a2, cap2, hv2⟩ := ho2.form
  subst hv2
  have z2 : w1.heap.size ≤ w2.heap.size := hb2.size
  have x2 : w.heap.size < w2.heap.size := by omega
  have x2' : w.heap.size + 1 < w2.heap.size := by omega
  have hB2 : Below w.heap.size w w2 := hB1.trans (hb2.mono (by omega))
  have q0 : w2.cell? ⟨w.heap.size, 0, none⟩ = some (.int .i64 t) := (hb2.cell (p := ⟨w.heap.size, 0, none⟩) (by (try simp); omega)).trans q0
  have q1 : w2.cell? ⟨w.heap.size, 1, none⟩ = some (.int .i64 p) := (hb2.cell (p := ⟨w.heap.size, 1, none⟩) (by (try simp); omega)).trans q1
  have q2 : w2.cell? ⟨w.heap.size, 2, none⟩ = some (.int .i64 s) := (hb2.cell (p := ⟨w.heap.size, 2, none⟩) (by (try simp); omega)).trans q2
  have q3 : w2.cell? ⟨w.heap.size + 1, 0, none⟩ = some (.int .i64 u) := (hb2.cell (p := ⟨w.heap.size + 1, 0, none⟩) (by (try simp); omega)).trans q3
  have q4 : w2.cell? ⟨w.heap.size + 1, 1, none⟩ = some (.int .u32 (S : Int)) := (hb2.cell (p := ⟨w.heap.size + 1, 1, none⟩) (by (try simp); omega)).trans q4
  have q5 : w2.cell? ⟨w.heap.size + 1, 2, none⟩ = some (.slice al n cl) := (hb2.cell (p := ⟨w.heap.size + 1, 2, none⟩) (by (try simp); omega)).trans q5
  have ho2 := (ho2.rebase (base' := w.heap.size) (by omega)).kept (B := w2.heap.size) ((Below.refl _ _).alloc (Nat.le_refl _) (.cells #[.int .u32 st, .bool ob, .int .i64 cn] 32)) (Nat.le_refl _)
  clear hb2
  go_wp2_with fail
  refine (REF.out _ (hB2.alloc (by omega) _)).mono ?_
  rintro e w3 ⟨v3, rfl, ho3, hb3⟩
  obtain ⟨a3, cap3, hv3⟩ := ho3.form
  subst hv3
  have hb3' : Below (w2.heap.size + 1) (w2.alloc (.cells #[.int .u32 st, .bool ob, .int .i64 cn] 32)) w3 := hb3.mono (by simp)
  have z3 : w2.heap.size + 1 ≤ w3.heap.size := by have := hb3'.size; simp at this; omega
  have x3 : w.heap.size < w3.heap.size := by omega
  have x3' : w.heap.size + 1 < w3.heap.size := by omega
  have u3 : w2.heap.size < w3.heap.size := by omega
  have hB3 : Below w.heap.size w w3 := (hB2.alloc (by omega) _).trans (hb3'.mono (by omega))
  have q0 : w3.cell? ⟨w.heap.size, 0, none⟩ = some (.int .i64 t) := (hb3'.cell (p := ⟨w.heap.size, 0, none⟩) (by (try simp); omega)).trans (cellOld (by omega) q0)
  have q1 : w3.cell? ⟨w.heap.size, 1, none⟩ = some (.int .i64 p) := (hb3'.cell (p := ⟨w.heap.size, 1, none⟩) (by (try simp); omega)).trans (cellOld (by omega) q1)
  have q2 : w3.cell? ⟨w.heap.size, 2, none⟩ = some (.int .i64 s) := (hb3'.cell (p := ⟨w.heap.size, 2, none⟩) (by (try simp); omega)).trans (cellOld (by omega) q2)
  have q3 : w3.cell? ⟨w.heap.size + 1, 0, none⟩ = some (.int .i64 u) := (hb3'.cell (p := ⟨w.heap.size + 1, 0, none⟩) (by (try simp); omega)).trans (cellOld (by omega) q3)
  have q4 : w3.cell? ⟨w.heap.size + 1, 1, none⟩ = some (.int .u32 (S : Int)) := (hb3'.cell (p := ⟨w.heap.size + 1, 1, none⟩) (by (try simp); omega)).trans (cellOld (by omega) q4)
  have q5 : w3.cell? ⟨w.heap.size + 1, 2, none⟩ = some (.slice al n cl) := (hb3'.cell (p := ⟨w.heap.size + 1, 2, none⟩) (by (try simp); omega)).trans (cellOld (by omega) q5)
  have n0 : w3.cell? ⟨w2.heap.size, 0, none⟩ = some (.int .u32 st) := (hb3'.cell (p := ⟨w2.heap.size, 0, none⟩) (Nat.lt_succ_self _)).trans (cellNew rfl rfl)
  have n1 : w3.cell? ⟨w2.heap.size, 1, none⟩ = some (.bool ob) := (hb3'.cell (p := ⟨w2.heap.size, 1, none⟩) (Nat.lt_succ_self _)).trans (cellNew rfl rfl)
  have n2 : w3.cell? ⟨w2.heap.size, 2, none⟩ = some (.int .i64 cn) := (hb3'.cell (p := ⟨w2.heap.size, 2, none⟩) (Nat.lt_succ_self _)).trans (cellNew rfl rfl)
  have ho2 := (ho2.kept hb3 (Nat.le_refl _)).kept (B := w3.heap.size) ((Below.refl _ _).alloc (Nat.le_refl _) (.cells #[.int .u32 st, .bool ob, .int .i64 cn] 32)) (Nat.le_refl _)
  have ho3 := (ho3.rebase (base' := w.heap.size) (by simp; omega)).kept (B := w3.heap.size) ((Below.refl _ _).alloc (Nat.le_refl _) (.cells #[.int .u32 st, .bool ob, .int .i64 cn] 32)) (Nat.le_refl _)
  clear hb3 hb3'
  go_wp2_with fail
  refine (LAY.out _ (hB3.alloc (by omega) _)).mono ?_
  rintro e w4 hp4
  obtain ⟨a4, m4, cap4, rfl, ho4, hb4⟩ := hp4.form
  clear hp4
  have hb4' : Below (w3.heap.size + 1) (w3.alloc (.cells #[.int .u32 st, .bool ob, .int .i64 cn] 32)) w4 := hb4.mono (by simp)
  have z4 : w3.heap.size + 1 ≤ w4.heap.size := by have := hb4'.size; simp at this; omega
  have x4 : w.heap.size < w4.heap.size := by omega
  have x4' : w.heap.size + 1 < w4.heap.size := by omega
  have u4 : w2.heap.size < w4.heap.size := by omega
  have u4' : w3.heap.size < w4.heap.size := by omega
  have hB4 : Below w.heap.size w w4 := (hB3.alloc (by omega) _).trans (hb4'.mono (by omega))
  have q0 : w4.cell? ⟨w.heap.size, 0, none⟩ = some (.int .i64 t) := (hb4'.cell (p := ⟨w.heap.size, 0, none⟩) (by (try simp); omega)).trans (cellOld (by omega) q0)
  have q1 : w4.cell? ⟨w.heap.size, 1, none⟩ = some (.int .i64 p) := (hb4'.cell (p := ⟨w.heap.size, 1, none⟩) (by (try simp); omega)).trans (cellOld (by omega) q1)
  have q2 : w4.cell? ⟨w.heap.size, 2, none⟩ = some (.int .i64 s) := (hb4'.cell (p := ⟨w.heap.size, 2, none⟩) (by (try simp); omega)).trans (cellOld (by omega) q2)
  have q3 : w4.cell? ⟨w.heap.size + 1, 0, none⟩ = some (.int .i64 u) := (hb4'.cell (p := ⟨w.heap.size + 1, 0, none⟩) (by (try simp); omega)).trans (cellOld (by omega) q3)
  have q4 : w4.cell? ⟨w.heap.size + 1, 1, none⟩ = some (.int .u32 (S : Int)) := (hb4'.cell (p := ⟨w.heap.size + 1, 1, none⟩) (by (try simp); omega)).trans (cellOld (by omega) q4)
  have q5 : w4.cell? ⟨w.heap.size + 1, 2, none⟩ = some (.slice al n cl) := (hb4'.cell (p := ⟨w.heap.size + 1, 2, none⟩) (by (try simp); omega)).trans (cellOld (by omega) q5)
  have n0 : w4.cell? ⟨w2.heap.size, 0, none⟩ = some (.int .u32 st) := (hb4'.cell (p := ⟨w2.heap.size, 0, none⟩) (by (try simp); omega)).trans (cellOld (by omega) n0)
  have n1 : w4.cell? ⟨w2.heap.size, 1, none⟩ = some (.bool ob) := (hb4'.cell (p := ⟨w2.heap.size, 1, none⟩) (by (try simp); omega)).trans (cellOld (by omega) n1)
  have n2 : w4.cell? ⟨w2.heap.size, 2, none⟩ = some (.int .i64 cn) := (hb4'.cell (p := ⟨w2.heap.size, 2, none⟩) (by (try simp); omega)).trans (cellOld (by omega) n2)
  have m0 : w4.cell? ⟨w3.heap.size, 0, none⟩ = some (.int .u32 st) := (hb4'.cell (p := ⟨w3.heap.size, 0, none⟩) (Nat.lt_succ_self _)).trans (cellNew rfl rfl)
  have m1 : w4.cell? ⟨w3.heap.size, 1, none⟩ = some (.bool ob) := (hb4'.cell (p := ⟨w3.heap.size, 1, none⟩) (Nat.lt_succ_self _)).trans (cellNew rfl rfl)
  have m2 : w4.cell? ⟨w3.heap.size, 2, none⟩ = some (.int .i64 cn) := (hb4'.cell (p := ⟨w3.heap.size, 2, none⟩) (Nat.lt_succ_self _)).trans (cellNew rfl rfl)
  have ho2 := ho2.kept hb4 (Nat.le_refl _)
  have ho3 := ho3.kept hb4 (Nat.le_refl _)
  clear hb4 hb4'
  go_wp2_with fail
  refine (RLY.out _ hB4).mono ?_
  rintro e w5 hp5
  obtain ⟨a5, m5, cap5, rfl, ho5, hb5⟩ := hp5.form
  clear hp5
  have z5 : w4.heap.size ≤ w5.heap.size := hb5.size
  have x5 : w.heap.size < w5.heap.size := by omega
  have x5' : w.heap.size + 1 < w5.heap.size := by omega
  have u5 : w2.heap.size < w5.heap.size := by omega
  have u5' : w3.heap.size < w5.heap.size := by omega
  have hB5 : Below w.heap.size w w5 := hB4.trans (hb5.mono (by omega))
  have n0 : w5.cell? ⟨w2.heap.size, 0, none⟩ = some (.int .u32 st) := (hb5.cell (p := ⟨w2.heap.size, 0, none⟩) (by (try simp); omega)).trans n0
  have n1 : w5.cell? ⟨w2.heap.size, 1, none⟩ = some (.bool ob) := (hb5.cell (p := ⟨w2.heap.size, 1, none⟩) (by (try simp); omega)).trans n1
  have n2 : w5.cell? ⟨w2.heap.size, 2, none⟩ = some (.int .i64 cn) := (hb5.cell (p := ⟨w2.heap.size, 2, none⟩) (by (try simp); omega)).trans n2
  have m0 : w5.cell? ⟨w3.heap.size, 0, none⟩ = some (.int .u32 st) := (hb5.cell (p := ⟨w3.heap.size, 0, none⟩) (by (try simp); omega)).trans m0
  have m1 : w5.cell? ⟨w3.heap.size, 1, none⟩ = some (.bool ob) := (hb5.cell (p := ⟨w3.heap.size, 1, none⟩) (by (try simp); omega)).trans m1
  have m2 : w5.cell? ⟨w3.heap.size, 2, none⟩ = some (.int .i64 cn) := (hb5.cell (p := ⟨w3.heap.size, 2, none⟩) (by (try simp); omega)).trans m2
  have ho2 := ho2.kept hb5 (Nat.le_refl _)
  have ho3 := ho3.kept hb5 (Nat.le_refl _)
  have ho4 := ho4.kept hb5 (Nat.le_refl _)
  clear hb5 q0 q1 q2 q3 q4 q5
  go_wp2_with fail
  refine (refSamePairs _ _ _ _ _ _ es ho2.seen ho3.seen hes).mono ?_
  rintro e w6 ⟨rfl, hb6⟩
  have hB6 : Below w.heap.size w w6 := hB5.trans (hb6.mono (by omega))
  have z6 : w5.heap.size ≤ w6.heap.size := hb6.size
  have ho4 := ho4.kept hb6 (Nat.le_refl _)
  have ho5 := ho5.kept hb6 (Nat.le_refl _)
  clear hb6 ho2 ho3
  go_wp2_with fail
  refine (refSameWordsB _ _ _ _ _ _ _ _ _ ho4.seen ho5.seen).mono ?_
  rw [beq_self_eq_true]
  rintro e w7 ⟨rfl, hb7⟩
  have hB7 : Below w.heap.size w w7 := hB6.trans (hb7.mono (by omega))
  have z7 : w6.heap.size ≤ w7.heap.size := hb7.size
  clear hb7 ho4 ho5
  go_wp2_with fail
  refine (liveRedo _).mono ?_
  rintro e w8 ⟨rfl, hb8⟩
  have hB8 : Below w.heap.size w w8 := hB7.trans (hb8.mono (by omega))
  clear hb8
  go_wp2_with fail
  go_ret
  exact ⟨rfl, hB8⟩

theorem lawRedoLogs (w : World) (t p s : Int) (a : Option Addr) (len cap : Nat) (ws : List Nat) (u : Int) (S : Nat) (al : Option Addr) (n cl : Nat) (ps : List (Int × Nat)) (t1 : -9223372036854775808 ≤ t) (t2 : t ≤ 9223372036854775807) (p1 : -9223372036854775808 ≤ p) (p2 : p ≤ 9223372036854775807) (s1 : -9223372036854775808 ≤ s) (s2 : s ≤ 9223372036854775807)
    (hs : Seen .u64 w a len cap ws) (hf : Fit 18446744073709551616 ws) (u1 : -9223372036854775808 ≤ u) (u2 : u ≤ 9223372036854775807) (hS : S < 4294967296) (hp : SeenP w al n cl ps) (hv : ∀ k, k < n → (ps[k]?.getD (0, 0)).2 < 4294967296) :
    Calls Try.prog 3 #[.agg #[.int .i64 t, .int .i64 p, .int .i64 s], .slice a len cap, .agg #[.int .i64 u, .int .u32 (S : Int), .slice al n cl]] w fun e w' => e = .returned (.bool true) ∧ Below w.heap.size w w' := by
  have hl1 := hs.2.1
  have hl2 : cap ≤ maxLen := hs.2.2.1
  have hc1 := hp.2.1
  have hc2 := hp.2.2.1
  by_cases hfw : len ≤ 3000 ∧ n ≤ 200
  · obtain ⟨g, hg⟩ : ∃ g : Bool, g = true ↔ (okW t p s len ∧ 0 ≤ u ∧ u ≤ t) := by
      by_cases h : okW t p s len ∧ 0 ≤ u ∧ u ≤ t
      · exact ⟨true, by simp [h]⟩
      · exact ⟨false, by simp [h]⟩
    have LAY : ∃ r, (∀ w', Below w.heap.size w w' → Calls Try.prog 14 #[.agg #[.int .i64 t, .int .i64 p, .int .i64 s], .slice a len cap, .int .i64 u, .int .u32 (S : Int), .slice al n cl] w' (OptPost 46 .u64 w' r)) ∧ (∀ w', Below w.heap.size w w' → Calls Try.prog 15 #[.agg #[.int .i64 t, .int .i64 p, .int .i64 s], .slice a len cap, .int .i64 u, .int .u32 (S : Int), .slice al n cl] w' (OptPost 46 .u64 w' r)) := by
      by_cases h : okW t p s len ∧ (0 ≤ u ∧ u ≤ t) ∧ n ≤ 96
      · exact ⟨layO t p u S ps ws, fun w' hb => redoLay t p s u S w' a al len cap n cl ws ps (hs.below hb) h.1 h.2.1.1 h.2.1.2 hS (hp.below hb) h.2.2 hv, fun w' hb => refLayYes t p s u S w' a al len cap n cl ws ps (hs.below hb) h.1 h.2.1.1 h.2.1.2 hS (hp.below hb) h.2.2 hv⟩
      · exact ⟨none, fun w' _ => redoLayNo t p s u S w' a al len cap n cl hS ⟨hc1, hc2⟩ h, fun w' _ => refLayNo t p s u S w' a al len cap n cl ⟨hc1, hc2⟩ h⟩
    obtain ⟨r, L1, L2⟩ := LAY
    refine redoLogsFew w t p s a len cap ws u S al n cl ps hl1 hl2 hc1 hc2 hfw _ _ _ _ _ r (hid fun w' hb => (redoLog t p s u w' a len cap ws (hs.below hb) hf g hg).mono fun _ _ h => h.form) (hid fun w' hb => (refLog t p s u w' a len cap ws (hs.below hb) hf g hg).mono fun _ _ h => h.form) (hid L1) (hid L2) ?_
    split
    · have h1 : (logXs t p u ws).length ≤ ws.length := by rw [logXs, List.length_take, List.length_drop]; omega
      have := hs.1
      omega
    · simp
  · exact redoLogsBig w t p s a len cap ws u S al n cl ps hl1 hl2 hc1 hc2 hfw

theorem seenP_of {w : World} {x : Addr} {len cap : Nat} {V0 V1 : Nat → Value} (hl : len ≤ cap) (hm : cap ≤ maxLen)
    (hc : ∀ i, i < len → w.cell? (x.add (i * 2)) = some (V0 i) ∧ w.cell? (x.add (i * 2 + 1)) = some (V1 i) ∧ (∃ c : Int, V0 i = .int .i64 c) ∧ ∃ v : Nat, V1 i = .int .u32 (v : Int) ∧ v < 4294967296) :
    ∃ ps, SeenP w (some x) len cap ps ∧ ∀ k, k < len → (ps[k]?.getD (0, 0)).2 < 4294967296 := by
  obtain ⟨f, hf⟩ : ∃ f : Nat → Int × Nat, ∀ i, i < len → V0 i = .int .i64 (f i).1 ∧ V1 i = .int .u32 ((f i).2 : Int) ∧ (f i).2 < 4294967296 := by
    obtain ⟨q, hq⟩ := Go.Deep.choose_lt (fun i (hi : i < len) => show ∃ y : Int × Nat, V0 i = .int .i64 y.1 ∧ V1 i = .int .u32 (y.2 : Int) ∧ y.2 < 4294967296 by
      obtain ⟨_, _, ⟨c, h1⟩, v, h2, h3⟩ := hc i hi
      exact ⟨(c, v), h1, h2, h3⟩)
    exact ⟨q, hq⟩
  have hget : ∀ j, j < len → ((List.range len).map f)[j]?.getD (0, 0) = f j := fun j hj => by
    rw [List.getElem?_map, List.getElem?_range hj]; rfl
  refine ⟨(List.range len).map f, ⟨by simp, hl, hm, ?_⟩, fun k hk => by rw [hget k hk]; exact (hf k hk).2.2⟩
  by_cases h0 : len = 0
  · exact .inl h0
  · obtain ⟨b, off, spot⟩ := x
    have h1 := (hc 0 (by omega)).1
    have hspot : spot = none := by simpa [Addr.add] using World.cell?_spot h1
    subst hspot
    refine .inr ⟨b, off, rfl, fun j hj => ?_⟩
    have hadd : ∀ k, (⟨b, off, none⟩ : Addr).add k = ⟨b, off + k, none⟩ := fun k => by unfold Addr.add; split <;> simp_all
    obtain ⟨e0, e1, _⟩ := hc j hj
    rw [hadd] at e0 e1
    rw [hget j hj, e0, Nat.add_assoc, e1, (hf j hj).1, (hf j hj).2.1]
    exact ⟨rfl, rfl⟩
end Go.Proofs.Ytkkhoiahjmfibaa
