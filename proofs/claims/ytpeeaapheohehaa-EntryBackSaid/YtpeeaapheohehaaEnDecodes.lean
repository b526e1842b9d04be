/- The walk of the statement on the bytes of entries, and the entries of bytes: it answers true. -/
import Derived.Test.YtpeeaapheohehaaEnLive
namespace Go.Proofs.Ytpeeaapheohehaa
open Go.RowKit
set_option linter.unusedVariables false
set_option linter.unusedSimpArgs false

set_option maxRecDepth 100000 in
set_option maxHeartbeats 3200000 in
theorem lawEntryDecodesBig (w : World) (k t num ok oa ob n m : Int) (a : Option Addr) (len cap : Nat) (hl1 : len ≤ cap) (hl2 : cap ≤ 9223372036854775807) (hf : 20000 < len) :
    Calls Try.prog 4 #[.agg #[.int .i64 k, .int .i64 t, .int .i64 num, .int .i64 ok, .int .i64 oa, .int .i64 ob, .int .i64 n, .int .i64 m], .slice a len cap] w fun e w' => e = .returned (.bool true) ∧ Below w.heap.size w w' := by
  go_enter Try.func4, Try.ntmps4
  go_wp2_with fail
  refine (live32 _).mono ?_
  rintro e w2 ⟨rfl, hb2⟩
  go_wp2_with fail
  go_ret
  exact ⟨rfl, bel⟩

/-- Two answers of encodings, alike. -/
def Twin (w w' : World) (a1 : Option Addr) (l1 c1 : Nat) (b : Bool) : Prop := ∃ xs, Fit 256 xs ∧ Own 5 .u8 w' w.heap.size (.slice a1 l1 c1) xs
theorem EncPost.twin {w w' : World} {e : En} {en : Ending} (h : EncPost w e en w') : ∃ a1 l1 c1, en = .returned (.tuple #[.slice a1 l1 c1, .bool (encB e)]) ∧ Own 5 .u8 w' w.heap.size (.slice a1 l1 c1) (if encB e = true then bytesE e else []) ∧ Below w.heap.size w w' := by
  rcases h with ⟨hb, v, he, ho, hB⟩ | ⟨hb, he, hB⟩
  · rw [hb, if_pos rfl]
    obtain ⟨a1, c1, hv⟩ := ho.anyForm
    subst hv
    exact ⟨a1, _, c1, he, ho, hB⟩
  · rw [hb, if_neg (by decide)]
    exact ⟨none, 0, 0, he, Own.nil _ _ _ _, hB⟩
theorem enc_fit (e : En) : Fit 256 (if encB e = true then bytesE e else []) := by
  split
  · exact bytesE_fit e (by assumption)
  · intro x hx; cases hx

set_option maxRecDepth 100000 in
set_option maxHeartbeats 6400000 in
theorem lawEntryDecodesFew (w : World) (k t num ok oa ob n m : Int) (a : Option Addr) (len cap : Nat) (xs : List Nat) (hs : Seen .u8 w a len cap xs) (hx : Fit 256 xs) (hf : len ≤ 20000) :
    Calls Try.prog 4 #[.agg #[.int .i64 k, .int .i64 t, .int .i64 num, .int .i64 ok, .int .i64 oa, .int .i64 ob, .int .i64 n, .int .i64 m], .slice a len cap] w fun e w' => e = .returned (.bool true) ∧ Below w.heap.size w w' := by
  have HE := hidAll fun w => hid (enEncode ⟨k, t, num, ok, oa, ob, n, m⟩ w)
  have HR := hidAll fun w => hid (ref32Encode ⟨k, t, num, ok, oa, ob, n, m⟩ w)
  have HT := hidAll fun w => hidAll fun w' => hidAll fun en => fun (h : EncPost w ⟨k, t, num, ok, oa, ob, n, m⟩ en w') => h.twin
  have HFT := hid (enc_fit ⟨k, t, num, ok, oa, ob, n, m⟩)
  generalize (if encB ⟨k, t, num, ok, oa, ob, n, m⟩ = true then bytesE ⟨k, t, num, ok, oa, ob, n, m⟩ else []) = ys at HT HFT
  generalize encB ⟨k, t, num, ok, oa, ob, n, m⟩ = eb at HT
  have HS := hid hs
  have HX := hid hx
  clear hs hx
  go_enter Try.func4, Try.ntmps4
  go_wp2_with fail
  refine (HE.out _).out.mono ?_
  intro en w1 hp
  obtain ⟨a1, l1, c1, rfl, ho1, hb1⟩ := ((HT.out _).out _).out _ hp
  have hk1 := blkT_call hb1 (blkT_new (W := w) (T := 32) rfl)
  have z1 : w.heap.size < w1.heap.size := blkT_lt hk1
  have hB1 : Below w.heap.size w w1 := bel
  have c0 : w1.cell? ⟨w.heap.size, 0, none⟩ = some (.int .i64 k) := blkT_cell hk1 rfl
  have c1' : w1.cell? ⟨w.heap.size, 1, none⟩ = some (.int .i64 t) := blkT_cell hk1 rfl
  have c2 : w1.cell? ⟨w.heap.size, 2, none⟩ = some (.int .i64 num) := blkT_cell hk1 rfl
  have c3 : w1.cell? ⟨w.heap.size, 3, none⟩ = some (.int .i64 ok) := blkT_cell hk1 rfl
  have c4 : w1.cell? ⟨w.heap.size, 4, none⟩ = some (.int .i64 oa) := blkT_cell hk1 rfl
  have c5 : w1.cell? ⟨w.heap.size, 5, none⟩ = some (.int .i64 ob) := blkT_cell hk1 rfl
  have c6 : w1.cell? ⟨w.heap.size, 6, none⟩ = some (.int .i64 n) := blkT_cell hk1 rfl
  have c7 : w1.cell? ⟨w.heap.size, 7, none⟩ = some (.int .i64 m) := blkT_cell hk1 rfl
  clear hp hb1
  go_wp2_with fail
  refine (HR.out _).out.mono ?_
  intro en w2 hp
  obtain ⟨a2, l2, cc2, rfl, ho2, hb2⟩ := ((HT.out _).out _).out _ hp
  have ho1' := ho1.kept hb2 (Nat.le_refl _)
  have hB2 : Below w.heap.size w w2 := hB1.trans (hb2.mono (by omega))
  have S1 := strSeen ho1'.seen HFT.out
  have S2 := strSeen ho2.seen HFT.out
  clear hp hb2 HE HR HT ho1 ho1' ho2 c0 c1' c2 c3 c4 c5 c6 c7 hk1
  generalize strOf ys = sy at S1 S2
  go_wp2_with fail
  refine (enDecode _ a len cap xs (HS.out.below hB2) HX.out).mono ?_
  rintro e w3 ⟨v3, rfl, ho3, hb3⟩
  have hB3 : Below w.heap.size w w3 := hB2.trans (hb3.mono hB2.size)
  obtain ⟨a3, c3, hv⟩ := ho3.form
  subst hv
  clear S1 S2
  go_wp2_with fail
  refine (ref32Decode _ a len cap xs (HS.out.below hB3) HX.out).mono ?_
  rintro e w4 ⟨v4, rfl, ho4, hb4⟩
  have hB4 : Below w.heap.size w w4 := hB3.trans (hb4.mono hB3.size)
  obtain ⟨a4, c4, hv⟩ := ho4.form
  subst hv
  have ho3' := ho3.kept hb4 (Nat.le_refl _)
  clear hb3 hb4 ho3
  go_wp2_with fail
  refine (refSame32 _ a3 a4 _ c3 _ c4 (decL 400 xs) (decL 400 xs) ho3'.seen ho4.seen).mono ?_
  rw [decide_eq_true rfl]
  rintro e w5 ⟨rfl, n5, rfl⟩
  have hB5 : Below w.heap.size w (w4.drewN n5) := belowDrewN hB4 n5
  clear ho3' ho4
  generalize w4.drewN n5 = w5 at hB5 ⊢
  go_wp2_with fail
  refine (live32 _).mono ?_
  rintro e w6 ⟨rfl, hb6⟩
  go_wp2_with fail
  go_ret
  exact ⟨rfl, hB5.trans (hb6.mono hB5.size)⟩

theorem lawEntryDecodes (w : World) (k t num ok oa ob n m : Int) (a : Option Addr) (len cap : Nat) (xs : List Nat)
    (_ : -9223372036854775808 ≤ k) (_ : k ≤ 9223372036854775807) (_ : -9223372036854775808 ≤ t) (_ : t ≤ 9223372036854775807) (_ : -9223372036854775808 ≤ num) (_ : num ≤ 9223372036854775807) (_ : -9223372036854775808 ≤ ok) (_ : ok ≤ 9223372036854775807) (_ : -9223372036854775808 ≤ oa) (_ : oa ≤ 9223372036854775807) (_ : -9223372036854775808 ≤ ob) (_ : ob ≤ 9223372036854775807) (_ : -9223372036854775808 ≤ n) (_ : n ≤ 9223372036854775807) (_ : -9223372036854775808 ≤ m) (_ : m ≤ 9223372036854775807)
    (hs : Seen .u8 w a len cap xs) (hx : Fit 256 xs) :
    Calls Try.prog 4 #[.agg #[.int .i64 k, .int .i64 t, .int .i64 num, .int .i64 ok, .int .i64 oa, .int .i64 ob, .int .i64 n, .int .i64 m], .slice a len cap] w fun e w' => e = .returned (.bool true) ∧ Below w.heap.size w w' := by
  by_cases hf : 20000 < len
  · exact lawEntryDecodesBig w k t num ok oa ob n m a len cap hs.2.1 hs.2.2.1 hf
  · exact lawEntryDecodesFew w k t num ok oa ob n m a len cap xs hs hx (by omega)
end Go.Proofs.Ytpeeaapheohehaa
