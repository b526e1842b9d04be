/- How a row of entries that came as an argument is opened. -/
import Derived.Test.YtpeeaapheohehaaEnRows
import Derived.Test.YtpeeaapheohehaaFrame
import Derived.Deep.Slices
namespace Go.Proofs.Ytpeeaapheohehaa
open Go.ChangeShapes Go.WideShapes Go.ChangeAt Go.RowKit
set_option linter.unusedVariables false
set_option linter.unusedSimpArgs false

instance : Inhabited En := ⟨zeroE⟩
/-- The ranges of all of an entry's numbers. -/
def rngAll (e : En) : Prop := rngE e ∧ (-9223372036854775808 ≤ e.n ∧ e.n ≤ 9223372036854775807)
theorem list8of {α : Type} {l : List α} (h : l.length = 8) : ∃ a b c d e f g i, l = [a, b, c, d, e, f, g, i] := by
  match l, h with
  | [a, b, c, d, e, f, g, i], _ => exact ⟨a, b, c, d, e, f, g, i, rfl⟩

set_option maxRecDepth 100000 in
set_option maxHeartbeats 1600000 in
theorem openEntry {H : Type} {enc : TypeId × Value → H} {w : World} {base : Nat} {spare : Nat → Bool} {held : Bool} {fuel : Nat} {cs : List Value} {x : DataW H × List MemPlace} (hl : cs.length = 8)
    (h : DataW.trod enc Try.prog w base spare held fuel 32 cs = some x) : ∃ e : En, cs = enL e ∧ rngAll e := by
  obtain ⟨v0, v1, v2, v3, v4, v5, v6, v7, rfl⟩ := list8of hl
  obtain ⟨m0, hm0⟩ := fieldRead Try.underlying32 h
  obtain ⟨y0, hy0⟩ := hm0 0 _ rfl
  obtain ⟨y1, hy1⟩ := hm0 1 _ rfl
  obtain ⟨y2, hy2⟩ := hm0 2 _ rfl
  obtain ⟨y3, hy3⟩ := hm0 3 _ rfl
  obtain ⟨y4, hy4⟩ := hm0 4 _ rfl
  obtain ⟨y5, hy5⟩ := hm0 5 _ rfl
  simp only [List.getElem_toArray, List.getElem_cons_zero, List.getElem_cons_succ, show Try.prog.cellsOf 3 = 1 by kernel_rfl] at hy0 hy1 hy2 hy4 hy5
  simp only [List.getElem_toArray, List.getElem_cons_zero, List.getElem_cons_succ, show Try.prog.cellsOf 30 = 3 by kernel_rfl] at hy3
  obtain ⟨n0, e0, _, w0⟩ := DataW.trod_int Try.underlying3 hy0
  obtain ⟨n1, e1, _, w1⟩ := DataW.trod_int Try.underlying3 hy1
  obtain ⟨n2, e2, _, w2⟩ := DataW.trod_int Try.underlying3 hy2
  obtain ⟨n6, e6, _, w6⟩ := DataW.trod_int Try.underlying3 hy4
  obtain ⟨n7, e7, _, w7⟩ := DataW.trod_int Try.underlying3 hy5
  obtain ⟨m3, hm3⟩ := fieldRead Try.underlying30 hy3
  obtain ⟨z0, hz0⟩ := hm3 0 _ rfl
  obtain ⟨z1, hz1⟩ := hm3 1 _ rfl
  obtain ⟨z2, hz2⟩ := hm3 2 _ rfl
  simp only [List.getElem_toArray, List.getElem_cons_zero, List.getElem_cons_succ, show Try.prog.cellsOf 3 = 1 by kernel_rfl] at hz0
  simp only [List.getElem_toArray, List.getElem_cons_zero, List.getElem_cons_succ, show Try.prog.cellsOf 2 = 1 by kernel_rfl] at hz1 hz2
  obtain ⟨n3, e3, _, w3⟩ := DataW.trod_int Try.underlying3 hz0
  obtain ⟨n4, e4, _, w4⟩ := DataW.trod_int Try.underlying2 hz1
  obtain ⟨n5, e5, _, w5⟩ := DataW.trod_int Try.underlying2 hz2
  obtain rfl : v0 = .int .i64 n0 := by simpa using e0
  obtain rfl : v1 = .int .i64 n1 := by simpa using e1
  obtain rfl : v2 = .int .i64 n2 := by simpa using e2
  obtain rfl : v3 = .int .i64 n3 := by simpa using e3
  obtain rfl : v4 = .int .i64 n4 := by simpa using e4
  obtain rfl : v5 = .int .i64 n5 := by simpa using e5
  obtain rfl : v6 = .int .i64 n6 := by simpa using e6
  obtain rfl : v7 = .int .i64 n7 := by simpa using e7
  exact ⟨⟨n0, n1, n2, n3, n4, n5, n6, n7⟩, rfl, ⟨int_i64 w4, int_i64 w5⟩, int_i64 w6⟩

theorem openEntries {H : Type} {enc : TypeId × Value → H} {w : World} {base : Nat} {spare : Nat → Bool} {held : Bool} {fuel : Nat} {a : Option Addr} {len cap : Nat} {x : DataW H × List MemPlace}
    (h : DataW.trod enc Try.prog w base spare held fuel 37 [.slice a len cap] = some x) : ∃ es, SeenE w a len cap es ∧ ∀ e ∈ es, rngAll e := by
  rcases Go.Deep.open_slice Try.underlying37 h with ⟨hcs, _⟩ | ⟨a1, len1, cap1, m, n, D, Pl, hcs, hb, hl, hm, hmm, _, hx⟩
  · simp only [List.cons.injEq, Value.slice.injEq, and_true] at hcs
    obtain ⟨rfl, rfl, rfl⟩ := hcs
    exact ⟨[], ⟨rfl, Nat.le_refl _, by decide, .inl rfl⟩, fun e he => by cases he⟩
  · simp only [List.cons.injEq, Value.slice.injEq, and_true] at hcs
    obtain ⟨rfl, rfl, rfl⟩ := hcs
    have hlm : len ≤ m := by rw [hmm]; split <;> omega
    have hc8 : Try.prog.cellsOf 32 = 8 := by kernel_rfl
    have each : ∀ i, i < len → ∃ e : En, (∀ j, j < 8 → w.cell? (a1.add (i * 8 + j)) = (enL e)[j]?) ∧ rngAll e := by
      intro i hi
      obtain ⟨cs', h1, h2⟩ := hx i (by omega)
      rw [hc8] at h1
      obtain ⟨_, hlen, hcell⟩ := World.cells?_some h1
      obtain ⟨e, rfl, he⟩ := openEntry hlen h2
      refine ⟨e, fun j hj => ?_, he⟩
      have := hcell j (by omega)
      rw [Go.Deep.add_add] at this
      rw [this, List.getElem?_eq_getElem (show j < (enL e).length from hj)]
    obtain ⟨f, hf⟩ := Go.Deep.choose_lt each
    refine ⟨(List.range len).map f, ⟨by simp, hl, by simp only [maxLen] at hm; omega, ?_⟩, fun e he => ?_⟩
    · by_cases h0 : len = 0
      · exact .inl h0
      · obtain ⟨b, off, spot⟩ := a1
        have hs0 := (hf 0 (by omega)).1 0 (by omega)
        have hspot : spot = none := by
          have h7 : w.cell? ((⟨b, off, spot⟩ : Addr).add (0 * 8 + 0)) = some (.int .i64 (f 0).k) := hs0
          simpa [Addr.add] using World.cell?_spot h7
        subst hspot
        refine .inr ⟨b, off, rfl, fun i hi j hj => ?_⟩
        have h8 := (hf i hi).1 j hj
        have hadd : (⟨b, off, none⟩ : Addr).add (i * 8 + j) = ⟨b, off + (i * 8 + j), none⟩ := by unfold Addr.add; split <;> simp_all
        rw [hadd, ← Nat.add_assoc] at h8
        rw [h8, List.getElem?_map, List.getElem?_range hi]
        rfl
    · obtain ⟨i, hi, rfl⟩ := List.mem_map.1 he
      exact (hf i (List.mem_range.1 hi)).2
end Go.Proofs.Ytpeeaapheohehaa
