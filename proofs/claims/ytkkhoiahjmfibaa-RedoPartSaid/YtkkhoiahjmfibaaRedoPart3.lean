/- The statement on a change done in part, walked: it answers true. -/
import Derived.Test.YtkkhoiahjmfibaaRedoPart2
import Derived.Deep.Grids
namespace Go.Proofs.Ytkkhoiahjmfibaa
open Go.RowKit
set_option linter.unusedVariables false
set_option linter.unusedSimpArgs false

theorem seenB_of_row {w : World} {x : Addr} {len cap : Nat} {B : Nat → Bool} (hl : len ≤ cap) (hm : cap ≤ maxLen) (hc : ∀ i, i < cap → w.cell? (x.add i) = some (.bool (B i))) : ∃ xs, SeenB w (some x) len cap xs := by
  refine ⟨(List.range len).map B, by simp, hl, hm, ?_⟩
  by_cases h0 : len = 0
  · exact .inl h0
  · obtain ⟨b, off, spot⟩ := x
    have h1 := hc 0 (by omega)
    have hspot : spot = none := by simpa [Addr.add] using World.cell?_spot h1
    subst hspot
    exact .inr ⟨b, off, rfl, fun j hj => by
      have := hc j (by omega)
      by_cases hj0 : j = 0
      · subst hj0; simpa [Addr.add, hj] using this
      · simpa [Addr.add, hj, hj0] using this⟩

theorem lawRedoPart (w : World) (t p s : Int) (a : Option Addr) (len cap : Nat) (ws : List Nat) (c : Option Addr) (n k : Nat) (tu : List Bool) (t1 : -9223372036854775808 ≤ t) (t2 : t ≤ 9223372036854775807) (p1 : -9223372036854775808 ≤ p) (p2 : p ≤ 9223372036854775807) (s1 : -9223372036854775808 ≤ s) (s2 : s ≤ 9223372036854775807)
    (hs : Seen .u64 w a len cap ws) (hf : Fit 18446744073709551616 ws) (hc : SeenB w c n k tu) :
    Calls Try.prog 4 #[.agg #[.int .i64 t, .int .i64 p, .int .i64 s], .slice a len cap, .slice c n k] w fun e w' => e = .returned (.bool true) ∧ Below w.heap.size w w' := by
  by_cases hb : 3000 < len
  · exact redoPartBig w t p s a c len cap n k ws hs hb
  by_cases ho : okW t p s len
  · rcases settleTidy (t := t) (p := p) (ws := ws) with ⟨h1, h2⟩ | ⟨vs, xs, h1, h2, h3, h4⟩
    · exact redoPartNone w t p s a c len cap n k ws hs hf (by omega) (hid (.inr h1)) (hid (.inr h2))
    · obtain ⟨⟨h1', h2'⟩, ⟨h3', h4'⟩, h5', h6'⟩ := rightC_of ho.1
      have mb := makers_bd ⟨⟨h1', h2'⟩, h3', h4'⟩
      have hw := ho.2
      have cb : 58 ≤ cellsN t p := by unfold cellsN; omega
      refine redoPartSome w t p s a c len cap n k (cellsN t p).toNat ws vs xs tu hs hf (tidyO_fit h2 hf) (by omega) (hid ho) (hid h1) (hid h2) (hid ?_) (hid h3) (hid (h4.trans hs.1)) (by omega) (by omega) hc
        (hid fun j hj => (settledMix ho h2 hj).1.trans h1) (hid fun j hj => (settledMix ho h2 hj).2.trans h2) (hid fun j => mixAt_fit (tidyO_fit h2 hf) hf j)
      rw [cellsC, ho.1]
      show cellsN t p = _
      omega
  · exact redoPartNone w t p s a c len cap n k ws hs hf (by omega) (hid (.inl ho)) (hid (.inl ho))
end Go.Proofs.Ytkkhoiahjmfibaa
