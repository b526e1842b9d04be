/- The walk of the statement on heads' decodings: it answers true. -/
import Derived.Test.YtpeeaapheohehaaHeadDec3
namespace Go.Proofs.Ytpeeaapheohehaa
open Go.RowKit
set_option linter.unusedVariables false
set_option linter.unusedSimpArgs false

theorem headNum (n : Int) (w : World) (h : n = 0 ∨ n = 9) : Calls Try.prog 61 #[.int .i64 n] w fun e w' => e = .returned (.int .i64 n) ∧ w = w' := by
  have h1 : 0 ≤ n := by omega
  have h2 : n ≤ 9 := by omega
  clear h
  go_enter Try.func61, Try.ntmps61
  go_wp2
  go_ret
  exact ⟨rfl, rfl⟩
theorem decForm (ws : List Nat) : ∃ t p s n, decV ws = .tuple #[.agg #[.int .i64 t, .int .i64 p, .int .i64 s], .int .i64 n] ∧ (n = 0 ∨ n = 9) := by
  unfold decV
  split
  · exact ⟨_, _, _, _, rfl, .inl rfl⟩
  · exact ⟨_, _, _, _, rfl, .inr rfl⟩

set_option maxHeartbeats 800000 in
theorem lawHeadDecodes (w : World) (a : Option Addr) (len cap : Nat) (ws : List Nat) (hs : Seen .u64 w a len cap ws) (hf : Fit 18446744073709551616 ws) :
    Calls Try.prog 9 #[.slice a len cap] w fun e w' => e = .returned (.bool true) ∧ Below w.heap.size w w' := by
  obtain ⟨t, p, s, n, hd, hn⟩ := decForm ws
  have D := hid hd; clear hd
  have N := hid hn; clear hn
  go_enter Try.func9, Try.ntmps9
  go_wp2_with fail
  refine (headDec _ _ _ _ ws hs hf).mono ?_
  rw [D.out]
  rintro e w1 ⟨rfl, hb1⟩
  obtain ⟨hc1, hf1, hz1⟩ := after hb1
  go_wp2_with fail
  refine (refDec _ _ _ _ ws (hs.below ((hb1).alloc (by omega) _)) hf).mono ?_
  rw [D.out]
  rintro e w2 ⟨rfl, hb2⟩
  obtain ⟨hc2, hf2, hz2⟩ := after hb2
  have z2 : w1.heap.size < w2.heap.size := by simp at hz2; omega
  have z2' : w.heap.size ≤ w2.heap.size := by omega
  go_wp2_with fail
  refine (headNum n _ N.out).mono ?_
  rintro e w3 ⟨rfl, rfl⟩
  go_wp2_with fail
  refine (liveHead _).mono ?_
  rintro e w4 ⟨rfl, hb4⟩
  go_wp2
  go_ret
  exact ⟨rfl, bel⟩
end Go.Proofs.Ytpeeaapheohehaa
