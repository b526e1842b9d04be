/- Plain facts on what calls come to at a fresh heap. -/
import Derived.Test.YtkkhoiahjmfibaaCall5
import Derived.Test.YtkkhoiahjmfibaaRedoPlain
namespace Go.Proofs.Ytkkhoiahjmfibaa
open Go.RowKit
set_option linter.unusedVariables false
set_option linter.unusedSimpArgs false

def tailT3 : List Nat := (tailT.set (mkI 1 8 0 - 8) 5).set (mkI 1 8 0 + 1 - 8) 8
set_option maxRecDepth 100000 in
theorem lastFresh {hs : List Nat} (h : hs.length = 8) : lastN 1 8 0 (hs ++ tailT) = 0 ∧ lastB 1 8 0 (hs ++ tailT) = 1 := by
  obtain ⟨a, b, c, d, e, f, g, i, rfl⟩ := list8 h
  exact ⟨by kernel_rfl, by kernel_rfl⟩
set_option maxRecDepth 100000 in
theorem layCFresh {hs : List Nat} (h : hs.length = 8) : layC 1 8 0 (hs ++ tailT) 5 8 0 0 = some (hs ++ tailT3) := by
  have hl := lastFresh h
  have hb : layB 1 8 0 (hs ++ tailT) 5 8 0 0 = true := by rw [layB, hl.1]; decide
  rw [layC, if_pos hb, layW, hl.2, show (IntKind.u64.wrap 8) = 8 from rfl, show (IntKind.u64.wrap 0) = 0 from rfl]
  clear hb hl
  obtain ⟨a, b, c, d, e, f, g, i, rfl⟩ := list8 h
  exact congrArg some (by kernel_rfl)
set_option maxRecDepth 100000 in
theorem laidWords28 {hs : List Nat} (h : hs.length = 8) : cwN 1 8 0 (hs ++ tailT3) 0 = 5 ∧ cwN 1 8 0 (hs ++ tailT3) 1 = 8 ∧ cwN 1 8 0 (hs ++ tailT3) 2 = 0 ∧ cwN 1 8 0 (hs ++ tailT3) 3 = 0 ∧ cwN 1 8 0 (hs ++ tailT3) 8 = 0 := by
  obtain ⟨a, b, c, d, e, f, g, i, rfl⟩ := list8 h
  exact ⟨by kernel_rfl, by kernel_rfl, by kernel_rfl, by kernel_rfl, by kernel_rfl⟩
theorem lastLaid {hs : List Nat} (h : hs.length = 8) : lastN 1 8 0 (hs ++ tailT3) = 5 ∧ lastB 1 8 0 (hs ++ tailT3) = 0 := by
  obtain ⟨c0, _, _, _, c8⟩ := laidWords28 h
  rw [lastN, lastB, n0N, n1N, c0, c8]
  decide
theorem saidLaid {hs : List Nat} (h : hs.length = 8) : saidV 1 8 0 (hs ++ tailT3) 5 = .tuple #[.agg #[.int .i64 8, .int .i64 0, .int .i64 0], .bool true] := by
  obtain ⟨c0, c1, c2, c3, c8⟩ := laidWords28 h
  rw [saidV, n0N, n1N, c0, c1, c2, c3, c8, if_neg (by decide), if_neg (by decide), if_pos (by decide), ofWords, show wrap64 ((8 : Nat) : Int) = 8 by (unfold wrap64; omega), show wrap64 ((0 : Nat) : Int) = 0 by (unfold wrap64; omega), if_pos (by decide)]
set_option maxRecDepth 100000 in
theorem settleCalled {hs : List Nat} (h : hs.length = 8) : settleO 1 8 (hs ++ tailT3) = some freshV := by
  obtain ⟨a, b, c, d, e, f, g, i, rfl⟩ := list8 h
  kernel_rfl
theorem freshDone : dvN 0 freshV 0 = 0 := by kernel_rfl
theorem freshV_len : freshV.length = 82 := by kernel_rfl
end Go.Proofs.Ytkkhoiahjmfibaa
