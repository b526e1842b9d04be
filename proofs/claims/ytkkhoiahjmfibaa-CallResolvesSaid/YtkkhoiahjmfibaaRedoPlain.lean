/- Plain facts on what package redo's Settle and Lay come to at a fresh heap. -/
import Derived.Test.YtkkhoiahjmfibaaLay
namespace Go.Proofs.Ytkkhoiahjmfibaa
open Go.RowKit
set_option linter.unusedVariables false
set_option linter.unusedSimpArgs false

def tailT : List Nat := (4294967296 :: List.replicate 7 0) ++ freshV ++ List.replicate 246 0
def tailT2 : List Nat := (tailT.set (noteI 1 8 0 - 8) 6442450945).set (logI 1 8 0 - 8) 3
theorem list8 {hs : List Nat} (h : hs.length = 8) : ∃ a b c d e f g i, hs = [a, b, c, d, e, f, g, i] := by
  match hs, h with
  | [a, b, c, d, e, f, g, i], _ => exact ⟨a, b, c, d, e, f, g, i, rfl⟩
set_option maxRecDepth 100000 in
theorem freshOf_eq {hs : List Nat} (h : hs.length = 8) : freshOf hs = hs ++ tailT := by
  obtain ⟨a, b, c, d, e, f, g, i, rfl⟩ := list8 h
  kernel_rfl
set_option maxRecDepth 100000 in
theorem settleFresh {hs : List Nat} (h : hs.length = 8) : settleO 1 8 (hs ++ tailT) = some freshV := by
  obtain ⟨a, b, c, d, e, f, g, i, rfl⟩ := list8 h
  kernel_rfl
set_option maxRecDepth 100000 in
theorem layFresh {hs : List Nat} (h : hs.length = 8) : layO 1 8 0 1 [(0, 3)] (hs ++ tailT) = some (hs ++ tailT2) := by
  obtain ⟨a, b, c, d, e, f, g, i, rfl⟩ := list8 h
  kernel_rfl
set_option maxRecDepth 100000 in
theorem settleLaid {hs : List Nat} (h : hs.length = 8) : settleO 1 8 (hs ++ tailT2) = some (freshV.set 0 3) := by
  obtain ⟨a, b, c, d, e, f, g, i, rfl⟩ := list8 h
  kernel_rfl
end Go.Proofs.Ytkkhoiahjmfibaa
