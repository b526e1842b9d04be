/-
  No cell of these rows narrows 'for every input' (looked for: loops, veiled, ifaces, maps, wideKeys, modest, calm, conditions, laid).
  DERIVED. THE GIVEN ROWS OF THIS SEAT. 12 by the template 'for every input the law returns true; each argument reads behind the call as it read before'; 0 by the template 'total and deterministic' (their statements: YtdobepeeenjeeaaTotals.lean).
  GIVEN WITH THE SEED: the statements are not yours to turn. If you find one false, say at which input.
  Laid BY PROGRAM, IN A SANDBOX (cutbox-rows.mjs): the forced cells as the released guide's own fill.sh prints them over the translation 89d42c7699607211… (all of the seat's roots in one cut). By AI agents, Wed Nov 11 2026. No macro, syntax, notation, axiom, sorry.
-/
import Derived.Test.YtdobepeeenjeeaaChecked
import GoSem.Claim
import GoSem.ClaimJoined
import GoSem.ClaimMapViews
import Derived.JoinedTies
import Derived.KernelRfl
namespace Go.Proofs.Ytdobepeeenjeeaa
/- THE CELL 'sum', in the pinned program and in every row, IS THE sha256 OF THE DUMP (.gsa) THAT YtdobepeeenjeeaaProg.lean LOADS. Nothing in Lean hashes anything: it is a label: what it is worth is what the hold of that sum in a sandbox is worth. -/
noncomputable def Try.pinned : Pinned := { name := "ytdobepeeenjeeaa", sum := "89d42c769960721190cf2ee4d44813a2380c4726e137e19e7ab1cea9522f5cdb", checked := Try.checked }
namespace Rows
def none {H : Type} : Left H := { results := [], args := [] }

/-- 'nacrelaw02.SumOf': WHATEVER THE INPUT: true; the input reads as it did. -/
def sumOfSpec : ChangeSpec := { name := "sumOf", fn := fun _ => fun
  | [d1, d2] => { results := [.lit (.bool true)], args := [d1, d2] }
  | _ => none }
def sumOfRow : OpenClaim := { program := "ytdobepeeenjeeaa", sum := "89d42c769960721190cf2ee4d44813a2380c4726e137e19e7ab1cea9522f5cdb", func := "nacre/nacrelaw02.SumOf", spec := "sumOf", apart := false }
def SumOfSaid : Prop := sumOfRow.holds Try.pinned (OpenSpec.ofChange sumOfSpec)

/-- ITS FALSE NEIGHBOUR: 'it returns false'. Refute it at one input. -/
def sumOfWrong : ChangeSpec := { name := "sumOf", fn := fun _ => fun
  | [d1, d2] => { results := [.lit (.bool false)], args := [d1, d2] }
  | _ => none }
def SumOfWrongFalsely : Prop := sumOfRow.holds Try.pinned (OpenSpec.ofChange sumOfWrong)

/-- 'nacrelaw02.SumPieces': WHATEVER THE INPUT: true; the input reads as it did. -/
def sumPiecesSpec : ChangeSpec := { name := "sumPieces", fn := fun _ => fun
  | [d] => { results := [.lit (.bool true)], args := [d] }
  | _ => none }
def sumPiecesRow : OpenClaim := { program := "ytdobepeeenjeeaa", sum := "89d42c769960721190cf2ee4d44813a2380c4726e137e19e7ab1cea9522f5cdb", func := "nacre/nacrelaw02.SumPieces", spec := "sumPieces", apart := false }
def SumPiecesSaid : Prop := sumPiecesRow.holds Try.pinned (OpenSpec.ofChange sumPiecesSpec)

/-- ITS FALSE NEIGHBOUR: 'it returns false'. Refute it at one input. -/
def sumPiecesWrong : ChangeSpec := { name := "sumPieces", fn := fun _ => fun
  | [d] => { results := [.lit (.bool false)], args := [d] }
  | _ => none }
def SumPiecesWrongFalsely : Prop := sumPiecesRow.holds Try.pinned (OpenSpec.ofChange sumPiecesWrong)

/-- 'nacrelaw02.SumTells': WHATEVER THE INPUT: true; the input reads as it did. -/
def sumTellsSpec : ChangeSpec := { name := "sumTells", fn := fun _ => fun
  | [d1, d2, d3] => { results := [.lit (.bool true)], args := [d1, d2, d3] }
  | _ => none }
def sumTellsRow : OpenClaim := { program := "ytdobepeeenjeeaa", sum := "89d42c769960721190cf2ee4d44813a2380c4726e137e19e7ab1cea9522f5cdb", func := "nacre/nacrelaw02.SumTells", spec := "sumTells", apart := false }
def SumTellsSaid : Prop := sumTellsRow.holds Try.pinned (OpenSpec.ofChange sumTellsSpec)

/-- ITS FALSE NEIGHBOUR: 'it returns false'. Refute it at one input. -/
def sumTellsWrong : ChangeSpec := { name := "sumTells", fn := fun _ => fun
  | [d1, d2, d3] => { results := [.lit (.bool false)], args := [d1, d2, d3] }
  | _ => none }
def SumTellsWrongFalsely : Prop := sumTellsRow.holds Try.pinned (OpenSpec.ofChange sumTellsWrong)

/-- 'nacrelaw22.OpWords': WHATEVER THE INPUT: true; the input reads as it did. -/
def opWordsSpec : ChangeSpec := { name := "opWords", fn := fun _ => fun
  | [d1, d2] => { results := [.lit (.bool true)], args := [d1, d2] }
  | _ => none }
def opWordsRow : OpenClaim := { program := "ytdobepeeenjeeaa", sum := "89d42c769960721190cf2ee4d44813a2380c4726e137e19e7ab1cea9522f5cdb", func := "nacre/nacrelaw22.OpWords", spec := "opWords", apart := false }
def OpWordsSaid : Prop := opWordsRow.holds Try.pinned (OpenSpec.ofChange opWordsSpec)

/-- ITS FALSE NEIGHBOUR: 'it returns false'. Refute it at one input. -/
def opWordsWrong : ChangeSpec := { name := "opWords", fn := fun _ => fun
  | [d1, d2] => { results := [.lit (.bool false)], args := [d1, d2] }
  | _ => none }
def OpWordsWrongFalsely : Prop := opWordsRow.holds Try.pinned (OpenSpec.ofChange opWordsWrong)

/-- 'nacrelaw22.OpVals': WHATEVER THE INPUT: true; the input reads as it did. -/
def opValsSpec : ChangeSpec := { name := "opVals", fn := fun _ => fun
  | [d1, d2, d3] => { results := [.lit (.bool true)], args := [d1, d2, d3] }
  | _ => none }
def opValsRow : OpenClaim := { program := "ytdobepeeenjeeaa", sum := "89d42c769960721190cf2ee4d44813a2380c4726e137e19e7ab1cea9522f5cdb", func := "nacre/nacrelaw22.OpVals", spec := "opVals", apart := false }
def OpValsSaid : Prop := opValsRow.holds Try.pinned (OpenSpec.ofChange opValsSpec)

/-- ITS FALSE NEIGHBOUR: 'it returns false'. Refute it at one input. -/
def opValsWrong : ChangeSpec := { name := "opVals", fn := fun _ => fun
  | [d1, d2, d3] => { results := [.lit (.bool false)], args := [d1, d2, d3] }
  | _ => none }
def OpValsWrongFalsely : Prop := opValsRow.holds Try.pinned (OpenSpec.ofChange opValsWrong)

/-- 'nacrelaw22.OpBack': WHATEVER THE INPUT: true; the input reads as it did. -/
def opBackSpec : ChangeSpec := { name := "opBack", fn := fun _ => fun
  | [d1, d2, d3] => { results := [.lit (.bool true)], args := [d1, d2, d3] }
  | _ => none }
def opBackRow : OpenClaim := { program := "ytdobepeeenjeeaa", sum := "89d42c769960721190cf2ee4d44813a2380c4726e137e19e7ab1cea9522f5cdb", func := "nacre/nacrelaw22.OpBack", spec := "opBack", apart := false }
def OpBackSaid : Prop := opBackRow.holds Try.pinned (OpenSpec.ofChange opBackSpec)

/-- ITS FALSE NEIGHBOUR: 'it returns false'. Refute it at one input. -/
def opBackWrong : ChangeSpec := { name := "opBack", fn := fun _ => fun
  | [d1, d2, d3] => { results := [.lit (.bool false)], args := [d1, d2, d3] }
  | _ => none }
def OpBackWrongFalsely : Prop := opBackRow.holds Try.pinned (OpenSpec.ofChange opBackWrong)

/-- 'nacrelaw04.ConfChecks': WHATEVER THE INPUT: true; the input reads as it did. -/
def confChecksSpec : ChangeSpec := { name := "confChecks", fn := fun _ => fun
  | [d] => { results := [.lit (.bool true)], args := [d] }
  | _ => none }
def confChecksRow : OpenClaim := { program := "ytdobepeeenjeeaa", sum := "89d42c769960721190cf2ee4d44813a2380c4726e137e19e7ab1cea9522f5cdb", func := "nacre/nacrelaw04.ConfChecks", spec := "confChecks", unfollowed := true, recurses := true, apart := false }
def ConfChecksSaid : Prop := confChecksRow.holds Try.pinned (OpenSpec.ofChange confChecksSpec)

/-- ITS FALSE NEIGHBOUR: 'it returns false'. Refute it at one input. -/
def confChecksWrong : ChangeSpec := { name := "confChecks", fn := fun _ => fun
  | [d] => { results := [.lit (.bool false)], args := [d] }
  | _ => none }
def ConfChecksWrongFalsely : Prop := confChecksRow.holds Try.pinned (OpenSpec.ofChange confChecksWrong)

/-- 'nacrelaw03.MarkNotes': WHATEVER THE INPUT: true; the input reads as it did. -/
def markNotesSpec : ChangeSpec := { name := "markNotes", fn := fun _ => fun
  | [d1, d2, d3] => { results := [.lit (.bool true)], args := [d1, d2, d3] }
  | _ => none }
def markNotesRow : OpenClaim := { program := "ytdobepeeenjeeaa", sum := "89d42c769960721190cf2ee4d44813a2380c4726e137e19e7ab1cea9522f5cdb", func := "nacre/nacrelaw03.MarkNotes", spec := "markNotes", apart := false }
def MarkNotesSaid : Prop := markNotesRow.holds Try.pinned (OpenSpec.ofChange markNotesSpec)

/-- ITS FALSE NEIGHBOUR: 'it returns false'. Refute it at one input. -/
def markNotesWrong : ChangeSpec := { name := "markNotes", fn := fun _ => fun
  | [d1, d2, d3] => { results := [.lit (.bool false)], args := [d1, d2, d3] }
  | _ => none }
def MarkNotesWrongFalsely : Prop := markNotesRow.holds Try.pinned (OpenSpec.ofChange markNotesWrong)

/-- 'nacrelaw03.MarkWords': WHATEVER THE INPUT: true; the input reads as it did. -/
def markWordsSpec : ChangeSpec := { name := "markWords", fn := fun _ => fun
  | [d1, d2, d3] => { results := [.lit (.bool true)], args := [d1, d2, d3] }
  | _ => none }
def markWordsRow : OpenClaim := { program := "ytdobepeeenjeeaa", sum := "89d42c769960721190cf2ee4d44813a2380c4726e137e19e7ab1cea9522f5cdb", func := "nacre/nacrelaw03.MarkWords", spec := "markWords", apart := false }
def MarkWordsSaid : Prop := markWordsRow.holds Try.pinned (OpenSpec.ofChange markWordsSpec)

/-- ITS FALSE NEIGHBOUR: 'it returns false'. Refute it at one input. -/
def markWordsWrong : ChangeSpec := { name := "markWords", fn := fun _ => fun
  | [d1, d2, d3] => { results := [.lit (.bool false)], args := [d1, d2, d3] }
  | _ => none }
def MarkWordsWrongFalsely : Prop := markWordsRow.holds Try.pinned (OpenSpec.ofChange markWordsWrong)

/-- 'nacrelaw04.ConfWords': WHATEVER THE INPUT: true; the input reads as it did. -/
def confWordsSpec : ChangeSpec := { name := "confWords", fn := fun _ => fun
  | [d1, d2] => { results := [.lit (.bool true)], args := [d1, d2] }
  | _ => none }
def confWordsRow : OpenClaim := { program := "ytdobepeeenjeeaa", sum := "89d42c769960721190cf2ee4d44813a2380c4726e137e19e7ab1cea9522f5cdb", func := "nacre/nacrelaw04.ConfWords", spec := "confWords", unfollowed := true, recurses := true, apart := false }
def ConfWordsSaid : Prop := confWordsRow.holds Try.pinned (OpenSpec.ofChange confWordsSpec)

/-- ITS FALSE NEIGHBOUR: 'it returns false'. Refute it at one input. -/
def confWordsWrong : ChangeSpec := { name := "confWords", fn := fun _ => fun
  | [d1, d2] => { results := [.lit (.bool false)], args := [d1, d2] }
  | _ => none }
def ConfWordsWrongFalsely : Prop := confWordsRow.holds Try.pinned (OpenSpec.ofChange confWordsWrong)

/-- 'nacrelaw04.ConfBack': WHATEVER THE INPUT: true; the input reads as it did. -/
def confBackSpec : ChangeSpec := { name := "confBack", fn := fun _ => fun
  | [d1, d2] => { results := [.lit (.bool true)], args := [d1, d2] }
  | _ => none }
def confBackRow : OpenClaim := { program := "ytdobepeeenjeeaa", sum := "89d42c769960721190cf2ee4d44813a2380c4726e137e19e7ab1cea9522f5cdb", func := "nacre/nacrelaw04.ConfBack", spec := "confBack", unfollowed := true, recurses := true, apart := false }
def ConfBackSaid : Prop := confBackRow.holds Try.pinned (OpenSpec.ofChange confBackSpec)

/-- ITS FALSE NEIGHBOUR: 'it returns false'. Refute it at one input. -/
def confBackWrong : ChangeSpec := { name := "confBack", fn := fun _ => fun
  | [d1, d2] => { results := [.lit (.bool false)], args := [d1, d2] }
  | _ => none }
def ConfBackWrongFalsely : Prop := confBackRow.holds Try.pinned (OpenSpec.ofChange confBackWrong)

/-- 'nacrelaw03.MarkBack': WHATEVER THE INPUT: true; the input reads as it did. -/
def markBackSpec : ChangeSpec := { name := "markBack", fn := fun _ => fun
  | [d1, d2, d3] => { results := [.lit (.bool true)], args := [d1, d2, d3] }
  | _ => none }
def markBackRow : OpenClaim := { program := "ytdobepeeenjeeaa", sum := "89d42c769960721190cf2ee4d44813a2380c4726e137e19e7ab1cea9522f5cdb", func := "nacre/nacrelaw03.MarkBack", spec := "markBack", apart := false }
def MarkBackSaid : Prop := markBackRow.holds Try.pinned (OpenSpec.ofChange markBackSpec)

/-- ITS FALSE NEIGHBOUR: 'it returns false'. Refute it at one input. -/
def markBackWrong : ChangeSpec := { name := "markBack", fn := fun _ => fun
  | [d1, d2, d3] => { results := [.lit (.bool false)], args := [d1, d2, d3] }
  | _ => none }
def MarkBackWrongFalsely : Prop := markBackRow.holds Try.pinned (OpenSpec.ofChange markBackWrong)

/- THE SECOND FORM. 'bulk': how many values and letters a reading holds, each counted each time it is reached (what is shared counts as often as it is met; a slice's spare places count too). A statement '..UptoSaid' is the law's where the arguments, and the package variables that the reading takes, are together of bulk at most 1048576: NARROWER than '..Said'. Prove '..Said' where nothing that the law and all that it calls make is longer than what came in: it says more and counts as full. Else prove '..UptoSaid'. A law counts once. -/
mutual
def uptoBulk {H : Type} : DataW H → Nat
  | .lit (.string bytes) => bytes.length + 1
  | .lit _ => 1
  | .nil => 1
  | .ptr d => uptoBulk d + 1
  | .slice elems spare => uptoBulkAll elems + uptoBulkAll spare + 1
  | .agg parts => uptoBulkAll parts + 1
  | .iface _ d => uptoBulk d + 1
  | .map entries => uptoBulkEntries entries + 1
  | .held _ => 1
def uptoBulkAll {H : Type} : List (DataW H) → Nat
  | [] => 0
  | d :: r => uptoBulk d + uptoBulkAll r
def uptoBulkEntries {H : Type} : List (Lit × DataW H) → Nat
  | [] => 0
  | x :: r => uptoBulkEntry x + uptoBulkEntries r
def uptoBulkEntry {H : Type} : Lit × DataW H → Nat
  | (.string bytes, d) => bytes.length + uptoBulk d + 1
  | (_, d) => uptoBulk d + 1
 end
def uptoSmall : (H : Type) → List (DataW H) → Bool := fun _ ds => decide (uptoBulkAll ds ≤ 1048576)
def OpenSpec.upto (s : _root_.Go.ChangeSpec) : _root_.Go.OpenSpec := { _root_.Go.OpenSpec.ofChange s with cond := some uptoSmall }

/-- 'nacrelaw02.SumOf', WHERE WHAT IT READS IS OF BULK AT MOST 1048576: true; the input reads as it did. -/
def sumOfUptoRow : OpenClaim := { program := "ytdobepeeenjeeaa", sum := "89d42c769960721190cf2ee4d44813a2380c4726e137e19e7ab1cea9522f5cdb", func := "nacre/nacrelaw02.SumOf", spec := "sumOf", apart := false, narrowed := true }
def SumOfUptoSaid : Prop := sumOfUptoRow.holds Try.pinned (OpenSpec.upto sumOfSpec)

/-- 'nacrelaw02.SumPieces', WHERE WHAT IT READS IS OF BULK AT MOST 1048576: true; the input reads as it did. -/
def sumPiecesUptoRow : OpenClaim := { program := "ytdobepeeenjeeaa", sum := "89d42c769960721190cf2ee4d44813a2380c4726e137e19e7ab1cea9522f5cdb", func := "nacre/nacrelaw02.SumPieces", spec := "sumPieces", apart := false, narrowed := true }
def SumPiecesUptoSaid : Prop := sumPiecesUptoRow.holds Try.pinned (OpenSpec.upto sumPiecesSpec)

/-- 'nacrelaw02.SumTells', WHERE WHAT IT READS IS OF BULK AT MOST 1048576: true; the input reads as it did. -/
def sumTellsUptoRow : OpenClaim := { program := "ytdobepeeenjeeaa", sum := "89d42c769960721190cf2ee4d44813a2380c4726e137e19e7ab1cea9522f5cdb", func := "nacre/nacrelaw02.SumTells", spec := "sumTells", apart := false, narrowed := true }
def SumTellsUptoSaid : Prop := sumTellsUptoRow.holds Try.pinned (OpenSpec.upto sumTellsSpec)

/-- 'nacrelaw22.OpWords', WHERE WHAT IT READS IS OF BULK AT MOST 1048576: true; the input reads as it did. -/
def opWordsUptoRow : OpenClaim := { program := "ytdobepeeenjeeaa", sum := "89d42c769960721190cf2ee4d44813a2380c4726e137e19e7ab1cea9522f5cdb", func := "nacre/nacrelaw22.OpWords", spec := "opWords", apart := false, narrowed := true }
def OpWordsUptoSaid : Prop := opWordsUptoRow.holds Try.pinned (OpenSpec.upto opWordsSpec)

/-- 'nacrelaw22.OpVals', WHERE WHAT IT READS IS OF BULK AT MOST 1048576: true; the input reads as it did. -/
def opValsUptoRow : OpenClaim := { program := "ytdobepeeenjeeaa", sum := "89d42c769960721190cf2ee4d44813a2380c4726e137e19e7ab1cea9522f5cdb", func := "nacre/nacrelaw22.OpVals", spec := "opVals", apart := false, narrowed := true }
def OpValsUptoSaid : Prop := opValsUptoRow.holds Try.pinned (OpenSpec.upto opValsSpec)

/-- 'nacrelaw22.OpBack', WHERE WHAT IT READS IS OF BULK AT MOST 1048576: true; the input reads as it did. -/
def opBackUptoRow : OpenClaim := { program := "ytdobepeeenjeeaa", sum := "89d42c769960721190cf2ee4d44813a2380c4726e137e19e7ab1cea9522f5cdb", func := "nacre/nacrelaw22.OpBack", spec := "opBack", apart := false, narrowed := true }
def OpBackUptoSaid : Prop := opBackUptoRow.holds Try.pinned (OpenSpec.upto opBackSpec)

/-- 'nacrelaw04.ConfChecks', WHERE WHAT IT READS IS OF BULK AT MOST 1048576: true; the input reads as it did. -/
def confChecksUptoRow : OpenClaim := { program := "ytdobepeeenjeeaa", sum := "89d42c769960721190cf2ee4d44813a2380c4726e137e19e7ab1cea9522f5cdb", func := "nacre/nacrelaw04.ConfChecks", spec := "confChecks", unfollowed := true, recurses := true, apart := false, narrowed := true }
def ConfChecksUptoSaid : Prop := confChecksUptoRow.holds Try.pinned (OpenSpec.upto confChecksSpec)

/-- 'nacrelaw03.MarkNotes', WHERE WHAT IT READS IS OF BULK AT MOST 1048576: true; the input reads as it did. -/
def markNotesUptoRow : OpenClaim := { program := "ytdobepeeenjeeaa", sum := "89d42c769960721190cf2ee4d44813a2380c4726e137e19e7ab1cea9522f5cdb", func := "nacre/nacrelaw03.MarkNotes", spec := "markNotes", apart := false, narrowed := true }
def MarkNotesUptoSaid : Prop := markNotesUptoRow.holds Try.pinned (OpenSpec.upto markNotesSpec)

/-- 'nacrelaw03.MarkWords', WHERE WHAT IT READS IS OF BULK AT MOST 1048576: true; the input reads as it did. -/
def markWordsUptoRow : OpenClaim := { program := "ytdobepeeenjeeaa", sum := "89d42c769960721190cf2ee4d44813a2380c4726e137e19e7ab1cea9522f5cdb", func := "nacre/nacrelaw03.MarkWords", spec := "markWords", apart := false, narrowed := true }
def MarkWordsUptoSaid : Prop := markWordsUptoRow.holds Try.pinned (OpenSpec.upto markWordsSpec)

/-- 'nacrelaw04.ConfWords', WHERE WHAT IT READS IS OF BULK AT MOST 1048576: true; the input reads as it did. -/
def confWordsUptoRow : OpenClaim := { program := "ytdobepeeenjeeaa", sum := "89d42c769960721190cf2ee4d44813a2380c4726e137e19e7ab1cea9522f5cdb", func := "nacre/nacrelaw04.ConfWords", spec := "confWords", unfollowed := true, recurses := true, apart := false, narrowed := true }
def ConfWordsUptoSaid : Prop := confWordsUptoRow.holds Try.pinned (OpenSpec.upto confWordsSpec)

/-- 'nacrelaw04.ConfBack', WHERE WHAT IT READS IS OF BULK AT MOST 1048576: true; the input reads as it did. -/
def confBackUptoRow : OpenClaim := { program := "ytdobepeeenjeeaa", sum := "89d42c769960721190cf2ee4d44813a2380c4726e137e19e7ab1cea9522f5cdb", func := "nacre/nacrelaw04.ConfBack", spec := "confBack", unfollowed := true, recurses := true, apart := false, narrowed := true }
def ConfBackUptoSaid : Prop := confBackUptoRow.holds Try.pinned (OpenSpec.upto confBackSpec)

/-- 'nacrelaw03.MarkBack', WHERE WHAT IT READS IS OF BULK AT MOST 1048576: true; the input reads as it did. -/
def markBackUptoRow : OpenClaim := { program := "ytdobepeeenjeeaa", sum := "89d42c769960721190cf2ee4d44813a2380c4726e137e19e7ab1cea9522f5cdb", func := "nacre/nacrelaw03.MarkBack", spec := "markBack", apart := false, narrowed := true }
def MarkBackUptoSaid : Prop := markBackUptoRow.holds Try.pinned (OpenSpec.upto markBackSpec)

end Rows
end Go.Proofs.Ytdobepeeenjeeaa
