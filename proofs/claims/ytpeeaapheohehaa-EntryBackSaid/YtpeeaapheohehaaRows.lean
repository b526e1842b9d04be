/-
  No cell of these rows narrows 'for every input' (looked for: loops, veiled, ifaces, maps, wideKeys, modest, calm, conditions, laid).
  DERIVED. THE GIVEN ROWS OF THIS SEAT. 11 by the template 'for every input the law returns true; each argument reads behind the call as it read before'; 0 by the template 'total and deterministic' (their statements: YtpeeaapheohehaaTotals.lean).
  GIVEN WITH THE SEED: the statements are not yours to turn. If you find one false, say at which input.
  Laid BY PROGRAM, IN A SANDBOX (cutbox-rows.mjs): the forced cells as the released guide's own fill.sh prints them over the translation 8ba4dfaa5067971f… (all of the seat's roots in one cut). By AI agents, Wed Nov 11 2026. No macro, syntax, notation, axiom, sorry.
-/
import Derived.Test.YtpeeaapheohehaaChecked
import GoSem.Claim
import GoSem.ClaimJoined
import GoSem.ClaimMapViews
import Derived.JoinedTies
import Derived.KernelRfl
namespace Go.Proofs.Ytpeeaapheohehaa
/- THE CELL 'sum', in the pinned program and in every row, IS THE sha256 OF THE DUMP (.gsa) THAT YtpeeaapheohehaaProg.lean LOADS. Nothing in Lean hashes anything: it is a label: what it is worth is what the hold of that sum in a sandbox is worth. -/
noncomputable def Try.pinned : Pinned := { name := "ytpeeaapheohehaa", sum := "8ba4dfaa5067971f10a2b2f4e84e604eb804e3a791a509a4bc7168abf8cb9797", checked := Try.checked }
namespace Rows
def none {H : Type} : Left H := { results := [], args := [] }

/-- 'nacrelaw08.HeadEncodes': WHATEVER THE INPUT: true; the input reads as it did. -/
def headEncodesSpec : ChangeSpec := { name := "headEncodes", fn := fun _ => fun
  | [d] => { results := [.lit (.bool true)], args := [d] }
  | _ => none }
def headEncodesRow : OpenClaim := { program := "ytpeeaapheohehaa", sum := "8ba4dfaa5067971f10a2b2f4e84e604eb804e3a791a509a4bc7168abf8cb9797", func := "nacre/nacrelaw08.HeadEncodes", spec := "headEncodes", unfollowed := true, recurses := true, apart := false }
def HeadEncodesSaid : Prop := headEncodesRow.holds Try.pinned (OpenSpec.ofChange headEncodesSpec)

/-- ITS FALSE NEIGHBOUR: 'it returns false'. Refute it at one input. -/
def headEncodesWrong : ChangeSpec := { name := "headEncodes", fn := fun _ => fun
  | [d] => { results := [.lit (.bool false)], args := [d] }
  | _ => none }
def HeadEncodesWrongFalsely : Prop := headEncodesRow.holds Try.pinned (OpenSpec.ofChange headEncodesWrong)

/-- 'nacrelaw32.EntryDecodes': WHATEVER THE INPUT: true; the input reads as it did. -/
def entryDecodesSpec : ChangeSpec := { name := "entryDecodes", fn := fun _ => fun
  | [d1, d2] => { results := [.lit (.bool true)], args := [d1, d2] }
  | _ => none }
def entryDecodesRow : OpenClaim := { program := "ytpeeaapheohehaa", sum := "8ba4dfaa5067971f10a2b2f4e84e604eb804e3a791a509a4bc7168abf8cb9797", func := "nacre/nacrelaw32.EntryDecodes", spec := "entryDecodes", unfollowed := true, recurses := true, apart := false }
def EntryDecodesSaid : Prop := entryDecodesRow.holds Try.pinned (OpenSpec.ofChange entryDecodesSpec)

/-- ITS FALSE NEIGHBOUR: 'it returns false'. Refute it at one input. -/
def entryDecodesWrong : ChangeSpec := { name := "entryDecodes", fn := fun _ => fun
  | [d1, d2] => { results := [.lit (.bool false)], args := [d1, d2] }
  | _ => none }
def EntryDecodesWrongFalsely : Prop := entryDecodesRow.holds Try.pinned (OpenSpec.ofChange entryDecodesWrong)

/-- 'nacrelaw07.PlaceLines': WHATEVER THE INPUT: true; the input reads as it did. -/
def placeLinesSpec : ChangeSpec := { name := "placeLines", fn := fun _ => fun
  | [d1, d2, d3] => { results := [.lit (.bool true)], args := [d1, d2, d3] }
  | _ => none }
def placeLinesRow : OpenClaim := { program := "ytpeeaapheohehaa", sum := "8ba4dfaa5067971f10a2b2f4e84e604eb804e3a791a509a4bc7168abf8cb9797", func := "nacre/nacrelaw07.PlaceLines", spec := "placeLines", unfollowed := true, recurses := true, apart := false }
def PlaceLinesSaid : Prop := placeLinesRow.holds Try.pinned (OpenSpec.ofChange placeLinesSpec)

/-- ITS FALSE NEIGHBOUR: 'it returns false'. Refute it at one input. -/
def placeLinesWrong : ChangeSpec := { name := "placeLines", fn := fun _ => fun
  | [d1, d2, d3] => { results := [.lit (.bool false)], args := [d1, d2, d3] }
  | _ => none }
def PlaceLinesWrongFalsely : Prop := placeLinesRow.holds Try.pinned (OpenSpec.ofChange placeLinesWrong)

/-- 'nacrelaw07.PlaceWords': WHATEVER THE INPUT: true; the input reads as it did. -/
def placeWordsSpec : ChangeSpec := { name := "placeWords", fn := fun _ => fun
  | [d1, d2, d3] => { results := [.lit (.bool true)], args := [d1, d2, d3] }
  | _ => none }
def placeWordsRow : OpenClaim := { program := "ytpeeaapheohehaa", sum := "8ba4dfaa5067971f10a2b2f4e84e604eb804e3a791a509a4bc7168abf8cb9797", func := "nacre/nacrelaw07.PlaceWords", spec := "placeWords", unfollowed := true, recurses := true, apart := false }
def PlaceWordsSaid : Prop := placeWordsRow.holds Try.pinned (OpenSpec.ofChange placeWordsSpec)

/-- ITS FALSE NEIGHBOUR: 'it returns false'. Refute it at one input. -/
def placeWordsWrong : ChangeSpec := { name := "placeWords", fn := fun _ => fun
  | [d1, d2, d3] => { results := [.lit (.bool false)], args := [d1, d2, d3] }
  | _ => none }
def PlaceWordsWrongFalsely : Prop := placeWordsRow.holds Try.pinned (OpenSpec.ofChange placeWordsWrong)

/-- 'nacrelaw07.PlaceBack': WHATEVER THE INPUT: true; the input reads as it did. -/
def placeBackSpec : ChangeSpec := { name := "placeBack", fn := fun _ => fun
  | [d1, d2, d3] => { results := [.lit (.bool true)], args := [d1, d2, d3] }
  | _ => none }
def placeBackRow : OpenClaim := { program := "ytpeeaapheohehaa", sum := "8ba4dfaa5067971f10a2b2f4e84e604eb804e3a791a509a4bc7168abf8cb9797", func := "nacre/nacrelaw07.PlaceBack", spec := "placeBack", unfollowed := true, recurses := true, apart := false }
def PlaceBackSaid : Prop := placeBackRow.holds Try.pinned (OpenSpec.ofChange placeBackSpec)

/-- ITS FALSE NEIGHBOUR: 'it returns false'. Refute it at one input. -/
def placeBackWrong : ChangeSpec := { name := "placeBack", fn := fun _ => fun
  | [d1, d2, d3] => { results := [.lit (.bool false)], args := [d1, d2, d3] }
  | _ => none }
def PlaceBackWrongFalsely : Prop := placeBackRow.holds Try.pinned (OpenSpec.ofChange placeBackWrong)

/-- 'nacrelaw07.PlaceCells': WHATEVER THE INPUT: true; the input reads as it did. -/
def placeCellsSpec : ChangeSpec := { name := "placeCells", fn := fun _ => fun
  | [d1, d2, d3] => { results := [.lit (.bool true)], args := [d1, d2, d3] }
  | _ => none }
def placeCellsRow : OpenClaim := { program := "ytpeeaapheohehaa", sum := "8ba4dfaa5067971f10a2b2f4e84e604eb804e3a791a509a4bc7168abf8cb9797", func := "nacre/nacrelaw07.PlaceCells", spec := "placeCells", unfollowed := true, recurses := true, apart := false }
def PlaceCellsSaid : Prop := placeCellsRow.holds Try.pinned (OpenSpec.ofChange placeCellsSpec)

/-- ITS FALSE NEIGHBOUR: 'it returns false'. Refute it at one input. -/
def placeCellsWrong : ChangeSpec := { name := "placeCells", fn := fun _ => fun
  | [d1, d2, d3] => { results := [.lit (.bool false)], args := [d1, d2, d3] }
  | _ => none }
def PlaceCellsWrongFalsely : Prop := placeCellsRow.holds Try.pinned (OpenSpec.ofChange placeCellsWrong)

/-- 'nacrelaw08.HeadDecodes': WHATEVER THE INPUT: true; the input reads as it did. -/
def headDecodesSpec : ChangeSpec := { name := "headDecodes", fn := fun _ => fun
  | [d] => { results := [.lit (.bool true)], args := [d] }
  | _ => none }
def headDecodesRow : OpenClaim := { program := "ytpeeaapheohehaa", sum := "8ba4dfaa5067971f10a2b2f4e84e604eb804e3a791a509a4bc7168abf8cb9797", func := "nacre/nacrelaw08.HeadDecodes", spec := "headDecodes", unfollowed := true, recurses := true, apart := false }
def HeadDecodesSaid : Prop := headDecodesRow.holds Try.pinned (OpenSpec.ofChange headDecodesSpec)

/-- ITS FALSE NEIGHBOUR: 'it returns false'. Refute it at one input. -/
def headDecodesWrong : ChangeSpec := { name := "headDecodes", fn := fun _ => fun
  | [d] => { results := [.lit (.bool false)], args := [d] }
  | _ => none }
def HeadDecodesWrongFalsely : Prop := headDecodesRow.holds Try.pinned (OpenSpec.ofChange headDecodesWrong)

/-- 'nacrelaw08.HeadBack': WHATEVER THE INPUT: true; the input reads as it did. -/
def headBackSpec : ChangeSpec := { name := "headBack", fn := fun _ => fun
  | [d1, d2] => { results := [.lit (.bool true)], args := [d1, d2] }
  | _ => none }
def headBackRow : OpenClaim := { program := "ytpeeaapheohehaa", sum := "8ba4dfaa5067971f10a2b2f4e84e604eb804e3a791a509a4bc7168abf8cb9797", func := "nacre/nacrelaw08.HeadBack", spec := "headBack", unfollowed := true, recurses := true, apart := false }
def HeadBackSaid : Prop := headBackRow.holds Try.pinned (OpenSpec.ofChange headBackSpec)

/-- ITS FALSE NEIGHBOUR: 'it returns false'. Refute it at one input. -/
def headBackWrong : ChangeSpec := { name := "headBack", fn := fun _ => fun
  | [d1, d2] => { results := [.lit (.bool false)], args := [d1, d2] }
  | _ => none }
def HeadBackWrongFalsely : Prop := headBackRow.holds Try.pinned (OpenSpec.ofChange headBackWrong)

/-- 'nacrelaw08.HeadTorn': WHATEVER THE INPUT: true; the input reads as it did. -/
def headTornSpec : ChangeSpec := { name := "headTorn", fn := fun _ => fun
  | [d1, d2, d3] => { results := [.lit (.bool true)], args := [d1, d2, d3] }
  | _ => none }
def headTornRow : OpenClaim := { program := "ytpeeaapheohehaa", sum := "8ba4dfaa5067971f10a2b2f4e84e604eb804e3a791a509a4bc7168abf8cb9797", func := "nacre/nacrelaw08.HeadTorn", spec := "headTorn", unfollowed := true, recurses := true, apart := false }
def HeadTornSaid : Prop := headTornRow.holds Try.pinned (OpenSpec.ofChange headTornSpec)

/-- ITS FALSE NEIGHBOUR: 'it returns false'. Refute it at one input. -/
def headTornWrong : ChangeSpec := { name := "headTorn", fn := fun _ => fun
  | [d1, d2, d3] => { results := [.lit (.bool false)], args := [d1, d2, d3] }
  | _ => none }
def HeadTornWrongFalsely : Prop := headTornRow.holds Try.pinned (OpenSpec.ofChange headTornWrong)

/-- 'nacrelaw32.EntryRight': WHATEVER THE INPUT: true; the input reads as it did. -/
def entryRightSpec : ChangeSpec := { name := "entryRight", fn := fun _ => fun
  | [d1, d2] => { results := [.lit (.bool true)], args := [d1, d2] }
  | _ => none }
def entryRightRow : OpenClaim := { program := "ytpeeaapheohehaa", sum := "8ba4dfaa5067971f10a2b2f4e84e604eb804e3a791a509a4bc7168abf8cb9797", func := "nacre/nacrelaw32.EntryRight", spec := "entryRight", unfollowed := true, recurses := true, apart := false }
def EntryRightSaid : Prop := entryRightRow.holds Try.pinned (OpenSpec.ofChange entryRightSpec)

/-- ITS FALSE NEIGHBOUR: 'it returns false'. Refute it at one input. -/
def entryRightWrong : ChangeSpec := { name := "entryRight", fn := fun _ => fun
  | [d1, d2] => { results := [.lit (.bool false)], args := [d1, d2] }
  | _ => none }
def EntryRightWrongFalsely : Prop := entryRightRow.holds Try.pinned (OpenSpec.ofChange entryRightWrong)

/-- 'nacrelaw32.EntryBack': WHATEVER THE INPUT: true; the input reads as it did. -/
def entryBackSpec : ChangeSpec := { name := "entryBack", fn := fun _ => fun
  | [d1, d2, d3] => { results := [.lit (.bool true)], args := [d1, d2, d3] }
  | _ => none }
def entryBackRow : OpenClaim := { program := "ytpeeaapheohehaa", sum := "8ba4dfaa5067971f10a2b2f4e84e604eb804e3a791a509a4bc7168abf8cb9797", func := "nacre/nacrelaw32.EntryBack", spec := "entryBack", unfollowed := true, recurses := true, apart := false }
def EntryBackSaid : Prop := entryBackRow.holds Try.pinned (OpenSpec.ofChange entryBackSpec)

/-- ITS FALSE NEIGHBOUR: 'it returns false'. Refute it at one input. -/
def entryBackWrong : ChangeSpec := { name := "entryBack", fn := fun _ => fun
  | [d1, d2, d3] => { results := [.lit (.bool false)], args := [d1, d2, d3] }
  | _ => none }
def EntryBackWrongFalsely : Prop := entryBackRow.holds Try.pinned (OpenSpec.ofChange entryBackWrong)

/- THE SECOND FORM. 'bulk': how many values and letters a reading holds, each counted each time it is reached (what is shared counts as often as it is met; a slice's spare places count too). A statement '..UptoSaid' is the law's where the arguments, and the package variables that the reading takes, are together of bulk at most 1048576: NARROWER than '..Said'. Prove '..Said' where nothing that the law and all that it calls make is longer than what came in: it says more and counts as full. Else prove '..UptoSaid'. A law counts once. -/
mutual
def uptoBulk {H : Type} : DataW H → Nat
  | .lit (.string bytes) => bytes.length + 1
  | .lit _ => 1
  | .nil => 1
  | .ptr d => uptoBulk d + 1
  | .slice elems spare => uptoBulkAll elems + uptoBulkAll spare + 1
  | .agg parts => uptoBulkAll parts + 1
  | .iface _ d => uptoBulk d + 1
  | .map entries => uptoBulkEntries entries + 1
  | .held _ => 1
def uptoBulkAll {H : Type} : List (DataW H) → Nat
  | [] => 0
  | d :: r => uptoBulk d + uptoBulkAll r
def uptoBulkEntries {H : Type} : List (Lit × DataW H) → Nat
  | [] => 0
  | x :: r => uptoBulkEntry x + uptoBulkEntries r
def uptoBulkEntry {H : Type} : Lit × DataW H → Nat
  | (.string bytes, d) => bytes.length + uptoBulk d + 1
  | (_, d) => uptoBulk d + 1
 end
def uptoSmall : (H : Type) → List (DataW H) → Bool := fun _ ds => decide (uptoBulkAll ds ≤ 1048576)
def OpenSpec.upto (s : _root_.Go.ChangeSpec) : _root_.Go.OpenSpec := { _root_.Go.OpenSpec.ofChange s with cond := some uptoSmall }

/-- 'nacrelaw08.HeadEncodes', WHERE WHAT IT READS IS OF BULK AT MOST 1048576: true; the input reads as it did. -/
def headEncodesUptoRow : OpenClaim := { program := "ytpeeaapheohehaa", sum := "8ba4dfaa5067971f10a2b2f4e84e604eb804e3a791a509a4bc7168abf8cb9797", func := "nacre/nacrelaw08.HeadEncodes", spec := "headEncodes", unfollowed := true, recurses := true, apart := false, narrowed := true }
def HeadEncodesUptoSaid : Prop := headEncodesUptoRow.holds Try.pinned (OpenSpec.upto headEncodesSpec)

/-- 'nacrelaw32.EntryDecodes', WHERE WHAT IT READS IS OF BULK AT MOST 1048576: true; the input reads as it did. -/
def entryDecodesUptoRow : OpenClaim := { program := "ytpeeaapheohehaa", sum := "8ba4dfaa5067971f10a2b2f4e84e604eb804e3a791a509a4bc7168abf8cb9797", func := "nacre/nacrelaw32.EntryDecodes", spec := "entryDecodes", unfollowed := true, recurses := true, apart := false, narrowed := true }
def EntryDecodesUptoSaid : Prop := entryDecodesUptoRow.holds Try.pinned (OpenSpec.upto entryDecodesSpec)

/-- 'nacrelaw07.PlaceLines', WHERE WHAT IT READS IS OF BULK AT MOST 1048576: true; the input reads as it did. -/
def placeLinesUptoRow : OpenClaim := { program := "ytpeeaapheohehaa", sum := "8ba4dfaa5067971f10a2b2f4e84e604eb804e3a791a509a4bc7168abf8cb9797", func := "nacre/nacrelaw07.PlaceLines", spec := "placeLines", unfollowed := true, recurses := true, apart := false, narrowed := true }
def PlaceLinesUptoSaid : Prop := placeLinesUptoRow.holds Try.pinned (OpenSpec.upto placeLinesSpec)

/-- 'nacrelaw07.PlaceWords', WHERE WHAT IT READS IS OF BULK AT MOST 1048576: true; the input reads as it did. -/
def placeWordsUptoRow : OpenClaim := { program := "ytpeeaapheohehaa", sum := "8ba4dfaa5067971f10a2b2f4e84e604eb804e3a791a509a4bc7168abf8cb9797", func := "nacre/nacrelaw07.PlaceWords", spec := "placeWords", unfollowed := true, recurses := true, apart := false, narrowed := true }
def PlaceWordsUptoSaid : Prop := placeWordsUptoRow.holds Try.pinned (OpenSpec.upto placeWordsSpec)

/-- 'nacrelaw07.PlaceBack', WHERE WHAT IT READS IS OF BULK AT MOST 1048576: true; the input reads as it did. -/
def placeBackUptoRow : OpenClaim := { program := "ytpeeaapheohehaa", sum := "8ba4dfaa5067971f10a2b2f4e84e604eb804e3a791a509a4bc7168abf8cb9797", func := "nacre/nacrelaw07.PlaceBack", spec := "placeBack", unfollowed := true, recurses := true, apart := false, narrowed := true }
def PlaceBackUptoSaid : Prop := placeBackUptoRow.holds Try.pinned (OpenSpec.upto placeBackSpec)

/-- 'nacrelaw07.PlaceCells', WHERE WHAT IT READS IS OF BULK AT MOST 1048576: true; the input reads as it did. -/
def placeCellsUptoRow : OpenClaim := { program := "ytpeeaapheohehaa", sum := "8ba4dfaa5067971f10a2b2f4e84e604eb804e3a791a509a4bc7168abf8cb9797", func := "nacre/nacrelaw07.PlaceCells", spec := "placeCells", unfollowed := true, recurses := true, apart := false, narrowed := true }
def PlaceCellsUptoSaid : Prop := placeCellsUptoRow.holds Try.pinned (OpenSpec.upto placeCellsSpec)

/-- 'nacrelaw08.HeadDecodes', WHERE WHAT IT READS IS OF BULK AT MOST 1048576: true; the input reads as it did. -/
def headDecodesUptoRow : OpenClaim := { program := "ytpeeaapheohehaa", sum := "8ba4dfaa5067971f10a2b2f4e84e604eb804e3a791a509a4bc7168abf8cb9797", func := "nacre/nacrelaw08.HeadDecodes", spec := "headDecodes", unfollowed := true, recurses := true, apart := false, narrowed := true }
def HeadDecodesUptoSaid : Prop := headDecodesUptoRow.holds Try.pinned (OpenSpec.upto headDecodesSpec)

/-- 'nacrelaw08.HeadBack', WHERE WHAT IT READS IS OF BULK AT MOST 1048576: true; the input reads as it did. -/
def headBackUptoRow : OpenClaim := { program := "ytpeeaapheohehaa", sum := "8ba4dfaa5067971f10a2b2f4e84e604eb804e3a791a509a4bc7168abf8cb9797", func := "nacre/nacrelaw08.HeadBack", spec := "headBack", unfollowed := true, recurses := true, apart := false, narrowed := true }
def HeadBackUptoSaid : Prop := headBackUptoRow.holds Try.pinned (OpenSpec.upto headBackSpec)

/-- 'nacrelaw08.HeadTorn', WHERE WHAT IT READS IS OF BULK AT MOST 1048576: true; the input reads as it did. -/
def headTornUptoRow : OpenClaim := { program := "ytpeeaapheohehaa", sum := "8ba4dfaa5067971f10a2b2f4e84e604eb804e3a791a509a4bc7168abf8cb9797", func := "nacre/nacrelaw08.HeadTorn", spec := "headTorn", unfollowed := true, recurses := true, apart := false, narrowed := true }
def HeadTornUptoSaid : Prop := headTornUptoRow.holds Try.pinned (OpenSpec.upto headTornSpec)

/-- 'nacrelaw32.EntryRight', WHERE WHAT IT READS IS OF BULK AT MOST 1048576: true; the input reads as it did. -/
def entryRightUptoRow : OpenClaim := { program := "ytpeeaapheohehaa", sum := "8ba4dfaa5067971f10a2b2f4e84e604eb804e3a791a509a4bc7168abf8cb9797", func := "nacre/nacrelaw32.EntryRight", spec := "entryRight", unfollowed := true, recurses := true, apart := false, narrowed := true }
def EntryRightUptoSaid : Prop := entryRightUptoRow.holds Try.pinned (OpenSpec.upto entryRightSpec)

/-- 'nacrelaw32.EntryBack', WHERE WHAT IT READS IS OF BULK AT MOST 1048576: true; the input reads as it did. -/
def entryBackUptoRow : OpenClaim := { program := "ytpeeaapheohehaa", sum := "8ba4dfaa5067971f10a2b2f4e84e604eb804e3a791a509a4bc7168abf8cb9797", func := "nacre/nacrelaw32.EntryBack", spec := "entryBack", unfollowed := true, recurses := true, apart := false, narrowed := true }
def EntryBackUptoSaid : Prop := entryBackUptoRow.holds Try.pinned (OpenSpec.upto entryBackSpec)

end Rows
end Go.Proofs.Ytpeeaapheohehaa
