/-
  No cell of these rows narrows 'for every input' (looked for: loops, veiled, ifaces, maps, wideKeys, modest, calm, conditions, laid).
  DERIVED. THE GIVEN ROWS OF THIS SEAT. 7 by the template 'for every input the law returns true; each argument reads behind the call as it read before'; 0 by the template 'total and deterministic' (their statements: YtkkhoiahjmfibaaTotals.lean).
  GIVEN WITH THE SEED: the statements are not yours to turn. If you find one false, say at which input.
  Laid BY PROGRAM, IN A SANDBOX (cutbox-rows.mjs): the forced cells as the released guide's own fill.sh prints them over the translation b2c0d859263918a3… (all of the seat's roots in one cut). By AI agents, Wed Nov 11 2026. No macro, syntax, notation, axiom, sorry.
-/
import Derived.Test.YtkkhoiahjmfibaaChecked
import GoSem.Claim
import GoSem.ClaimJoined
import GoSem.ClaimMapViews
import Derived.JoinedTies
import Derived.KernelRfl
namespace Go.Proofs.Ytkkhoiahjmfibaa
/- THE CELL 'sum', in the pinned program and in every row, IS THE sha256 OF THE DUMP (.gsa) THAT YtkkhoiahjmfibaaProg.lean LOADS. Nothing in Lean hashes anything: it is a label: what it is worth is what the hold of that sum in a sandbox is worth. -/
noncomputable def Try.pinned : Pinned := { name := "ytkkhoiahjmfibaa", sum := "b2c0d859263918a3e215ac16471a50ff09baeff57fa157a00bc664f0f6ff8b1e", checked := Try.checked }
namespace Rows
def none {H : Type} : Left H := { results := [], args := [] }

/-- 'nacrelaw27.RedoLogs': WHATEVER THE INPUT: true; the input reads as it did. -/
def redoLogsSpec : ChangeSpec := { name := "redoLogs", fn := fun _ => fun
  | [d1, d2, d3] => { results := [.lit (.bool true)], args := [d1, d2, d3] }
  | _ => none }
def redoLogsRow : OpenClaim := { program := "ytkkhoiahjmfibaa", sum := "b2c0d859263918a3e215ac16471a50ff09baeff57fa157a00bc664f0f6ff8b1e", func := "nacre/nacrelaw27.RedoLogs", spec := "redoLogs", unfollowed := true, recurses := true, apart := false }
def RedoLogsSaid : Prop := redoLogsRow.holds Try.pinned (OpenSpec.ofChange redoLogsSpec)

/-- ITS FALSE NEIGHBOUR: 'it returns false'. Refute it at one input. -/
def redoLogsWrong : ChangeSpec := { name := "redoLogs", fn := fun _ => fun
  | [d1, d2, d3] => { results := [.lit (.bool false)], args := [d1, d2, d3] }
  | _ => none }
def RedoLogsWrongFalsely : Prop := redoLogsRow.holds Try.pinned (OpenSpec.ofChange redoLogsWrong)

/-- 'nacrelaw27.RedoPart': WHATEVER THE INPUT: true; the input reads as it did. -/
def redoPartSpec : ChangeSpec := { name := "redoPart", fn := fun _ => fun
  | [d1, d2, d3] => { results := [.lit (.bool true)], args := [d1, d2, d3] }
  | _ => none }
def redoPartRow : OpenClaim := { program := "ytkkhoiahjmfibaa", sum := "b2c0d859263918a3e215ac16471a50ff09baeff57fa157a00bc664f0f6ff8b1e", func := "nacre/nacrelaw27.RedoPart", spec := "redoPart", unfollowed := true, recurses := true, apart := false }
def RedoPartSaid : Prop := redoPartRow.holds Try.pinned (OpenSpec.ofChange redoPartSpec)

/-- ITS FALSE NEIGHBOUR: 'it returns false'. Refute it at one input. -/
def redoPartWrong : ChangeSpec := { name := "redoPart", fn := fun _ => fun
  | [d1, d2, d3] => { results := [.lit (.bool false)], args := [d1, d2, d3] }
  | _ => none }
def RedoPartWrongFalsely : Prop := redoPartRow.holds Try.pinned (OpenSpec.ofChange redoPartWrong)

/-- 'nacrelaw27.RedoOnce': WHATEVER THE INPUT: true; the input reads as it did. -/
def redoOnceSpec : ChangeSpec := { name := "redoOnce", fn := fun _ => fun
  | [d1, d2] => { results := [.lit (.bool true)], args := [d1, d2] }
  | _ => none }
def redoOnceRow : OpenClaim := { program := "ytkkhoiahjmfibaa", sum := "b2c0d859263918a3e215ac16471a50ff09baeff57fa157a00bc664f0f6ff8b1e", func := "nacre/nacrelaw27.RedoOnce", spec := "redoOnce", unfollowed := true, recurses := true, apart := false }
def RedoOnceSaid : Prop := redoOnceRow.holds Try.pinned (OpenSpec.ofChange redoOnceSpec)

/-- ITS FALSE NEIGHBOUR: 'it returns false'. Refute it at one input. -/
def redoOnceWrong : ChangeSpec := { name := "redoOnce", fn := fun _ => fun
  | [d1, d2] => { results := [.lit (.bool false)], args := [d1, d2] }
  | _ => none }
def RedoOnceWrongFalsely : Prop := redoOnceRow.holds Try.pinned (OpenSpec.ofChange redoOnceWrong)

/-- 'nacrelaw28.CallSays': WHATEVER THE INPUT: true; the input reads as it did. -/
def callSaysSpec : ChangeSpec := { name := "callSays", fn := fun _ => fun
  | [d1, d2, d3] => { results := [.lit (.bool true)], args := [d1, d2, d3] }
  | _ => none }
def callSaysRow : OpenClaim := { program := "ytkkhoiahjmfibaa", sum := "b2c0d859263918a3e215ac16471a50ff09baeff57fa157a00bc664f0f6ff8b1e", func := "nacre/nacrelaw28.CallSays", spec := "callSays", unfollowed := true, recurses := true, apart := false }
def CallSaysSaid : Prop := callSaysRow.holds Try.pinned (OpenSpec.ofChange callSaysSpec)

/-- ITS FALSE NEIGHBOUR: 'it returns false'. Refute it at one input. -/
def callSaysWrong : ChangeSpec := { name := "callSays", fn := fun _ => fun
  | [d1, d2, d3] => { results := [.lit (.bool false)], args := [d1, d2, d3] }
  | _ => none }
def CallSaysWrongFalsely : Prop := callSaysRow.holds Try.pinned (OpenSpec.ofChange callSaysWrong)

/-- 'nacrelaw28.CallResolves': WHATEVER THE INPUT: true; the input reads as it did. -/
def callResolvesSpec : ChangeSpec := { name := "callResolves", fn := fun _ => fun
  | [d1, d2, d3] => { results := [.lit (.bool true)], args := [d1, d2, d3] }
  | _ => none }
def callResolvesRow : OpenClaim := { program := "ytkkhoiahjmfibaa", sum := "b2c0d859263918a3e215ac16471a50ff09baeff57fa157a00bc664f0f6ff8b1e", func := "nacre/nacrelaw28.CallResolves", spec := "callResolves", unfollowed := true, recurses := true, apart := false }
def CallResolvesSaid : Prop := callResolvesRow.holds Try.pinned (OpenSpec.ofChange callResolvesSpec)

/-- ITS FALSE NEIGHBOUR: 'it returns false'. Refute it at one input. -/
def callResolvesWrong : ChangeSpec := { name := "callResolves", fn := fun _ => fun
  | [d1, d2, d3] => { results := [.lit (.bool false)], args := [d1, d2, d3] }
  | _ => none }
def CallResolvesWrongFalsely : Prop := callResolvesRow.holds Try.pinned (OpenSpec.ofChange callResolvesWrong)

/-- 'nacrelaw28.CallLays': WHATEVER THE INPUT: true; the input reads as it did. -/
def callLaysSpec : ChangeSpec := { name := "callLays", fn := fun _ => fun
  | [d1, d2, d3] => { results := [.lit (.bool true)], args := [d1, d2, d3] }
  | _ => none }
def callLaysRow : OpenClaim := { program := "ytkkhoiahjmfibaa", sum := "b2c0d859263918a3e215ac16471a50ff09baeff57fa157a00bc664f0f6ff8b1e", func := "nacre/nacrelaw28.CallLays", spec := "callLays", unfollowed := true, recurses := true, apart := false }
def CallLaysSaid : Prop := callLaysRow.holds Try.pinned (OpenSpec.ofChange callLaysSpec)

/-- ITS FALSE NEIGHBOUR: 'it returns false'. Refute it at one input. -/
def callLaysWrong : ChangeSpec := { name := "callLays", fn := fun _ => fun
  | [d1, d2, d3] => { results := [.lit (.bool false)], args := [d1, d2, d3] }
  | _ => none }
def CallLaysWrongFalsely : Prop := callLaysRow.holds Try.pinned (OpenSpec.ofChange callLaysWrong)

/-- 'nacrelaw28.CallOnce': WHATEVER THE INPUT: true; the input reads as it did. -/
def callOnceSpec : ChangeSpec := { name := "callOnce", fn := fun _ => fun
  | [d1, d2, d3] => { results := [.lit (.bool true)], args := [d1, d2, d3] }
  | _ => none }
def callOnceRow : OpenClaim := { program := "ytkkhoiahjmfibaa", sum := "b2c0d859263918a3e215ac16471a50ff09baeff57fa157a00bc664f0f6ff8b1e", func := "nacre/nacrelaw28.CallOnce", spec := "callOnce", unfollowed := true, recurses := true, apart := false }
def CallOnceSaid : Prop := callOnceRow.holds Try.pinned (OpenSpec.ofChange callOnceSpec)

/-- ITS FALSE NEIGHBOUR: 'it returns false'. Refute it at one input. -/
def callOnceWrong : ChangeSpec := { name := "callOnce", fn := fun _ => fun
  | [d1, d2, d3] => { results := [.lit (.bool false)], args := [d1, d2, d3] }
  | _ => none }
def CallOnceWrongFalsely : Prop := callOnceRow.holds Try.pinned (OpenSpec.ofChange callOnceWrong)

/- THE SECOND FORM. 'bulk': how many values and letters a reading holds, each counted each time it is reached (what is shared counts as often as it is met; a slice's spare places count too). A statement '..UptoSaid' is the law's where the arguments, and the package variables that the reading takes, are together of bulk at most 1048576: NARROWER than '..Said'. Prove '..Said' where nothing that the law and all that it calls make is longer than what came in: it says more and counts as full. Else prove '..UptoSaid'. A law counts once. -/
mutual
def uptoBulk {H : Type} : DataW H → Nat
  | .lit (.string bytes) => bytes.length + 1
  | .lit _ => 1
  | .nil => 1
  | .ptr d => uptoBulk d + 1
  | .slice elems spare => uptoBulkAll elems + uptoBulkAll spare + 1
  | .agg parts => uptoBulkAll parts + 1
  | .iface _ d => uptoBulk d + 1
  | .map entries => uptoBulkEntries entries + 1
  | .held _ => 1
def uptoBulkAll {H : Type} : List (DataW H) → Nat
  | [] => 0
  | d :: r => uptoBulk d + uptoBulkAll r
def uptoBulkEntries {H : Type} : List (Lit × DataW H) → Nat
  | [] => 0
  | x :: r => uptoBulkEntry x + uptoBulkEntries r
def uptoBulkEntry {H : Type} : Lit × DataW H → Nat
  | (.string bytes, d) => bytes.length + uptoBulk d + 1
  | (_, d) => uptoBulk d + 1
 end
def uptoSmall : (H : Type) → List (DataW H) → Bool := fun _ ds => decide (uptoBulkAll ds ≤ 1048576)
def OpenSpec.upto (s : _root_.Go.ChangeSpec) : _root_.Go.OpenSpec := { _root_.Go.OpenSpec.ofChange s with cond := some uptoSmall }

/-- 'nacrelaw27.RedoLogs', WHERE WHAT IT READS IS OF BULK AT MOST 1048576: true; the input reads as it did. -/
def redoLogsUptoRow : OpenClaim := { program := "ytkkhoiahjmfibaa", sum := "b2c0d859263918a3e215ac16471a50ff09baeff57fa157a00bc664f0f6ff8b1e", func := "nacre/nacrelaw27.RedoLogs", spec := "redoLogs", unfollowed := true, recurses := true, apart := false, narrowed := true }
def RedoLogsUptoSaid : Prop := redoLogsUptoRow.holds Try.pinned (OpenSpec.upto redoLogsSpec)

/-- 'nacrelaw27.RedoPart', WHERE WHAT IT READS IS OF BULK AT MOST 1048576: true; the input reads as it did. -/
def redoPartUptoRow : OpenClaim := { program := "ytkkhoiahjmfibaa", sum := "b2c0d859263918a3e215ac16471a50ff09baeff57fa157a00bc664f0f6ff8b1e", func := "nacre/nacrelaw27.RedoPart", spec := "redoPart", unfollowed := true, recurses := true, apart := false, narrowed := true }
def RedoPartUptoSaid : Prop := redoPartUptoRow.holds Try.pinned (OpenSpec.upto redoPartSpec)

/-- 'nacrelaw27.RedoOnce', WHERE WHAT IT READS IS OF BULK AT MOST 1048576: true; the input reads as it did. -/
def redoOnceUptoRow : OpenClaim := { program := "ytkkhoiahjmfibaa", sum := "b2c0d859263918a3e215ac16471a50ff09baeff57fa157a00bc664f0f6ff8b1e", func := "nacre/nacrelaw27.RedoOnce", spec := "redoOnce", unfollowed := true, recurses := true, apart := false, narrowed := true }
def RedoOnceUptoSaid : Prop := redoOnceUptoRow.holds Try.pinned (OpenSpec.upto redoOnceSpec)

/-- 'nacrelaw28.CallSays', WHERE WHAT IT READS IS OF BULK AT MOST 1048576: true; the input reads as it did. -/
def callSaysUptoRow : OpenClaim := { program := "ytkkhoiahjmfibaa", sum := "b2c0d859263918a3e215ac16471a50ff09baeff57fa157a00bc664f0f6ff8b1e", func := "nacre/nacrelaw28.CallSays", spec := "callSays", unfollowed := true, recurses := true, apart := false, narrowed := true }
def CallSaysUptoSaid : Prop := callSaysUptoRow.holds Try.pinned (OpenSpec.upto callSaysSpec)

/-- 'nacrelaw28.CallResolves', WHERE WHAT IT READS IS OF BULK AT MOST 1048576: true; the input reads as it did. -/
def callResolvesUptoRow : OpenClaim := { program := "ytkkhoiahjmfibaa", sum := "b2c0d859263918a3e215ac16471a50ff09baeff57fa157a00bc664f0f6ff8b1e", func := "nacre/nacrelaw28.CallResolves", spec := "callResolves", unfollowed := true, recurses := true, apart := false, narrowed := true }
def CallResolvesUptoSaid : Prop := callResolvesUptoRow.holds Try.pinned (OpenSpec.upto callResolvesSpec)

/-- 'nacrelaw28.CallLays', WHERE WHAT IT READS IS OF BULK AT MOST 1048576: true; the input reads as it did. -/
def callLaysUptoRow : OpenClaim := { program := "ytkkhoiahjmfibaa", sum := "b2c0d859263918a3e215ac16471a50ff09baeff57fa157a00bc664f0f6ff8b1e", func := "nacre/nacrelaw28.CallLays", spec := "callLays", unfollowed := true, recurses := true, apart := false, narrowed := true }
def CallLaysUptoSaid : Prop := callLaysUptoRow.holds Try.pinned (OpenSpec.upto callLaysSpec)

/-- 'nacrelaw28.CallOnce', WHERE WHAT IT READS IS OF BULK AT MOST 1048576: true; the input reads as it did. -/
def callOnceUptoRow : OpenClaim := { program := "ytkkhoiahjmfibaa", sum := "b2c0d859263918a3e215ac16471a50ff09baeff57fa157a00bc664f0f6ff8b1e", func := "nacre/nacrelaw28.CallOnce", spec := "callOnce", unfollowed := true, recurses := true, apart := false, narrowed := true }
def CallOnceUptoSaid : Prop := callOnceUptoRow.holds Try.pinned (OpenSpec.upto callOnceSpec)

end Rows
end Go.Proofs.Ytkkhoiahjmfibaa
