/- Cells of new blocks. No program in sight. -/
import Derived.Test.YtpeeaapheohehaaMem
namespace Go.Proofs.Ytpeeaapheohehaa
open Go.RowKit
set_option linter.unusedVariables false

/-- A cell of the newest block. -/
theorem cellNew {w : World} {cs : Array Value} {T : TypeId} {b o : Nat} {v : Value} (hb : b = w.heap.size) (h : cs[o]? = some v) : (w.alloc (.cells cs T)).cell? ⟨b, o, none⟩ = some v := by
  subst hb
  have e : (w.alloc (.cells cs T)).heap[w.heap.size]? = some (.cells cs T) := heap_alloc_new w _
  simp only [World.cell?, e]
  exact h
/-- A cell of an elder block. -/
theorem cellOld {w : World} {ob : Obj} {b o : Nat} {v : Value} (hb : b < w.heap.size) (h : w.cell? ⟨b, o, none⟩ = some v) : (w.alloc ob).cell? ⟨b, o, none⟩ = some v := by
  rw [World.cell?_alloc_lt w ob ⟨b, o, none⟩ hb]; exact h
end Go.Proofs.Ytpeeaapheohehaa
