/- The walks of package place: what a word is. -/
import Derived.Test.YtkkhoiahjmfibaaPlace2
namespace Go.Proofs.Ytkkhoiahjmfibaa
open Go.RowKit
set_option linter.unusedVariables false
set_option linter.unusedSimpArgs false

/-- What a maker's word is. -/
def madeV (u i : Int) : Value := if i < 16 then .agg #[.int .i64 4, .int .i64 u, .int .i64 i] else if i = 16 then .agg #[.int .i64 5, .int .i64 u, .int .i64 0] else if 24 ≤ i then .agg #[.int .i64 6, .int .i64 u, .int .i64 (i - 24)] else .agg #[.int .i64 0, .int .i64 0, .int .i64 0]
/-- What a word is. -/
def atV (t p s x : Int) : Value :=
  if rightC t p s = true ∧ 0 ≤ x ∧ x < makersN t p + 120 * (t + 1) then
    if x < 8 then .agg #[.int .i64 1, .int .i64 x, .int .i64 0] else if x = 8 then .agg #[.int .i64 2, .int .i64 0, .int .i64 0]
    else if makersN t p ≤ x then madeV ((x - makersN t p) / 120) ((x - makersN t p) % 120) else if 16 ≤ x ∧ x < 16 + cellsN t p then .agg #[.int .i64 3, .int .i64 (x - 16), .int .i64 0] else .agg #[.int .i64 0, .int .i64 0, .int .i64 0]
  else .agg #[.int .i64 0, .int .i64 0, .int .i64 0]
theorem madeForm (u i : Int) : ∃ k a b, madeV u i = .agg #[.int .i64 k, .int .i64 a, .int .i64 b] := by
  unfold madeV
  (repeat' split) <;> exact ⟨_, _, _, rfl⟩
theorem atForm (t p s x : Int) : ∃ k a b, atV t p s x = .agg #[.int .i64 k, .int .i64 a, .int .i64 b] := by
  unfold atV
  (repeat' split) <;> first | exact ⟨_, _, _, rfl⟩ | exact madeForm _ _


end Go.Proofs.Ytkkhoiahjmfibaa
