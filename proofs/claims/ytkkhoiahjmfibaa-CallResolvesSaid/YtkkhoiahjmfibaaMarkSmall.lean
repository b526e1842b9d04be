/- The walks of package mark's words of cells. -/
import Derived.Test.YtkkhoiahjmfibaaMark2
namespace Go.Proofs.Ytkkhoiahjmfibaa
open Go.RowKit
set_option linter.unusedVariables false
set_option linter.unusedSimpArgs false

theorem markCell (s v : Int) (w : World) (s0 : 0 ≤ s) (s1 : s < 4294967296) (v0 : 0 ≤ v) (v1 : v < 4294967296) :
    Calls Try.prog 95 #[.int .u32 s, .int .u32 v] w fun e w' => e = .returned (.int .u64 (s * 4294967296 + v)) ∧ w = w' := by
  go_enter Try.func95, Try.ntmps95
  go_wp2_with fail
  refine (halfJoin s v _ s0 s1 v0 v1).mono ?_
  rintro e w1 ⟨rfl, rfl⟩
  go_wp2_with fail
  go_ret
  exact ⟨rfl, rfl⟩
theorem markStamp (x : Int) (w : World) (x0 : 0 ≤ x) (hx : x < 18446744073709551616) :
    Calls Try.prog 93 #[.int .u64 x] w fun e w' => e = .returned (.int .u32 (x / 4294967296)) ∧ w = w' := by
  go_enter Try.func93, Try.ntmps93
  go_wp2_with fail
  refine (halfHi x _ x0 hx).mono ?_
  rintro e w1 ⟨rfl, rfl⟩
  go_wp2_with fail
  go_ret
  exact ⟨rfl, rfl⟩
theorem markVal (x : Int) (w : World) (x0 : 0 ≤ x) (hx : x < 18446744073709551616) :
    Calls Try.prog 55 #[.int .u64 x] w fun e w' => e = .returned (.int .u32 (x % 4294967296)) ∧ w = w' := by
  go_enter Try.func55, Try.ntmps55
  go_wp2_with fail
  refine (halfLo x _ x0 hx).mono ?_
  rintro e w1 ⟨rfl, rfl⟩
  go_wp2_with fail
  go_ret
  exact ⟨rfl, rfl⟩

end Go.Proofs.Ytkkhoiahjmfibaa
