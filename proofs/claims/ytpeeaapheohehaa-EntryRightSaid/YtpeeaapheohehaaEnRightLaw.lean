/- The walk of the statement on which entries are right: it answers true. -/
import Derived.Test.YtpeeaapheohehaaEnRefRight
import Derived.Test.YtpeeaapheohehaaEnLive
namespace Go.Proofs.Ytpeeaapheohehaa
open Go.RowKit
set_option linter.unusedVariables false
set_option linter.unusedSimpArgs false

set_option maxRecDepth 100000 in
set_option maxHeartbeats 3200000 in
theorem lawEntryRight (w : World) (ct cp cs k t num ok oa ob n m : Int)
    (_ : -9223372036854775808 ≤ ct) (_ : ct ≤ 9223372036854775807) (_ : -9223372036854775808 ≤ cp) (_ : cp ≤ 9223372036854775807) (_ : -9223372036854775808 ≤ cs) (_ : cs ≤ 9223372036854775807)
    (_ : -9223372036854775808 ≤ k) (_ : k ≤ 9223372036854775807) (_ : -9223372036854775808 ≤ t) (_ : t ≤ 9223372036854775807) (_ : -9223372036854775808 ≤ num) (_ : num ≤ 9223372036854775807) (_ : -9223372036854775808 ≤ ok) (_ : ok ≤ 9223372036854775807) (_ : -9223372036854775808 ≤ oa) (_ : oa ≤ 9223372036854775807) (_ : -9223372036854775808 ≤ ob) (_ : ob ≤ 9223372036854775807) (n1 : -9223372036854775808 ≤ n) (n2 : n ≤ 9223372036854775807) (_ : -9223372036854775808 ≤ m) (_ : m ≤ 9223372036854775807) :
    Calls Try.prog 12 #[.agg #[.int .i64 ct, .int .i64 cp, .int .i64 cs], .agg #[.int .i64 k, .int .i64 t, .int .i64 num, .int .i64 ok, .int .i64 oa, .int .i64 ob, .int .i64 n, .int .i64 m]] w fun e w' => e = .returned (.bool true) ∧ Below w.heap.size w w' := by
  have R1 := hidAll fun w => enRight ct cp cs k t num ok oa ob n m w ⟨n1, n2⟩
  have R2 := hidAll fun w => ref32Right ct cp cs k t num ok oa ob n m w ⟨n1, n2⟩
  generalize rightE ct cp cs ⟨k, t, num, ok, oa, ob, n, m⟩ = b at R1 R2
  have hx := extCell
  go_enter Try.func12, Try.ntmps12
  go_wp2_with fail
  refine regionBelow (by kernel_rfl) (by kernel_rfl) ?_
  repeat (go_big_quiet_step (first | (go_at_call 62; exact quietBelow (R1.out _)) | (go_at_call 63; exact quietBelow (R2.out _)) | (go_at_call 18; exact quietBelow (live32 _))))
  refine wpQuiet_nil ?_
  intro _ hw'
  obtain ⟨nq, hw''⟩ := hw'
  subst hw''
  have hn := nq.below
  go_wp2_with fail
  go_ret
  exact ⟨rfl, bel⟩
end Go.Proofs.Ytpeeaapheohehaa
