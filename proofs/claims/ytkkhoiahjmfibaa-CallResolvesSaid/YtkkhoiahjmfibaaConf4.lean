/- The walks of conf.Word and conf.Of. -/
import Derived.Test.YtkkhoiahjmfibaaConf3
import Derived.Test.YtkkhoiahjmfibaaPut
namespace Go.Proofs.Ytkkhoiahjmfibaa
open Go.RowKit
set_option linter.unusedVariables false

theorem put1 (t : Nat) : putN 0 0 16 t = t := by simp [putN]
theorem put2 (t p : Nat) (h : t < 65536) : putN t 16 16 p = t + p * 65536 := by
  show 65536 * (65536 * (t / 4294967296) + p) + t % 65536 = _
  omega
theorem put3 (x s : Nat) (h : x < 4294967296) : putN x 32 16 s = x + s * 4294967296 := by
  show 4294967296 * (65536 * (x / 281474976710656) + s) + x % 4294967296 = _
  omega

theorem ofC_yes (x : Nat) (h1 : rightC ((x : Int) % 65536) ((x : Int) / 65536 % 65536) ((x : Int) / 4294967296 % 65536) = true) (h2 : x / 281474976710656 = 0) :
    ofC x = .tuple #[.agg #[.int .i64 ((x : Int) % 65536), .int .i64 ((x : Int) / 65536 % 65536), .int .i64 ((x : Int) / 4294967296 % 65536)], .bool true] := by
  have e : ((x : Int) / 4294967296 % 65536) = (x : Int) / 4294967296 := by omega
  rw [e] at h1 ⊢
  obtain ⟨_, _, h3, h4⟩ := rightC_of h1
  rw [ofC, if_pos ⟨by omega, h1⟩]
theorem ofC_no (x : Nat) (h : rightC ((x : Int) % 65536) ((x : Int) / 65536 % 65536) ((x : Int) / 4294967296 % 65536) = false ∨ x / 281474976710656 ≠ 0) :
    ofC x = .tuple #[.agg #[.int .i64 0, .int .i64 0, .int .i64 0], .bool false] := by
  rw [ofC, if_neg]
  rintro ⟨h1, h2⟩
  have e : ((x : Int) / 4294967296 % 65536) = (x : Int) / 4294967296 := by omega
  rw [e] at h
  rcases h with h | h
  · rw [h] at h2
    cases h2
  · omega

end Go.Proofs.Ytkkhoiahjmfibaa
