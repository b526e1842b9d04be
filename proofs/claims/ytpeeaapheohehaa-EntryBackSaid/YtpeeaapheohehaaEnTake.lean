/- The walk of the closure in package entry's Decode that takes a number off the bytes. -/
import Derived.Test.YtpeeaapheohehaaEnRefDec2
namespace Go.Proofs.Ytpeeaapheohehaa
open Go.RowKit
set_option linter.unusedVariables false
set_option linter.unusedSimpArgs false

theorem Seen.tail {k : IntKind} {w : World} {b off len cap : Nat} {xs : List Nat} (h : Seen k w (some ⟨b, off, none⟩) len cap xs) (n : Nat) (hn : n ≤ len) : Seen k w (some ⟨b, off + n, none⟩) (len - n) (cap - n) (xs.drop n) := by
  obtain ⟨h1, h2, h3, h4⟩ := h
  refine ⟨by rw [List.length_drop]; omega, by omega, by omega, ?_⟩
  by_cases h0 : len - n = 0
  · exact .inl ⟨h0, fun h => by cases h⟩
  · rcases h4 with ⟨h4, _⟩ | ⟨b', off', he, hc⟩
    · omega
    · cases he
      refine .inr ⟨b, off + n, rfl, fun i hi => ?_⟩
      have h5 := hc (n + i) (by omega)
      rw [Nat.add_assoc, h5, List.getElem?_drop]
theorem orLow (U x : Nat) (hx : x < 256) (hU : U * 256 + x < 18446744073709551616) : bits .or .u64 ((U : Int) * 256) (x : Int) = ((U * 256 + x : Nat) : Int) := by
  have a1 : U * 256 < 18446744073709551616 := Nat.lt_of_le_of_lt (Nat.le_add_right _ _) hU
  have a2 : x < 18446744073709551616 := Nat.lt_of_le_of_lt (Nat.le_add_left _ _) hU
  clear hU
  have h := u64_or_nat (U * 256) x a1 a2
  clear a1 a2
  have h8 : 2 ^ 8 * U + x = 2 ^ 8 * U ||| x := Nat.two_pow_add_eq_or_of_lt (show x < 2 ^ 8 from hx) U
  rw [show (2 : Nat) ^ 8 = 256 from rfl, Nat.mul_comm 256 U] at h8
  rw [← h8, show ((U * 256 : Nat) : Int) = (U : Int) * 256 from Int.natCast_mul U 256] at h
  exact h

set_option maxRecDepth 100000 in
set_option maxHeartbeats 1600000 in
theorem enTake (sz g : Nat) (w : World) (a : Option Addr) (len cap : Nat) (xs : List Nat) (hg : BlkT 33 w g #[.slice a len cap]) (hs : Seen .u8 w a len cap xs) (hf : Fit 256 xs) (h1 : sz ≤ len) (h2 : sz ≤ 8) (h0 : 1 ≤ sz) :
    Calls Try.prog 78 #[.int .i64 sz, .pointer (some ⟨g, 0, none⟩)] w fun e w' => e = .returned (.int .i64 (wrap64 (unbe (xs.take sz)))) ∧ ∃ a' cap', w' = w.setCell ⟨g, 0, none⟩ (.slice a' (len - sz) cap') ∧ (∀ wz, Seen .u8 wz a len cap xs → Seen .u8 wz a' (len - sz) cap' (xs.drop sz)) := by
  have hl := hs.1
  have hcp : len ≤ cap ∧ cap ≤ 9223372036854775807 := ⟨hs.2.1, hs.2.2.1⟩
  obtain ⟨b, off, rfl⟩ : ∃ b off, a = some ⟨b, off, none⟩ := by
    rcases hs.2.2.2 with ⟨h4, _⟩ | ⟨b, off, ha, _⟩
    · omega
    · exact ⟨b, off, ha⟩
  have CC := hid (show ∀ i, i < len → w.cell? ⟨b, off + i, none⟩ = some (.int .u8 ((xs[i]?.getD 0 : Nat) : Int)) by
    rcases hs.2.2.2 with ⟨h4, _⟩ | ⟨b', off', ha, hc⟩
    · omega
    · cases ha; exact hc)
  have HL := hidAll fun k => hidAll fun (h : k ≤ 8) => (show unbe (xs.take k) < 18446744073709551616 from Nat.lt_of_lt_of_le (unbe_lt _ _ rfl (fun y hy => hf y (List.mem_of_mem_take hy))) (Nat.le_trans (Nat.pow_le_pow_right (by omega) (Nat.le_trans (List.length_take_le _ _) h)) (by decide)))
  have HS := hidAll fun k => hidAll fun (h : k < xs.length) => unbe_take_snoc xs k h
  have HX := hidAll fun i => hf.getD (by omega) i
  have cg : w.cell? ⟨g, 0, none⟩ = some (.slice (some ⟨b, off, none⟩) len cap) := blkT_cell hg rfl
  have mg : w.frozen? ⟨g, 0, none⟩ = false := blkT_mark hg 0
  have b0 : (0 : Int) ≤ (sz : Int) := by omega
  have b1 : (sz : Int) ≤ (len : Int) := by omega
  have b2 : (sz : Int) ≤ (cap : Int) := by omega
  clear hs hg
  go_enter Try.func78, Try.ntmps78
  go_wp2_with fail
  go_loopw [4, 6, 11] (fun n y i wr => ∃ k : Nat, k ≤ sz ∧ i = .int .i64 (k : Int) ∧ n = .int .u64 ((unbe (xs.take k) : Nat) : Int) ∧ w = wr) (fun _ _ i _ => sz - (intOf i).toNat)
  case atStart => exact ⟨0, by omega, rfl, rfl, by first | rfl | trivial⟩
  case round =>
    obtain ⟨k, hk, rfl, rfl, rfl⟩ := hrel
    by_cases hlt : k < sz
    · have c0 := CC.out k (by omega)
      have hx := HX.out k
      have hb1 := (HL.out (k + 1)).out (by omega)
      have hst := (HS.out k).out (by omega)
      rw [hst] at hb1
      generalize hU : unbe (xs.take k) = U at hst hb1 ⊢
      generalize xs[k]?.getD 0 = x at c0 hx hb1 hst
      have ST := hid hst
      clear hst hU
      have OL := orLow U x hx hb1
      go_wp2_with fail
      go_roundw
      case rel => exact ⟨k + 1, by omega, by go_num, by rw [ST.out]; first | rfl | (simp; done) | go_num, by first | rfl | trivial⟩
      case measure => simp [intOf]; omega
    · obtain rfl : k = sz := by omega
      go_wp2_with fail
      case inl =>
        go_ret
        refine ⟨rfl, _, _, rfl, fun wz hz => ⟨?_, ?_, ?_, .inl ⟨?_, fun h => by cases h⟩⟩⟩
        · rw [List.length_drop]; omega
        · omega
        · omega
        · omega
      case inr =>
        go_ret
        exact ⟨rfl, _, _, rfl, fun wz hz => hz.tail k h1⟩
end Go.Proofs.Ytpeeaapheohehaa
