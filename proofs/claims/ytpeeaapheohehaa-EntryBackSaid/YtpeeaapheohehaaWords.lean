/- The walk of the reference's likeness of words. -/
import Derived.Test.YtpeeaapheohehaaChecked
import Derived.Test.YtpeeaapheohehaaMem
import Derived.Deep.QuietTactic
import Derived.BigQuiet
import Derived.RegionTactic
import Derived.ChangeAlike
namespace Go.Proofs.Ytpeeaapheohehaa
open Go.RowKit
set_option linter.unusedVariables false

theorem infoU64 : (Try.prog.info? 58).map (fun i => (i.zero, i.size, i.bytes)) = some (some (.int .u64 0), 1, 8) := by kernel_rfl

theorem Seen.builtAt (k : IntKind) (w : World) (xs : List Nat) (cs : Array Value) (T : TypeId) (n b : Nat) (hb : b = w.heap.size) (hn : xs.length = n) (hm : n ≤ 9223372036854775807)
    (hcs : cs = (xs.map fun x : Nat => Value.int k (x : Int)).toArray) : Seen k (w.alloc (.cells cs T)) (some ⟨b, 0, none⟩) n n xs := by
  subst hb
  exact Seen.built k w xs cs T n hn hm hcs

theorem take_same {xs ys : List Nat} {k : Nat} (hx : k < xs.length) (hy : k < ys.length) (h : xs.take k = ys.take k) (he : xs[k]?.getD 0 = ys[k]?.getD 0) : xs.take (k + 1) = ys.take (k + 1) := by
  rw [List.take_succ_eq_append_getElem hx, List.take_succ_eq_append_getElem hy, h]
  rw [List.getElem?_eq_getElem hx, List.getElem?_eq_getElem hy] at he
  simp only [Option.getD_some] at he
  rw [he]

set_option maxHeartbeats 800000 in
theorem refSameWords (w : World) (a b : Option Addr) (la ca lb cb : Nat) (xs ys : List Nat) (hx : Seen .u64 w a la ca xs) (hy : Seen .u64 w b lb cb ys) :
    Calls Try.prog 14 #[.slice a la ca, .slice b lb cb] w fun e w' => e = .returned (.bool (xs == ys)) ∧ ∃ n, w' = w.drewN n := by
  obtain ⟨x1, x2, x3, x4⟩ := hx
  obtain ⟨y1, y2, y3, y4⟩ := hy
  by_cases hl : la = lb
  · subst hl
    have X := hid x1; have Y := hid y1
    clear x1 y1
    go_enter Try.func14, Try.ntmps14
    go_wp2_with fail
    go_loopw [5] (fun i wr => ∃ k : Nat, k ≤ la ∧ i = .int .i64 k ∧ xs.take k = ys.take k ∧ ∃ n, wr = w.drewN n) (fun i _ => la - (intOf i).toNat)
    case atStart => exact ⟨0, by omega, rfl, rfl, 0, rfl⟩
    case round =>
      obtain ⟨k, hk, rfl, ht, n, rfl⟩ := hrel
      have T := hid ht; clear ht
      by_cases hlt : k < la
      · rcases x4 with ⟨rfl, _⟩ | ⟨bx, ox, rfl, hcx⟩
        · omega
        rcases y4 with ⟨rfl, _⟩ | ⟨b', oy, rfl, hcy⟩
        · omega
        have c1 : (w.drewN n).cell? ⟨bx, ox + k, none⟩ = some (.int .u64 (xs[k]?.getD 0 : Nat)) := hcx k hlt
        have c2 : (w.drewN n).cell? ⟨b', oy + k, none⟩ = some (.int .u64 (ys[k]?.getD 0 : Nat)) := hcy k hlt
        have E := hid (show xs[k]?.getD 0 = ys[k]?.getD 0 → xs.take (k + 1) = ys.take (k + 1) from take_same (by rw [X.out]; exact hlt) (by rw [Y.out]; exact hlt) T.out)
        have N := hid (show xs[k]?.getD 0 ≠ ys[k]?.getD 0 → xs ≠ ys from fun h h' => h (by rw [h']))
        clear hcx hcy
        have W := hid (show ∃ m, w.drewN n = w.drewN m from ⟨n, rfl⟩)
        generalize w.drewN n = wk at c1 c2 W ⊢
        generalize xs[k]?.getD 0 = u at c1 E N
        generalize ys[k]?.getD 0 = v at c2 E N
        by_cases huv : u = v
        · subst huv
          go_wp2_with fail
          go_quiet (fail)
          go_wp2_with fail
          go_roundw
          case rel =>
            obtain ⟨m, rfl⟩ := W.out
            exact ⟨k + 1, by omega, by go_num, E.out trivial, m + nq, by simp⟩
          case measure => simp [intOf]; omega
        · have d : ((u : Int) != (v : Int)) = true := by rw [bne_iff_ne]; omega
          have H := hid (show (xs == ys) = false by rw [beq_eq_false_iff_ne]; exact N.out huv)
          clear huv
          go_wp2_with fail
          go_quiet (fail)
          go_wp2_with fail
          go_ret
          obtain ⟨m, rfl⟩ := W.out
          exact ⟨ret_bool (by rw [H.out]), m + nq, by simp⟩
      · obtain rfl : k = la := by omega
        have H := hid (show (xs == ys) = true by
          rw [beq_iff_eq]
          have h := T.out
          rw [List.take_of_length_le (by rw [X.out]; exact Nat.le_refl _), List.take_of_length_le (by rw [Y.out]; exact Nat.le_refl _)] at h
          exact h)
        go_wp2_with fail
        go_ret
        exact ⟨ret_bool (by rw [H.out]), _, rfl⟩
  · have H := hid (show (xs == ys) = false by rw [beq_eq_false_iff_ne]; intro h; rw [h] at x1; omega)
    have d : ((la : Int) != (lb : Int)) = true := by rw [bne_iff_ne]; omega
    go_enter Try.func14, Try.ntmps14
    go_wp2_with fail
    go_ret
    exact ⟨ret_bool (by rw [H.out]), 0, rfl⟩
theorem refSameWordsB (w : World) (a b : Option Addr) (la ca lb cb : Nat) (xs ys : List Nat) (hx : Seen .u64 w a la ca xs) (hy : Seen .u64 w b lb cb ys) :
    Calls Try.prog 14 #[.slice a la ca, .slice b lb cb] w fun e w' => e = .returned (.bool (xs == ys)) ∧ Below w.heap.size w w' :=
  (refSameWords w a b la ca lb cb xs ys hx hy).mono fun _ _ ⟨he, n, hn⟩ => ⟨he, by rw [hn]; exact belowDrewN (Below.refl _ _) n⟩
end Go.Proofs.Ytpeeaapheohehaa
