/- The walks of heads' decodings. -/
import Derived.Test.YtpeeaapheohehaaHeadMap
import Derived.LoopTactic
import Derived.LoopN
namespace Go.Proofs.Ytpeeaapheohehaa
open Go.RowKit Go.Maps
set_option linter.unusedVariables false
set_option linter.unusedSimpArgs false

/-- What the map of the wanted words is: a map of the call's own. -/
def WantPost (w : World) (xs : List Nat) (e : Ending) (w' : World) : Prop := ∃ b, e = .returned (.map (some b)) ∧ w.heap.size ≤ b ∧ b < w'.heap.size ∧ w'.ownsMap Try.prog 3 (plainElem Try.prog 58) b xs.length (entsOf (fun _ => true) xs xs.length) ∧ Below w.heap.size w w'

set_option maxHeartbeats 1600000 in
theorem wantedYes (t p s : Int) (w : World) (hr : rightC t p s = true) :
    Calls Try.prog 95 #[.agg #[.int .i64 t, .int .i64 p, .int .i64 s]] w (WantPost w (headN t p s)) := by
  have R := hid hr
  have hfit := hid (headN_fit hr)
  have hlen := hid (headN_length t p s)
  clear hr
  have hmm := @run_makeMap Try.prog
  go_enter Try.func95, Try.ntmps95
  go_wp2_with fail
  clear hmm
  refine (headEncYes t p s _ R.out).mono ?_
  rintro e w1 ⟨g, cap, rfl, hg, hgs, hown, hb1⟩
  generalize headN t p s = xs at *
  have hm1 : ((w.alloc (.cells #[.int .i64 t, .int .i64 p, .int .i64 s] 23)).alloc (.map #[] 0)).ownsMap Try.prog 3 (plainElem Try.prog 58) (w.heap.size + 1) 0 (entsOf (fun _ => true) xs 0) := by
    have h := World.ownsMap_made (w.alloc (.cells #[.int .i64 t, .int .i64 p, .int .i64 s] 23)) Try.prog 3 (plainElem (H := Unit) Try.prog 58)
    rw [show (w.alloc (.cells #[.int .i64 t, .int .i64 p, .int .i64 s] 23)).heap.size = w.heap.size + 1 from by simp] at h
    exact h
  have hm0 := ownsKept hm1 hb1 (by simp)
  clear hm1
  have hz1 := hb1.size
  simp at hz1 hg
  have hB1 : Below w.heap.size w w1 := bel
  go_wp2_with fail
  go_loopw [10] (fun i wr => ∃ k : Nat, k ≤ 8 ∧ i = .int .i64 k ∧ wr.ownsMap Try.prog 3 (plainElem Try.prog 58) (w.heap.size + 1) k (entsOf (fun _ => true) xs k) ∧ Own 58 .u64 wr (w.heap.size + 1 + 1) (.slice (some ⟨g, 0, none⟩) 8 cap) xs ∧ Below w.heap.size w wr ∧ w.heap.size + 1 < wr.heap.size) (fun i _ => 8 - (intOf i).toNat)
  case atStart => exact ⟨0, by omega, rfl, hm0, by simpa using hown, hB1, by omega⟩
  case round =>
    obtain ⟨k, hk, rfl, hm, ho, hB, hz⟩ := hrel
    by_cases hlt : k < 8
    · have hc := ho.cell hlen.out k hlt
      have hx : xs[k]?.getD 0 < 18446744073709551616 := hfit.out.getD (by omega) k
      have hput := hid (ents_put xs k)
      generalize xs[k]?.getD 0 = x at hc hx hput
      go_wp2_with (at_mapUpdate; refine wpList_mapUpdate_own _ rfl _ _ _ 90 rfl 3 58 intLaw Try.underlying90 _ (w.heap.size + 1) k _ rfl hm (by unfold maxLen; omega) _ _ _ rfl rfl (keyInt k (by omega)) _ [] (elemU64 x hx) ?_; intro w2 hm2 hgrow2)
      rw [hput.out] at hm2
      have ho2 := ho.grownMap hgrow2 (by omega)
      have hz2 := hgrow2.size
      have hB2 := hB.grown hgrow2 (by omega) (by intro j hj; cases hj; omega)
      go_roundw
      case rel => exact ⟨k + 1, by omega, by go_num, hm2, ho2, hB2, by omega⟩
      case measure => simp [intOf]; omega
    · obtain rfl : k = 8 := by omega
      have L := hlen.out
      go_wp2_with fail
      go_ret
      exact ⟨_, rfl, by omega, hz, by rw [hlen.out]; exact hm, hB⟩

set_option maxHeartbeats 800000 in
theorem wantedNo (t p s : Int) (w : World) (hr : rightC t p s = false) :
    Calls Try.prog 95 #[.agg #[.int .i64 t, .int .i64 p, .int .i64 s]] w (WantPost w []) := by
  have R := hid hr
  clear hr
  have hmm := @run_makeMap Try.prog
  go_enter Try.func95, Try.ntmps95
  go_wp2_with fail
  clear hmm
  refine (headEncNo t p s _ R.out).mono ?_
  rintro e w1 ⟨rfl, hb1⟩
  have hm1 : ((w.alloc (.cells #[.int .i64 t, .int .i64 p, .int .i64 s] 23)).alloc (.map #[] 0)).ownsMap Try.prog 3 (plainElem Try.prog 58) (w.heap.size + 1) 0 (entsOf (fun _ => true) [] 0) := by
    have h := World.ownsMap_made (w.alloc (.cells #[.int .i64 t, .int .i64 p, .int .i64 s] 23)) Try.prog 3 (plainElem (H := Unit) Try.prog 58)
    rw [show (w.alloc (.cells #[.int .i64 t, .int .i64 p, .int .i64 s] 23)).heap.size = w.heap.size + 1 from by simp] at h
    exact h
  have hm0 := ownsKept hm1 hb1 (by simp)
  clear hm1
  have hz1 := hb1.size
  simp at hz1
  have hB1 : Below w.heap.size w w1 := bel
  go_wp2_with fail
  refine wp_loop_rounds 1 ?_
  rw [rounds_succ]
  go_wp2_with fail
  go_ret
  exact ⟨_, rfl, by omega, by omega, hm0, hB1⟩
end Go.Proofs.Ytpeeaapheohehaa
