/- The walks of heads' encodings, of package head and of the reference. -/
import Derived.Test.YtkkhoiahjmfibaaPlaceRef
import Derived.Test.YtkkhoiahjmfibaaConf4
import Derived.Test.YtkkhoiahjmfibaaSum
import Derived.Test.YtkkhoiahjmfibaaWords
namespace Go.Proofs.Ytkkhoiahjmfibaa
open Go.RowKit
set_option linter.unusedVariables false
set_option linter.unusedSimpArgs false

/-- The words of a head ahead of its sum. -/
def head7 (t p s : Int) : List Nat := [5638862229071736881, 1, (t + p * 65536 + s * 4294967296).toNat, (makersN t p + 120 * (t + 1)).toNat, 0, 0, 0]
def headN (t p s : Int) : List Nat := head7 t p s ++ [crcOf (head7 t p s)]
theorem headN_length (t p s : Int) : (headN t p s).length = 8 := rfl
theorem crcOf_lt (xs : List Nat) : crcOf xs < 4294967296 := by unfold crcOf; omega
theorem head7_fit {t p s : Int} (h : rightC t p s = true) : Fit 18446744073709551616 (head7 t p s) := by
  obtain ⟨⟨h1, h2⟩, ⟨h3, h4⟩, h5, h6⟩ := rightC_of h
  have mb := makers_bd ⟨⟨h1, h2⟩, h3, h4⟩
  intro x hx
  simp [head7] at hx
  omega
theorem headN_fit {t p s : Int} (h : rightC t p s = true) : Fit 18446744073709551616 (headN t p s) := by
  intro x hx
  rcases List.mem_append.1 hx with hx | hx
  · exact head7_fit h x hx
  · simp at hx
    have := crcOf_lt (head7 t p s)
    omega

/-- What a head's encoding answers: a row of the call's own. -/
def HeadPost (w : World) (xs : List Nat) (e : Ending) (w' : World) : Prop := ∃ g cap, e = .returned (.slice (some ⟨g, 0, none⟩) 8 cap) ∧ w.heap.size ≤ g ∧ g < w'.heap.size ∧ Own 46 .u64 w' w.heap.size (.slice (some ⟨g, 0, none⟩) 8 cap) xs ∧ Below w.heap.size w w'

theorem refEncNo (t p s : Int) (w : World) (hr : rightC t p s = false) :
    Calls Try.prog 76 #[.agg #[.int .i64 t, .int .i64 p, .int .i64 s]] w fun e w' => e = .returned (.slice none 0 0) ∧ Below w.heap.size w w' := by
  have W := hid (show wordC t p s = .tuple #[.int .u64 0, .bool false] by rw [wordC, hr]; rfl)
  clear hr
  go_enter Try.func76, Try.ntmps76
  go_wp2_with fail
  refine (refWord t p s _).mono ?_
  rw [W.out]
  rintro e w1 ⟨rfl, hb1⟩
  go_wp2_with fail
  go_ret
  exact ⟨rfl, bel⟩

set_option maxHeartbeats 1600000 in
theorem refEncYes (t p s : Int) (w : World) (hr : rightC t p s = true) :
    Calls Try.prog 76 #[.agg #[.int .i64 t, .int .i64 p, .int .i64 s]] w (HeadPost w (headN t p s)) := by
  have hfit := hid (head7_fit hr)
  obtain ⟨⟨h1, h2⟩, ⟨h3, h4⟩, h5, h6⟩ := rightC_of hr
  have mb := makers_bd ⟨⟨h1, h2⟩, h3, h4⟩
  obtain ⟨n, hn⟩ := Int.eq_ofNat_of_zero_le (show 0 ≤ t + p * 65536 + s * 4294967296 by omega)
  obtain ⟨m, hm⟩ := Int.eq_ofNat_of_zero_le (show 0 ≤ makersN t p + 120 * (t + 1) by omega)
  have W := hid (show wordC t p s = .tuple #[.int .u64 n, .bool true] by rw [wordC, hr, ← hn]; rfl)
  have M := hid (show wordsC t p s = (m : Int) by rw [wordsC, hr, ← hm]; rfl)
  have L := hid (show head7 t p s = [5638862229071736881, 1, n, m, 0, 0, 0] by rw [head7, hn, hm]; simp)
  have bn : n < 18446744073709551616 := by omega
  have bm : m < 10000 := by omega
  clear hr hn hm mb h1 h2 h3 h4 h5 h6
  go_enter Try.func76, Try.ntmps76
  go_wp2_with fail
  refine (refWord t p s _).mono ?_
  rw [W.out]
  rintro e w1 ⟨rfl, hb1⟩
  obtain ⟨hc1, hf1, hz1⟩ := after hb1
  have z1 : w.heap.size < w1.heap.size := by simp at hz1; omega
  go_wp2_with fail
  refine (refWords t p s _).mono ?_
  rw [M.out]
  rintro e w2 ⟨rfl, hb2⟩
  obtain ⟨hc2, hf2, hz2⟩ := after hb2
  have z2 : w.heap.size < w2.heap.size := by omega
  go_wp2_with fail
  have hl : head7 t p s = [5638862229071736881, 1, n, m, 0, 0, 0] := L.out
  refine (refOf _ _ _ _ [5638862229071736881, 1, n, m, 0, 0, 0] (Seen.built _ _ _ _ _ 7 rfl (by decide) rfl) (by rw [← hl]; exact hfit.out)).mono ?_
  clear hl
  rintro e w3 ⟨rfl, rfl⟩
  have hc := crcOf_lt [5638862229071736881, 1, n, m, 0, 0, 0]
  have C := hid (show headN t p s = [5638862229071736881, 1, n, m, 0, 0, 0] ++ [crcOf [5638862229071736881, 1, n, m, 0, 0, 0]] by rw [headN, L.out])
  generalize crcOf [5638862229071736881, 1, n, m, 0, 0, 0] = c at hc C ⊢
  go_wp2_with (at_builtin; refine wpAppend rfl (.tmp 18) (.tmp 22) 24 46 rfl .u64 (.int .u64 0) 8 Try.underlying24 infoU64 rfl _ w.heap.size _ [5638862229071736881, 1, n, m, 0, 0, 0] rfl ((Own.built 46 .u64 w2 w.heap.size [5638862229071736881, 1, n, m, 0, 0, 0] _ 7 (by omega) rfl (by decide) rfl).kept ((Below.refl _ _).alloc (Nat.le_refl _) _) (Nat.le_refl _)) _ _ _ [c] rfl (Seen.builtAt .u64 _ [c] #[.int .u64 (c : Int)] _ 1 _ (by simp) rfl (by decide) rfl) (by simp [maxLen]) (by simp) (by simp; omega) ?_; intro v' w4 hown hgrow)
  have hB1 : Below w2.heap.size w2 w4 := (bel : Below w2.heap.size w2 _).grown hgrow (by simp; omega) (by intro k hk; cases hk; exact Nat.le_refl _)
  obtain ⟨g, cap, hv, hg, hgs, _⟩ := hown.form (by simp)
  rw [← C.out] at hown
  rw [show ([5638862229071736881, 1, n, m, 0, 0, 0] ++ [c]).length = 8 from rfl] at hv
  rw [hv] at hown ⊢
  clear hv hgrow C
  go_wp2_with fail
  go_ret
  exact ⟨g, cap, rfl, hg, hgs, hown, bel⟩
end Go.Proofs.Ytkkhoiahjmfibaa
