/- The walks of package conf, and of the reference's configurations: pages, bytes. -/
import Derived.Test.YtkkhoiahjmfibaaConf2
namespace Go.Proofs.Ytkkhoiahjmfibaa
open Go.RowKit
set_option linter.unusedVariables false


/-- How many bytes a page has. -/
def pageC (t p s : Int) : Int := if rightC t p s then ((2 ^ s.toNat : Nat) : Int) else 0
/-- How many bytes all pages have. -/
def bytesC (t p s : Int) : Int := pageC t p s * p

theorem pow_bound {n : Nat} (h : n ≤ 20) : (1 : Int) ≤ ((2 ^ n : Nat) : Int) ∧ ((2 ^ n : Nat) : Int) ≤ 1048576 := by
  have h1 := pow_mono (b := 20) h
  have h2 := pow_pos' n
  have e : (2 : Nat) ^ 20 = 1048576 := rfl
  omega

theorem bytes_bound {t p s : Int} : 0 ≤ bytesC t p s ∧ bytesC t p s ≤ 1073741824 ∧ 0 ≤ pageC t p s ∧ pageC t p s ≤ 1048576 := by
  unfold bytesC pageC
  by_cases h : rightC t p s = true
  · rw [h, if_pos rfl]
    obtain ⟨_, ⟨h1, h2⟩, h3, h4⟩ := rightC_of h
    have hp := pow_bound (n := s.toNat) (by omega)
    generalize ((2 ^ s.toNat : Nat) : Int) = q at hp
    have hq := Int.mul_le_mul hp.2 h2 (by omega) (by omega)
    have hq0 := Int.mul_nonneg (show 0 ≤ q by omega) (show 0 ≤ p by omega)
    omega
  · rw [if_neg h]; omega

/-! ### a configuration's word -/
/-- A configuration's word, and whether it has one. -/
def wordC (t p s : Int) : Value := if rightC t p s then .tuple #[.int .u64 (t + p * 65536 + s * 4294967296), .bool true] else .tuple #[.int .u64 0, .bool false]
/-- The configuration that a word is. -/
def ofC (x : Int) : Value := if x / 4294967296 ≤ 20 ∧ rightC (x % 65536) (x / 65536 % 65536) (x / 4294967296) = true
  then .tuple #[.agg #[.int .i64 (x % 65536), .int .i64 (x / 65536 % 65536), .int .i64 (x / 4294967296)], .bool true]
  else .tuple #[.agg #[.int .i64 0, .int .i64 0, .int .i64 0], .bool false]

theorem refWord (t p s : Int) (w : World) :
    Calls Try.prog 106 #[.agg #[.int .i64 t, .int .i64 p, .int .i64 s]] w fun e w' => e = .returned (wordC t p s) ∧ Below w.heap.size w w' := by
  have hr : ∃ c, rightC t p s = c := ⟨_, rfl⟩
  obtain ⟨c, hr⟩ := hr
  cases c
  · have H := hid (show wordC t p s = .tuple #[.int .u64 0, .bool false] by rw [wordC, hr]; rfl)
    have R := hid hr
    clear hr
    go_enter Try.func106, Try.ntmps106
    go_wp2_with (go_at_call 57; refine (refRightC _ _ _ _).mono ?_; rw [R.out]; rintro e w2 ⟨rfl, hb2⟩)
    go_ret2
    exact ⟨by rw [H.out]; rfl, bel⟩
  · have H := hid (show wordC t p s = .tuple #[.int .u64 (t + p * 65536 + s * 4294967296), .bool true] by rw [wordC, hr]; rfl)
    have R := hid hr
    obtain ⟨⟨h1, h2⟩, ⟨h3, h4⟩, h5, h6⟩ := rightC_of hr
    clear hr
    go_enter Try.func106, Try.ntmps106
    go_wp2_with (go_at_call 57; refine (refRightC _ _ _ _).mono ?_; rw [R.out]; rintro e w2 ⟨rfl, hb2⟩; obtain ⟨hc2, hf2, hz2⟩ := after hb2)
    go_ret2
    exact ⟨by rw [H.out]; rfl, bel⟩

end Go.Proofs.Ytkkhoiahjmfibaa
