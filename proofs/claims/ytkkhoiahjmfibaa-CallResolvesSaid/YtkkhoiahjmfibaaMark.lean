/- The walks of package mark, and of the reference's words of changes: notes, tips, entries. -/
import Derived.Test.YtkkhoiahjmfibaaHalf
import Derived.Test.YtkkhoiahjmfibaaCells
import Derived.Test.YtkkhoiahjmfibaaPut
namespace Go.Proofs.Ytkkhoiahjmfibaa
open Go.RowKit
set_option linter.unusedVariables false
set_option linter.unusedSimpArgs false

/-! ### fields of a note's word -/
theorem putCount (s c : Int) (w : World) (s0 : 0 ≤ s) (s1 : s < 4294967296) (c0 : 0 ≤ c) (c1 : c < 65536) :
    Calls Try.prog 89 #[.int .u64 (s * 4294967296), .int .i64 0, .int .i64 16, .int .u64 c] w fun e w' => e = .returned (.tuple #[.int .u64 (s * 4294967296 + c), .bool true]) ∧ ∃ n, w' = w.drewN n := by
  have h := halfPutI (s * 4294967296) c 0 16 w (by omega) (by omega) (by omega) (by omega) c0 (by simpa using c1)
  have e : ((putN (s * 4294967296).toNat 0 16 c.toNat : Nat) : Int) = s * 4294967296 + c := by
    show ((1 * (65536 * ((s * 4294967296).toNat / 65536) + c.toNat) + (s * 4294967296).toNat % 1 : Nat) : Int) = _
    omega
  rw [e] at h
  exact h
theorem putOpen (a b r : Int) (w : World) (a0 : 0 ≤ a) (a1 : a < 18446744073709551616) (b0 : 0 ≤ b) (b1 : b ≤ 1) (hr : a / 2147483648 % 2 = 0) (hr' : r = a + b * 2147483648) :
    Calls Try.prog 89 #[.int .u64 a, .int .i64 31, .int .i64 1, .int .u64 b] w fun e w' => e = .returned (.tuple #[.int .u64 r, .bool true]) ∧ ∃ n, w' = w.drewN n := by
  subst hr'
  have h := halfPutI a b 31 1 w a0 a1 (by omega) (by omega) b0 (by simp; omega)
  have e : ((putN a.toNat 31 1 b.toNat : Nat) : Int) = a + b * 2147483648 := by
    show ((2147483648 * (2 * (a.toNat / 4294967296) + b.toNat) + a.toNat % 2147483648 : Nat) : Int) = _
    omega
  rw [e] at h
  exact h
theorem getCount (x : Nat) (w : World) (hx : x < 18446744073709551616) :
    Calls Try.prog 83 #[.int .u64 x, .int .i64 0, .int .i64 16] w fun e w' => e = .returned (.int .u64 ((x : Int) % 65536)) ∧ ∃ n, w' = w.drewN n := by
  have h := halfGet x 0 16 w hx (by omega) (by omega)
  rw [show ((x / 2 ^ 0 % 2 ^ 16 : Nat) : Int) = (x : Int) % 65536 from by omega] at h
  exact h
theorem getRest (x : Nat) (w : World) (hx : x < 18446744073709551616) :
    Calls Try.prog 83 #[.int .u64 x, .int .i64 16, .int .i64 15] w fun e w' => e = .returned (.int .u64 ((x : Int) / 65536 % 32768)) ∧ ∃ n, w' = w.drewN n := by
  have h := halfGet x 16 15 w hx (by omega) (by omega)
  rw [show ((x / 2 ^ 16 % 2 ^ 15 : Nat) : Int) = (x : Int) / 65536 % 32768 from by omega] at h
  exact h
theorem getOpen (x : Nat) (w : World) (hx : x < 18446744073709551616) :
    Calls Try.prog 83 #[.int .u64 x, .int .i64 31, .int .i64 1] w fun e w' => e = .returned (.int .u64 ((x : Int) / 2147483648 % 2)) ∧ ∃ n, w' = w.drewN n := by
  have h := halfGet x 31 1 w hx (by omega) (by omega)
  rw [show ((x / 2 ^ 31 % 2 ^ 1 : Nat) : Int) = (x : Int) / 2147483648 % 2 from by omega] at h
  exact h

/-! ### what they answer -/
def noteV (s c : Int) (o : Bool) : Value := if 0 ≤ c ∧ c ≤ 96 then .tuple #[.int .u64 (s * 4294967296 + c + (if o then 2147483648 else 0)), .bool true] else .tuple #[.int .u64 0, .bool false]
def ofNoteV (x : Int) : Value := if x % 2147483648 ≤ 96 then .tuple #[.agg #[.int .u32 (x / 4294967296), .bool (x / 2147483648 % 2 == 1), .int .i64 (x % 2147483648)], .bool true] else .tuple #[.agg #[.int .u32 0, .bool false, .int .i64 0], .bool false]
def openV (x s : Int) : Value := if x % 2147483648 ≤ 96 ∧ x / 2147483648 % 2 = 1 ∧ x / 4294967296 = s then .tuple #[.int .i64 (x % 2147483648), .bool true] else .tuple #[.int .i64 0, .bool false]
def tipV (s u : Int) : Value := if 0 ≤ u ∧ u ≤ 16 then .tuple #[.int .u64 (s * 4294967296 + u), .bool true] else .tuple #[.int .u64 0, .bool false]
def ofTipV (x : Int) : Value := if x % 4294967296 ≤ 16 then .tuple #[.int .u32 (x / 4294967296), .int .i64 (x % 4294967296), .bool true] else .tuple #[.int .u32 0, .int .i64 0, .bool false]
def entryV (c v : Int) : Value := if 0 ≤ c ∧ c ≤ 65535 then .tuple #[.int .u64 (c * 4294967296 + v), .bool true] else .tuple #[.int .u64 0, .bool false]
def ofEntryV (x : Int) : Value := if x / 4294967296 ≤ 65535 then .tuple #[.agg #[.int .i64 (x / 4294967296), .int .u32 (x % 4294967296)], .bool true] else .tuple #[.agg #[.int .i64 0, .int .u32 0], .bool false]

theorem markBit (b : Bool) (w : World) : Calls Try.prog 90 #[.bool b] w fun e w' => e = .returned (.int .u64 (if b then 1 else 0)) ∧ w = w' := by
  cases b
  all_goals
    go_enter Try.func90, Try.ntmps90
    go_wp2
    go_ret
    exact ⟨rfl, rfl⟩

theorem markNote (s c : Int) (o : Bool) (w : World) (s0 : 0 ≤ s) (s1 : s < 4294967296) :
    Calls Try.prog 48 #[.agg #[.int .u32 s, .bool o, .int .i64 c]] w fun e w' => e = .returned (noteV s c o) ∧ Below w.heap.size w w' := by
  by_cases h1 : 0 ≤ c
  · by_cases h2 : c ≤ 96
    · cases o
      · have H := hid (show noteV s c false = .tuple #[.int .u64 (s * 4294967296 + c), .bool true] by rw [noteV, if_pos ⟨h1, h2⟩]; simp)
        have B := markBit false
        simp only [if_true, Bool.false_eq_true, if_false] at B
        have B := hid B
        go_enter Try.func48, Try.ntmps48
        go_wp2_with fail
        refine (halfJoin s 0 _ (by omega) (by omega) (by omega) (by omega)).mono ?_
        rintro e w1 ⟨rfl, rfl⟩
        go_wp2_with fail
        refine (putCount s c _ (by omega) (by omega) (by omega) (by omega)).mono ?_
        rintro e w2 ⟨rfl, n2, rfl⟩
        go_wp2_with fail
        refine (B.out _).mono ?_
        rintro e w3 ⟨rfl, rfl⟩
        go_wp2_with fail
        refine (putOpen (s * 4294967296 + c) 0 (s * 4294967296 + c) _ (by omega) (by omega) (by omega) (by omega) (by omega) (by omega)).mono ?_
        rintro e w4 ⟨rfl, n4, rfl⟩
        go_wp2_with fail
        go_ret2
        exact ⟨by rw [H.out]; rfl, bel⟩
      · have H := hid (show noteV s c true = .tuple #[.int .u64 (s * 4294967296 + c + 2147483648), .bool true] by rw [noteV, if_pos ⟨h1, h2⟩]; simp)
        have B := markBit true
        simp only [if_true, Bool.false_eq_true, if_false] at B
        have B := hid B
        go_enter Try.func48, Try.ntmps48
        go_wp2_with fail
        refine (halfJoin s 0 _ (by omega) (by omega) (by omega) (by omega)).mono ?_
        rintro e w1 ⟨rfl, rfl⟩
        go_wp2_with fail
        refine (putCount s c _ (by omega) (by omega) (by omega) (by omega)).mono ?_
        rintro e w2 ⟨rfl, n2, rfl⟩
        go_wp2_with fail
        refine (B.out _).mono ?_
        rintro e w3 ⟨rfl, rfl⟩
        go_wp2_with fail
        refine (putOpen (s * 4294967296 + c) 1 (s * 4294967296 + c + 2147483648) _ (by omega) (by omega) (by omega) (by omega) (by omega) (by omega)).mono ?_
        rintro e w4 ⟨rfl, n4, rfl⟩
        go_wp2_with fail
        go_ret2
        exact ⟨by rw [H.out]; rfl, bel⟩
    · have H := hid (show noteV s c o = .tuple #[.int .u64 0, .bool false] by rw [noteV, if_neg (fun h => h2 h.2)])
      go_enter Try.func48, Try.ntmps48
      go_wp2
      go_ret2
      exact ⟨by rw [H.out]; rfl, bel⟩
  · have H := hid (show noteV s c o = .tuple #[.int .u64 0, .bool false] by rw [noteV, if_neg (fun h => h1 h.1)])
    go_enter Try.func48, Try.ntmps48
    go_wp2
    go_ret2
    exact ⟨by rw [H.out]; rfl, bel⟩

theorem refNote (s c : Int) (o : Bool) (w : World) (s0 : 0 ≤ s) (s1 : s < 4294967296) :
    Calls Try.prog 53 #[.agg #[.int .u32 s, .bool o, .int .i64 c]] w fun e w' => e = .returned (noteV s c o) ∧ Below w.heap.size w w' := by
  by_cases h1 : 0 ≤ c
  · by_cases h2 : c ≤ 96
    · cases o
      · have H := hid (show noteV s c false = .tuple #[.int .u64 (s * 4294967296 + c), .bool true] by rw [noteV, if_pos ⟨h1, h2⟩]; simp)
        go_enter Try.func53, Try.ntmps53
        go_wp2_with (go_at_call 52; refine (refJoin s c _ (by omega) (by omega) (by omega) (by omega)).mono ?_; rintro e w1 ⟨rfl, rfl⟩)
        go_ret2
        exact ⟨by rw [H.out]; rfl, bel⟩
      · have H := hid (show noteV s c true = .tuple #[.int .u64 (s * 4294967296 + (c + 2147483648)), .bool true] by rw [noteV, if_pos ⟨h1, h2⟩]; simp; omega)
        go_enter Try.func53, Try.ntmps53
        go_wp2_with (go_at_call 52; refine (refJoin s (c + 2147483648) _ (by omega) (by omega) (by omega) (by omega)).mono ?_; rintro e w1 ⟨rfl, rfl⟩)
        go_ret2
        exact ⟨by rw [H.out]; rfl, bel⟩
    · have H := hid (show noteV s c o = .tuple #[.int .u64 0, .bool false] by rw [noteV, if_neg (fun h => h2 h.2)])
      go_enter Try.func53, Try.ntmps53
      go_wp2
      go_ret2
      exact ⟨by rw [H.out]; rfl, bel⟩
  · have H := hid (show noteV s c o = .tuple #[.int .u64 0, .bool false] by rw [noteV, if_neg (fun h => h1 h.1)])
    go_enter Try.func53, Try.ntmps53
    go_wp2
    go_ret2
    exact ⟨by rw [H.out]; rfl, bel⟩
end Go.Proofs.Ytkkhoiahjmfibaa
