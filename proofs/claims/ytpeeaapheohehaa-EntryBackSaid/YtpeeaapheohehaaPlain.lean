/- Plain facts on numbers: parts of words, the register of the sum. No program in sight. -/
import Derived.WalkKit
import Derived.Deep.QuietTactic
import Derived.BigQuiet

namespace Go.Proofs.Ytpeeaapheohehaa

theorem hid {p : Prop} (h : p) : RowKit.Hid p := h
theorem hidAll {α : Sort _} {p : α → Prop} (h : ∀ a, p a) : RowKit.Hid (∀ a, p a) := h

/-- A contract that leaves the world alone, met in a region that only reads. -/
theorem quietEq {P : Program} {f : FuncId} {args : Array Value} {w : World} {n : Nat} {v : Value}
    (h : Calls P f args (w.drewN n) fun e w' => e = .returned v ∧ w.drewN n = w') : Calls P f args (w.drewN n) fun e w'' => e = .returned v ∧ ∃ m, w'' = w.drewN m :=
  h.mono fun _ _ ⟨he, hm⟩ => ⟨he, n, hm.symm⟩

theorem ret_int {k : IntKind} {a b : Int} (h : a = b) : Ending.returned (.int k a) = .returned (.int k b) := by rw [h]
theorem ret_bool {a b : Bool} (h : a = b) : Ending.returned (.bool a) = .returned (.bool b) := by rw [h]

/-! ### parts of words in the model's own spelling -/
theorem and1_u32 (n : Nat) : bits .and .u32 (n : Int) 1 = ((n % 2 : Nat) : Int) := by
  show IntKind.u32.wrap ((BitVec.ofInt 32 (n : Int) &&& BitVec.ofInt 32 (1 : Int)).toNat : Int) = _
  rw [BitVec.toNat_and, BitVec.ofInt_natCast, BitVec.toNat_ofNat, show (BitVec.ofInt 32 (1 : Int)).toNat = 1 from rfl, Nat.and_one_is_mod, IntKind.wrap_u32']
  omega
theorem and1_u64 (n : Nat) : bits .and .u64 (n : Int) 1 = ((n % 2 : Nat) : Int) := by
  show IntKind.u64.wrap ((BitVec.ofInt 64 (n : Int) &&& BitVec.ofInt 64 (1 : Int)).toNat : Int) = _
  rw [BitVec.toNat_and, BitVec.ofInt_natCast, BitVec.toNat_ofNat, show (BitVec.ofInt 64 (1 : Int)).toNat = 1 from rfl, Nat.and_one_is_mod, IntKind.wrap_u64]
  omega
theorem xor_bits (a b : Nat) : (a % 2) ^^^ (b % 2) = (a + b) % 2 := by
  rcases Nat.mod_two_eq_zero_or_one a with h | h <;> rcases Nat.mod_two_eq_zero_or_one b with k | k <;> rw [h, k, Nat.add_mod, h, k] <;> rfl
theorem xor1_u32 (a b : Nat) : bits .xor .u32 ((a : Int) % 2) ((b : Int) % 2) = ((a : Int) + b) % 2 := by
  have h := u32_xor_nat (a % 2) (b % 2) (by omega) (by omega)
  rw [xor_bits] at h
  simpa using h

theorem pow_mono {a b : Nat} (h : a ≤ b) : 2 ^ a ≤ 2 ^ b := Nat.pow_le_pow_right (by omega) h
theorem pow64 {a : Nat} (h : a ≤ 64) : 2 ^ a ≤ 18446744073709551616 := pow_mono (b := 64) h
theorem pow_pos' (a : Nat) : 1 ≤ 2 ^ a := Nat.one_le_two_pow
theorem maskVal (width : Nat) (h : width ≤ 64) : (18446744073709551615 : Int) / 2 ^ (64 - width) = ((2 ^ width - 1 : Nat) : Int) := by
  have e : (2 : Nat) ^ width * 2 ^ (64 - width) = 18446744073709551616 := by rw [← Nat.pow_add, show width + (64 - width) = 64 from by omega]
  have hp := pow_pos' (64 - width)
  have hq := pow_pos' width
  have : (18446744073709551615 : Nat) / 2 ^ (64 - width) = 2 ^ width - 1 := by
    apply (Nat.div_eq_iff (by omega)).2
    constructor
    · rw [Nat.sub_mul, e]; omega
    · rw [Nat.sub_mul, e]; omega
  rw [← this]
  exact (Int.natCast_ediv _ _).trans (by rw [Int.natCast_pow]; rfl) |>.symm
/-- A field got: shifted, and masked. -/
theorem getVal (a at_ width : Nat) (ha : a < 18446744073709551616) (h : width ≤ 64) :
    bits .and .u64 ((a : Int) / 2 ^ at_) ((2 ^ width - 1 : Nat) : Int) = ((a / 2 ^ at_ % 2 ^ width : Nat) : Int) := by
  have h1 : a / 2 ^ at_ < 18446744073709551616 := Nat.lt_of_le_of_lt (Nat.div_le_self _ _) ha
  have h2 := pow64 h
  have h3 := pow_pos' width
  have := u64_and_nat (a / 2 ^ at_) (2 ^ width - 1) h1 (by omega)
  rw [Nat.and_two_pow_sub_one_eq_mod] at this
  rw [← this]
  push_cast
  rfl

theorem not_u32 (r : Nat) (h : r < 4294967296) : bits .xor .u32 IntKind.u32.max (r : Int) = ((4294967295 - r : Nat) : Int) := by
  show IntKind.u32.wrap ((BitVec.ofInt 32 (4294967295 : Int) ^^^ BitVec.ofInt 32 (r : Int)).toNat : Int) = _
  rw [show BitVec.ofInt 32 (4294967295 : Int) = BitVec.allOnes 32 from rfl, BitVec.allOnes_xor, BitVec.toNat_not, BitVec.ofInt_natCast, BitVec.toNat_ofNat, IntKind.wrap_u32']
  omega

theorem xorShl (y q : Nat) (hy : y < 18446744073709551616) (hq : q < 64) : bits .xor .u64 (y : Int) (IntKind.u64.wrap (2 ^ q)) = ((y ^^^ 2 ^ q : Nat) : Int) := by
  have hp : (2 : Nat) ^ q < 18446744073709551616 := Nat.pow_lt_pow_right (n := 64) (by omega) hq
  have e : IntKind.u64.wrap (2 ^ q) = ((2 ^ q : Nat) : Int) := by
    rw [IntKind.wrap_u64, show ((2 : Int) ^ q) = ((2 ^ q : Nat) : Int) from by rw [Int.natCast_pow]; rfl]
    generalize (2 : Nat) ^ q = n at hp
    omega
  rw [e, u64_xor_nat y _ hy hp]
theorem natDivPow (t k : Nat) : (t : Int) / 2 ^ k = ((t / 2 ^ k : Nat) : Int) := by rw [Int.natCast_ediv, Int.natCast_pow]; rfl
theorem tmodYes {t k : Nat} (h : ((t : Int) / 2 ^ k).tmod 2 = 1) : t / 2 ^ k % 2 = 1 := by
  rw [natDivPow, Int.tmod_eq_emod_of_nonneg (Int.natCast_nonneg _)] at h
  omega
theorem tmodNo {t k : Nat} (h : ((t : Int) / 2 ^ k).tmod 2 ≠ 1) : ¬ t / 2 ^ k % 2 = 1 := by
  rw [natDivPow, Int.tmod_eq_emod_of_nonneg (Int.natCast_nonneg _)] at h
  omega

/-! ### the sum of words -/
def crcBit (r : Nat) (b : Bool) : Nat := if (r % 2 == 1) != b then (r / 2) ^^^ 2197175160 else r / 2
def crcN : Nat → Nat → Nat → Nat
  | 0, r, _ => r
  | k + 1, r, x => crcN k (crcBit r (x % 2 == 1)) (x / 2)
def crcAll (r : Nat) (xs : List Nat) : Nat := xs.foldl (fun r x => crcN 64 r x) r
def crcOf (xs : List Nat) : Nat := 4294967295 - crcAll 4294967295 xs

theorem crcBit_lt {r : Nat} (h : r < 4294967296) (b : Bool) : crcBit r b < 4294967296 := by
  unfold crcBit
  split
  · exact Nat.xor_lt_two_pow (n := 32) (by omega) (by omega)
  · omega
theorem crcBit_eq (r : Nat) (b : Bool) : crcBit r b = if (r % 2 == 1) != b then (r / 2) ^^^ 2197175160 else r / 2 := rfl
attribute [irreducible] crcBit
theorem crcN_lt (k : Nat) : ∀ {r : Nat} (x : Nat), r < 4294967296 → crcN k r x < 4294967296 := by
  induction k with
  | zero => intro r x h; exact h
  | succ k ih => intro r x h; exact ih _ (crcBit_lt h _)
theorem crcN_zero (r x : Nat) : crcN 0 r x = r := rfl
theorem crcN_step (k r x : Nat) : crcN (k + 1) r x = crcN k (crcBit r (x % 2 == 1)) (x / 2) := rfl
attribute [irreducible] crcN
theorem crcAll_lt (xs : List Nat) : ∀ {r : Nat}, r < 4294967296 → crcAll r xs < 4294967296 := by
  induction xs with
  | nil => intro r h; exact h
  | cons x xs ih => intro r h; exact ih (r := crcN 64 r x) (crcN_lt 64 x h)
theorem crcBit_yes {r x : Nat} (h : (r + x) % 2 = 1) : crcBit r (x % 2 == 1) = (r / 2) ^^^ 2197175160 := by
  unfold crcBit
  rw [if_pos]
  rcases Nat.mod_two_eq_zero_or_one r with h1 | h1 <;> rcases Nat.mod_two_eq_zero_or_one x with h2 | h2 <;> rw [h1, h2] <;> first | rfl | omega
theorem crcBit_no {r x : Nat} (h : (r + x) % 2 ≠ 1) : crcBit r (x % 2 == 1) = r / 2 := by
  unfold crcBit
  rw [if_neg]
  rcases Nat.mod_two_eq_zero_or_one r with h1 | h1 <;> rcases Nat.mod_two_eq_zero_or_one x with h2 | h2 <;> rw [h1, h2] <;> first | decide | omega
theorem crcLo (k r x : Nat) (h : k < 32) : crcN (64 - k) r (x / 2 ^ k) = crcN (64 - (k + 1)) (crcBit r (x % 4294967296 / 2 ^ k % 2 == 1)) (x / 2 ^ (k + 1)) := by
  have e : x % 4294967296 / 2 ^ k % 2 = x / 2 ^ k % 2 := by
    have h1 : (x % 4294967296).testBit k = x.testBit k := by rw [show (4294967296 : Nat) = 2 ^ 32 from rfl, Nat.testBit_mod_two_pow]; simp [h]
    rw [Nat.testBit_eq_decide_div_mod_eq, Nat.testBit_eq_decide_div_mod_eq] at h1
    have h2 := decide_eq_decide.1 h1
    omega
  rw [show 64 - k = (64 - (k + 1)) + 1 from by omega, crcN_step, e, Nat.div_div_eq_div_mul, ← Nat.pow_succ]
theorem crcHi (k r x : Nat) (h : k < 32) : crcN (32 - k) r (x / 2 ^ k) = crcN (32 - (k + 1)) (crcBit r (x / 2 ^ k % 2 == 1)) (x / 2 ^ (k + 1)) := by
  rw [show 32 - k = (32 - (k + 1)) + 1 from by omega, crcN_step, Nat.div_div_eq_div_mul, ← Nat.pow_succ]
theorem crcAll_snoc (r : Nat) (xs : List Nat) (x : Nat) : crcAll r (xs ++ [x]) = crcN 64 (crcAll r xs) x := by
  simp [crcAll, List.foldl_append]
theorem crcAll_take (r : Nat) (xs : List Nat) (k : Nat) (h : k < xs.length) : crcAll r (xs.take (k + 1)) = crcN 64 (crcAll r (xs.take k)) (xs[k]?.getD 0) := by
  rw [List.take_succ_eq_append_getElem h, crcAll_snoc, List.getElem?_eq_getElem h, Option.getD_some]
end Go.Proofs.Ytpeeaapheohehaa
