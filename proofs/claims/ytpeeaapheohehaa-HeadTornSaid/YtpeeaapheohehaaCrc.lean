/- The sum tells turned bits that stand within 32 in a row: plain facts on numbers, no program in sight. -/
import Derived.Test.YtpeeaapheohehaaPlain
namespace Go.Proofs.Ytpeeaapheohehaa

def crcM (x : Nat) : Nat := if x % 2 = 1 then (x / 2) ^^^ 2197175160 else x / 2

theorem xor_mod2 (x y : Nat) : (x ^^^ y) % 2 = (x + y) % 2 := by
  have h := @Nat.xor_mod_two_pow x y 1
  simp only [Nat.pow_one] at h
  rw [h, xor_bits]

theorem crcM_xor (x y : Nat) : crcM (x ^^^ y) = crcM x ^^^ crcM y := by
  unfold crcM
  rw [xor_mod2, Nat.xor_div_two]
  have e : ∀ a b p : Nat, (a ^^^ p) ^^^ (b ^^^ p) = a ^^^ b := fun a b p => by
    apply Nat.eq_of_testBit_eq; intro i; simp only [Nat.testBit_xor]; cases a.testBit i <;> cases b.testBit i <;> cases p.testBit i <;> rfl
  have e2 : ∀ a b p : Nat, (a ^^^ p) ^^^ b = (a ^^^ b) ^^^ p := fun a b p => by
    apply Nat.eq_of_testBit_eq; intro i; simp only [Nat.testBit_xor]; cases a.testBit i <;> cases b.testBit i <;> cases p.testBit i <;> rfl
  have e3 : ∀ a b p : Nat, a ^^^ (b ^^^ p) = (a ^^^ b) ^^^ p := fun a b p => (Nat.xor_assoc a b p).symm
  rcases Nat.mod_two_eq_zero_or_one x with hx | hx <;> rcases Nat.mod_two_eq_zero_or_one y with hy | hy <;>
    rw [Nat.add_mod, hx, hy] <;> simp [e, e2, e3]

theorem crcM_zero_iff {x : Nat} (hx : x < 4294967296) (h : crcM x = 0) : x = 0 := by
  unfold crcM at h
  split at h
  · have : x / 2 = 2197175160 := by
      have h2 : (x / 2 ^^^ 2197175160) ^^^ 2197175160 = 0 ^^^ 2197175160 := by rw [h]
      rw [Nat.xor_assoc, Nat.xor_self, Nat.xor_zero, Nat.zero_xor] at h2
      exact h2
    omega
  · omega
theorem crcM_lt {x : Nat} (hx : x < 4294967296) : crcM x < 4294967296 := by
  unfold crcM
  split
  · exact Nat.xor_lt_two_pow (n := 32) (by omega) (by omega)
  · omega
theorem crcM_zero : crcM 0 = 0 := rfl

theorem crcBit_M (r : Nat) (b : Bool) : crcBit r b = crcM (r ^^^ b.toNat) := by
  rw [crcBit_eq, crcM, xor_mod2, Nat.xor_div_two]
  cases b
  · simp
  · rcases Nat.mod_two_eq_zero_or_one r with h | h <;> simp [Nat.add_mod, h]

/-- Bits, one behind the other. -/
def crcBits (f : Nat → Bool) : Nat → Nat → Nat
  | 0, r => r
  | n + 1, r => crcBit (crcBits f n r) (f n)

theorem crcBits_front (f : Nat → Bool) (n r : Nat) : crcBits f (n + 1) r = crcBits (fun i => f (i + 1)) n (crcBit r (f 0)) := by
  induction n with
  | zero => rfl
  | succ n ih => rw [crcBits, ih]; rfl
theorem crcBits_add (f : Nat → Bool) (a b r : Nat) : crcBits f (a + b) r = crcBits (fun i => f (a + i)) b (crcBits f a r) := by
  induction b with
  | zero => rfl
  | succ b ih => rw [← Nat.add_assoc, crcBits, ih]; rfl
theorem crcBits_congr (f g : Nat → Bool) (n r : Nat) (h : ∀ i, i < n → f i = g i) : crcBits f n r = crcBits g n r := by
  induction n with
  | zero => rfl
  | succ n ih => rw [crcBits, crcBits, ih (fun i hi => h i (by omega)), h n (by omega)]
theorem crcN_bits (k : Nat) : ∀ r x, crcN k r x = crcBits (fun i => x.testBit i) k r := by
  induction k with
  | zero => intro r x; rw [crcN_zero]; rfl
  | succ k ih =>
    intro r x
    rw [crcN_step, ih, crcBits_front]
    have e : (x % 2 == 1) = x.testBit 0 := by rw [Nat.testBit_zero]; rfl
    rw [e]
    exact crcBits_congr _ _ _ _ (fun i _ => Nat.testBit_div_two x i)

/-- The bits of words, from the lowest one on, word by word. -/
def bitAt (xs : List Nat) (p : Nat) : Bool := (xs[p / 64]?.getD 0).testBit (p % 64)

theorem crcAll_bits (xs : List Nat) : ∀ r, crcAll r xs = crcBits (bitAt xs) (64 * xs.length) r := by
  induction xs with
  | nil => intro r; rfl
  | cons x xs ih =>
    intro r
    have e : crcAll r (x :: xs) = crcAll (crcN 64 r x) xs := rfl
    rw [e, ih, List.length_cons, show 64 * (xs.length + 1) = 64 + 64 * xs.length from by omega, crcBits_add, crcN_bits]
    have e1 : crcBits (fun i => x.testBit i) 64 r = crcBits (bitAt (x :: xs)) 64 r := crcBits_congr _ _ _ _ (fun i hi => by
      simp [bitAt, Nat.div_eq_of_lt hi, Nat.mod_eq_of_lt hi])
    rw [e1]
    exact crcBits_congr _ _ _ _ (fun i _ => by
      have h1 : (64 + i) / 64 = i / 64 + 1 := by omega
      have h2 : (64 + i) % 64 = i % 64 := by omega
      simp [bitAt, h1, h2])

/-- Two lists of bits that differ by a burst: the registers differ by what the burst alone makes. -/
theorem crc_burst (f g : Nat → Bool) (at_ turn N r : Nat) (hN : at_ + 32 ≤ N) (ht : turn < 4294967296) (h0 : turn ≠ 0)
    (hlo : ∀ p, p < at_ → g p = f p) (hin : ∀ i, i < 32 → g (at_ + i) = (f (at_ + i) ^^ turn.testBit i)) (hhi : ∀ p, at_ + 32 ≤ p → g p = f p) :
    crcBits f N r ≠ crcBits g N r := by
  have step : ∀ n, crcBits f (n + 1) r ^^^ crcBits g (n + 1) r = crcM ((crcBits f n r ^^^ crcBits g n r) ^^^ (f n ^^ g n).toNat) := by
    intro n
    rw [crcBits, crcBits, crcBit_M, crcBit_M, ← crcM_xor]
    congr 1
    have e : (f n ^^ g n).toNat = (f n).toNat ^^^ (g n).toNat := by cases f n <;> cases g n <;> rfl
    rw [e]
    apply Nat.eq_of_testBit_eq; intro i; simp only [Nat.testBit_xor]
    cases (crcBits f n r).testBit i <;> cases (crcBits g n r).testBit i <;> cases (f n).toNat.testBit i <;> cases (g n).toNat.testBit i <;> rfl
  have d0 : ∀ n, n ≤ at_ → crcBits f n r ^^^ crcBits g n r = 0 := by
    intro n hn
    rw [crcBits_congr g f n r (fun i hi => hlo i (by omega)), Nat.xor_self]
  have d1 : ∀ k, k ≤ 32 → (crcBits f (at_ + k) r ^^^ crcBits g (at_ + k) r) ^^^ (turn / 2 ^ k) ≠ 0 ∧ (crcBits f (at_ + k) r ^^^ crcBits g (at_ + k) r) ^^^ (turn / 2 ^ k) < 4294967296 := by
    intro k
    induction k with
    | zero => intro _; rw [Nat.add_zero, d0 at_ (Nat.le_refl _), Nat.zero_xor, Nat.pow_zero, Nat.div_one]; exact ⟨h0, ht⟩
    | succ k ih =>
      intro hk
      obtain ⟨h1, h2⟩ := ih (by omega)
      have e : (crcBits f (at_ + (k + 1)) r ^^^ crcBits g (at_ + (k + 1)) r) ^^^ (turn / 2 ^ (k + 1)) = crcM ((crcBits f (at_ + k) r ^^^ crcBits g (at_ + k) r) ^^^ (turn / 2 ^ k)) := by
        rw [← Nat.add_assoc, step, hin k (by omega)]
        have hb : (f (at_ + k) ^^ (f (at_ + k) ^^ turn.testBit k)) = turn.testBit k := by cases f (at_ + k) <;> cases turn.testBit k <;> rfl
        rw [hb]
        generalize crcBits f (at_ + k) r ^^^ crcBits g (at_ + k) r = D
        rw [crcM_xor, crcM_xor, Nat.xor_assoc]
        congr 1
        have hq : turn.testBit k = decide (turn / 2 ^ k % 2 = 1) := by rw [Nat.testBit_eq_decide_div_mod_eq]
        rw [hq, Nat.pow_succ, ← Nat.div_div_eq_div_mul]
        generalize turn / 2 ^ k = q
        rcases Nat.mod_two_eq_zero_or_one q with h | h
        · simp [h, crcM]
        · simp only [h, decide_true, Bool.toNat_true, crcM, if_true]
          rw [Nat.xor_comm (q / 2)]
          simp
      rw [e]
      exact ⟨fun h => h1 (crcM_zero_iff h2 h), crcM_lt h2⟩
  have d2 : ∀ k, crcBits f (at_ + 32 + k) r ^^^ crcBits g (at_ + 32 + k) r ≠ 0 ∧ crcBits f (at_ + 32 + k) r ^^^ crcBits g (at_ + 32 + k) r < 4294967296 := by
    intro k
    induction k with
    | zero =>
      have h := d1 32 (Nat.le_refl _)
      rw [Nat.div_eq_of_lt (show turn < 2 ^ 32 from ht), Nat.xor_zero] at h
      exact h
    | succ k ih =>
      rw [← Nat.add_assoc, step, hhi (at_ + 32 + k) (by omega), Bool.xor_self, Bool.toNat_false, Nat.xor_zero]
      exact ⟨fun h => ih.1 (crcM_zero_iff ih.2 h), crcM_lt ih.2⟩
  have h := (d2 (N - (at_ + 32))).1
  rw [show at_ + 32 + (N - (at_ + 32)) = N from by omega] at h
  intro e
  rw [e, Nat.xor_self] at h
  exact h rfl

/-- A bit of words turned. -/
def turnBit (xs : List Nat) (p : Nat) : List Nat := xs.set (p / 64) ((xs[p / 64]?.getD 0) ^^^ 2 ^ (p % 64))
/-- The first bits of a burst turned. -/
def turned (xs : List Nat) (at_ turn : Nat) : Nat → List Nat
  | 0 => xs
  | k + 1 => if turn / 2 ^ k % 2 = 1 then turnBit (turned xs at_ turn k) (at_ + k) else turned xs at_ turn k

theorem turnBit_length (xs : List Nat) (p : Nat) : (turnBit xs p).length = xs.length := by simp [turnBit]
theorem turned_length (xs : List Nat) (at_ turn k : Nat) : (turned xs at_ turn k).length = xs.length := by
  induction k with
  | zero => rfl
  | succ k ih => rw [turned]; split <;> simp [turnBit_length, ih]
theorem turnBit_fit {xs : List Nat} (h : ∀ x ∈ xs, x < 18446744073709551616) (p : Nat) : ∀ x ∈ turnBit xs p, x < 18446744073709551616 := by
  intro x hx
  unfold turnBit at hx
  rcases List.mem_or_eq_of_mem_set hx with hx | hx
  · exact h x hx
  · subst hx
    refine Nat.xor_lt_two_pow (n := 64) ?_ (Nat.pow_lt_pow_right (by omega) (by omega))
    by_cases hi : p / 64 < xs.length
    · rw [List.getElem?_eq_getElem hi]; exact h _ (List.getElem_mem hi)
    · rw [List.getElem?_eq_none (by omega)]; decide
theorem turned_fit {xs : List Nat} (h : ∀ x ∈ xs, x < 18446744073709551616) (at_ turn k : Nat) : ∀ x ∈ turned xs at_ turn k, x < 18446744073709551616 := by
  induction k with
  | zero => exact h
  | succ k ih => rw [turned]; split; exact turnBit_fit ih _; exact ih

theorem bitAt_turnBit (xs : List Nat) (p q : Nat) (hp : p < 64 * xs.length) : bitAt (turnBit xs p) q = (bitAt xs q ^^ decide (q = p)) := by
  unfold bitAt turnBit
  rw [List.getElem?_set]
  by_cases h : p / 64 = q / 64
  · rw [if_pos h, if_pos (by omega), Option.getD_some, Nat.testBit_xor, Nat.testBit_two_pow, h]
    congr 1
    apply decide_eq_decide.2
    omega
  · rw [if_neg h]
    have : decide (q = p) = false := by simp; omega
    rw [this, Bool.xor_false]

theorem bitAt_turned (xs : List Nat) (at_ turn k : Nat) (hk : at_ + k ≤ 64 * xs.length) (q : Nat) :
    bitAt (turned xs at_ turn k) q = (bitAt xs q ^^ decide (at_ ≤ q ∧ q < at_ + k ∧ turn.testBit (q - at_) = true)) := by
  induction k with
  | zero => rw [turned]; have : decide (at_ ≤ q ∧ q < at_ + 0 ∧ turn.testBit (q - at_) = true) = false := by simp; omega
            rw [this, Bool.xor_false]
  | succ k ih =>
    have ih := ih (by omega)
    rw [turned]
    split
    · rename_i h
      rw [bitAt_turnBit _ _ _ (by rw [turned_length]; omega), ih, Bool.xor_assoc]
      congr 1
      by_cases hq : q = at_ + k
      · subst hq
        have h1 : turn.testBit (at_ + k - at_) = true := by rw [Nat.add_sub_cancel_left, Nat.testBit_eq_decide_div_mod_eq]; simpa using h
        rw [Nat.add_sub_cancel_left] at h1
        simp [h1]
      · have : decide (q = at_ + k) = false := by simp [hq]
        rw [this, Bool.xor_false]
        apply decide_eq_decide.2
        constructor
        · rintro ⟨a, b, c⟩; exact ⟨a, by omega, c⟩
        · rintro ⟨a, b, c⟩; exact ⟨a, by omega, c⟩
    · rename_i h
      rw [ih]
      congr 1
      apply decide_eq_decide.2
      constructor
      · rintro ⟨a, b, c⟩; exact ⟨a, by omega, c⟩
      · rintro ⟨a, b, c⟩
        refine ⟨a, ?_, c⟩
        have hne : q ≠ at_ + k := by
          intro e
          subst e
          rw [Nat.add_sub_cancel_left, Nat.testBit_eq_decide_div_mod_eq] at c
          simp at c
          omega
        omega

/-- Words in which bits are turned that stand within 32 in a row have another sum. -/
theorem crc_tells (xs : List Nat) (at_ turn : Nat) (hN : at_ + 32 ≤ 64 * xs.length) (ht : turn < 4294967296) (h0 : turn ≠ 0) :
    crcOf (turned xs at_ turn 32) ≠ crcOf xs := by
  have h := crc_burst (bitAt xs) (bitAt (turned xs at_ turn 32)) at_ turn (64 * xs.length) 4294967295 hN ht h0
    (fun p hp => by rw [bitAt_turned _ _ _ _ hN]; have : decide (at_ ≤ p ∧ p < at_ + 32 ∧ turn.testBit (p - at_) = true) = false := by simp; omega
                    rw [this, Bool.xor_false])
    (fun i hi => by
      rw [bitAt_turned _ _ _ _ hN]
      congr 1
      rw [Nat.add_sub_cancel_left]
      cases turn.testBit i <;> simp [hi])
    (fun p hp => by rw [bitAt_turned _ _ _ _ hN]; have : decide (at_ ≤ p ∧ p < at_ + 32 ∧ turn.testBit (p - at_) = true) = false := by simp; omega
                    rw [this, Bool.xor_false])
  rw [← crcAll_bits] at h
  have h2 := crcAll_bits (turned xs at_ turn 32) 4294967295
  rw [turned_length] at h2
  rw [← h2] at h
  have b1 := crcAll_lt xs (r := 4294967295) (by omega)
  have b2 := crcAll_lt (turned xs at_ turn 32) (r := 4294967295) (by omega)
  unfold crcOf
  omega
end Go.Proofs.Ytpeeaapheohehaa
