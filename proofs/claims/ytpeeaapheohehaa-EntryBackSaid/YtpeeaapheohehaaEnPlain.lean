/- Entries of scripts, in plain Lean: their bytes, and which entries bytes are. -/
import Derived.Test.YtpeeaapheohehaaPlace
import Derived.Test.YtpeeaapheohehaaOp
import Derived.WalkSpells
import Derived.Handy
namespace Go.Proofs.Ytpeeaapheohehaa
open Go.RowKit
set_option linter.unusedVariables false
set_option linter.unusedSimpArgs false

/-! ### numbers as bytes -/
def be : Nat → Nat → List Nat
  | 0, _ => []
  | s + 1, n => be s (n / 256) ++ [n % 256]
def unbe (l : List Nat) : Nat := l.foldl (fun n x => n * 256 + x) 0
theorem be_length (s : Nat) : ∀ n, (be s n).length = s := by
  induction s with
  | zero => intro n; rfl
  | succ s ih => intro n; simp [be, ih]
theorem be_fit (s : Nat) : ∀ n, Fit 256 (be s n) := by
  induction s with
  | zero => intro n x hx; cases hx
  | succ s ih =>
    intro n x hx
    rcases List.mem_append.1 hx with hx | hx
    · exact ih _ x hx
    · simp at hx; omega
theorem unbe_snoc (l : List Nat) (x : Nat) : unbe (l ++ [x]) = unbe l * 256 + x := by simp [unbe]
theorem unbe_be (s : Nat) : ∀ n, unbe (be s n) = n % 256 ^ s := by
  induction s with
  | zero => intro n; simp [be, unbe, Nat.mod_one]
  | succ s ih =>
    intro n
    rw [be, unbe_snoc, ih, Nat.pow_succ, Nat.mul_comm (256 ^ s) 256, Nat.mod_mul, Nat.mul_comm, Nat.add_comm]
theorem unbe_lt (s : Nat) : ∀ l : List Nat, l.length = s → Fit 256 l → unbe l < 256 ^ s := by
  induction s with
  | zero => intro l h _; obtain rfl := List.length_eq_zero_iff.1 h; decide
  | succ s ih =>
    intro l h hf
    have hne : l ≠ [] := by intro h'; rw [h'] at h; simp at h
    rw [← List.dropLast_concat_getLast hne, unbe_snoc, Nat.pow_succ]
    have h1 := ih l.dropLast (by simp [h]) (fun x hx => hf x (List.dropLast_sublist _ |>.subset hx))
    have h2 := hf _ (List.getLast_mem hne)
    omega
theorem unbe_take {l : List Nat} (hf : Fit 256 l) (i n : Nat) : unbe ((l.drop i).take n) < 256 ^ n := by
  have h := unbe_lt _ ((l.drop i).take n) rfl (fun x hx => hf x (List.mem_of_mem_drop (List.mem_of_mem_take hx)))
  have h2 : ((l.drop i).take n).length ≤ n := List.length_take_le _ _
  exact Nat.lt_of_lt_of_le h (Nat.pow_le_pow_right (by omega) h2)
theorem takeMid {l a b c : List Nat} {i n : Nat} (h : l = a ++ (b ++ c)) (ha : a.length = i) (hb : b.length = n) : (l.drop i).take n = b := by
  subst h ha hb
  simp
def u64N (a : Int) : Nat := (a % 18446744073709551616).toNat
theorem u64N_lt (a : Int) : u64N a < 18446744073709551616 := by unfold u64N; omega
theorem wrap_u64N {a : Int} (h : -9223372036854775808 ≤ a ∧ a ≤ 9223372036854775807) : wrap64 (u64N a : Int) = a := by unfold wrap64 u64N; omega
theorem wrap64_rng (n : Int) : -9223372036854775808 ≤ wrap64 n ∧ wrap64 n ≤ 9223372036854775807 := by unfold wrap64; omega

/-! ### entries -/
structure En where
  k : Int
  t : Int
  num : Int
  ok : Int
  oa : Int
  ob : Int
  n : Int
  m : Int
def zeroE : En := ⟨0, 0, 0, 0, 0, 0, 0, 0⟩
def En.alike (e f : En) : Bool := e.k == f.k && e.t == f.t && e.num == f.num && e.ok == f.ok && e.oa == f.oa && e.ob == f.ob && e.n == f.n && e.m == f.m
theorem En.alike_iff (e f : En) : e.alike f = true ↔ e = f := by
  cases e; cases f
  simp [En.alike, and_assoc]
instance : DecidableEq En := fun e f => decidable_of_iff (e.alike f = true) (En.alike_iff e f)
def enV (e : En) : Value := .agg #[.int .i64 e.k, .int .i64 e.t, .int .i64 e.num, .int .i64 e.ok, .int .i64 e.oa, .int .i64 e.ob, .int .i64 e.n, .int .i64 e.m]
def enL (e : En) : List Value := [.int .i64 e.k, .int .i64 e.t, .int .i64 e.num, .int .i64 e.ok, .int .i64 e.oa, .int .i64 e.ob, .int .i64 e.n, .int .i64 e.m]

def useT (k : Int) : Bool := k == 1 || k == 2 || k == 6
def useNum (k : Int) : Bool := k == 1 || k == 6
def useOp (k : Int) : Bool := k == 1
def useN (k : Int) : Bool := k == 2 || k == 3 || k == 5
def useM (k : Int) : Bool := k == 3
/-- Is all that is not used zero? -/
def bareB (e : En) : Bool := (useT e.k || e.t == 0) && (useNum e.k || e.num == 0) && (useOp e.k || (e.ok == 0 && e.oa == 0 && e.ob == 0)) && (useN e.k || e.n == 0) && (useM e.k || e.m == 0)
def goesB (e : En) : Bool := decide ((0 ≤ e.t ∧ e.t ≤ 255) ∧ (0 ≤ e.num ∧ e.num ≤ 4294967295) ∧ (0 ≤ e.ok ∧ e.ok ≤ 255) ∧ (0 ≤ e.n ∧ e.n ≤ 65535) ∧ (0 ≤ e.m ∧ e.m ≤ 255))
/-- Has an entry bytes? -/
def encB (e : En) : Bool := decide (0 ≤ e.k ∧ e.k ≤ 6) && bareB e && goesB e
/-- An entry's bytes. -/
def bytesE (e : En) : List Nat :=
  e.k.toNat :: ((if useT e.k = true then be 1 e.t.toNat else []) ++ ((if useNum e.k = true then be 4 e.num.toNat else []) ++ ((if useOp e.k = true then be 1 e.ok.toNat ++ (be 8 (u64N e.oa) ++ be 8 (u64N e.ob)) else []) ++ ((if useN e.k = true then be 2 e.n.toNat else []) ++ (if useM e.k = true then be 1 e.m.toNat else [])))))
def needN (k : Nat) : Nat := if k = 1 then 22 else if k = 2 ∨ k = 3 then 3 else if k = 5 then 2 else if k = 6 then 5 else 0
/-- The entry of a kind, whose fields are the first bytes of a row. -/
def oneE (k : Nat) (l : List Nat) : En :=
  if k = 1 then ⟨1, unbe (l.take 1), unbe ((l.drop 1).take 4), unbe ((l.drop 5).take 1), wrap64 (unbe ((l.drop 6).take 8)), wrap64 (unbe ((l.drop 14).take 8)), 0, 0⟩
  else if k = 2 then ⟨2, unbe (l.take 1), 0, 0, 0, 0, unbe ((l.drop 1).take 2), 0⟩
  else if k = 3 then ⟨3, 0, 0, 0, 0, 0, unbe (l.take 2), unbe ((l.drop 2).take 1)⟩
  else if k = 5 then ⟨5, 0, 0, 0, 0, 0, unbe (l.take 2), 0⟩
  else if k = 6 then ⟨6, unbe (l.take 1), unbe ((l.drop 1).take 4), 0, 0, 0, 0, 0⟩
  else ⟨k, 0, 0, 0, 0, 0, 0, 0⟩
/-- The entries that bytes are, so many at most. -/
def decL : Nat → List Nat → List En
  | 0, _ => []
  | _ + 1, [] => []
  | r + 1, x :: l => if x < 1 ∨ 6 < x then zeroE :: decL r l else if l.length < needN x then [zeroE] else oneE x l :: decL r (l.drop (needN x))

theorem decL_nil (r : Nat) : decL r [] = [] := by cases r <;> rfl
theorem decL_length (r : Nat) : ∀ l, (decL r l).length ≤ r := by
  induction r with
  | zero => intro l; exact Nat.le_refl _
  | succ r ih =>
    intro l
    cases l with
    | nil => simp [decL]
    | cons x l =>
      rw [decL]
      split
      · have := ih l; simp; omega
      · split
        · simp
        · have := ih (l.drop (needN x)); simp; omega

/-- The ranges of an operation's numbers. -/
def rngE (e : En) : Prop := (-9223372036854775808 ≤ e.oa ∧ e.oa ≤ 9223372036854775807) ∧ (-9223372036854775808 ≤ e.ob ∧ e.ob ≤ 9223372036854775807)
theorem kind6 (k : Int) (h : 0 ≤ k ∧ k ≤ 6) : k = 0 ∨ k = 1 ∨ k = 2 ∨ k = 3 ∨ k = 4 ∨ k = 5 ∨ k = 6 := by omega

theorem mod1 {n : Nat} (h : n ≤ 255) : n % 256 ^ 1 = n := Nat.mod_eq_of_lt (by omega)
theorem mod2 {n : Nat} (h : n ≤ 65535) : n % 256 ^ 2 = n := Nat.mod_eq_of_lt (by omega)
theorem mod4 {n : Nat} (h : n ≤ 4294967295) : n % 256 ^ 4 = n := Nat.mod_eq_of_lt (by omega)
theorem mod8 {n : Nat} (h : n < 18446744073709551616) : n % 256 ^ 8 = n := Nat.mod_eq_of_lt (by omega)

theorem oneE_bytes (e : En) (l : List Nat) (h : encB e = true) (hk : 1 ≤ e.k) (hr : rngE e) :
    ∃ b : List Nat, bytesE e = e.k.toNat :: b ∧ b.length = needN e.k.toNat ∧ oneE e.k.toNat (b ++ l) = e := by
  obtain ⟨k, t, num, ok, oa, ob, n, m⟩ := e
  simp only [encB, bareB, goesB, Bool.and_eq_true, Bool.or_eq_true, decide_eq_true_eq, beq_iff_eq] at h
  obtain ⟨⟨hk6, ⟨⟨⟨⟨ht, hnum⟩, hop⟩, hn⟩, hm⟩⟩, ⟨t0, t1⟩, ⟨num0, num1⟩, ⟨ok0, ok1⟩, ⟨n0, n1⟩, ⟨m0, m1⟩⟩ := h
  obtain ⟨hoa, hob⟩ := hr
  simp only at *
  obtain ⟨t, rfl⟩ := Int.eq_ofNat_of_zero_le t0
  obtain ⟨num, rfl⟩ := Int.eq_ofNat_of_zero_le num0
  obtain ⟨ok, rfl⟩ := Int.eq_ofNat_of_zero_le ok0
  obtain ⟨n, rfl⟩ := Int.eq_ofNat_of_zero_le n0
  obtain ⟨m, rfl⟩ := Int.eq_ofNat_of_zero_le m0
  have a1 : unbe (be 1 t) = t := by rw [unbe_be]; exact mod1 (by omega)
  have a2 : unbe (be 4 num) = num := by rw [unbe_be]; exact mod4 (by omega)
  have a3 : unbe (be 1 ok) = ok := by rw [unbe_be]; exact mod1 (by omega)
  have a4 : wrap64 (unbe (be 8 (u64N oa)) : Int) = oa := by rw [unbe_be, mod8 (u64N_lt _)]; exact wrap_u64N hoa
  have a5 : wrap64 (unbe (be 8 (u64N ob)) : Int) = ob := by rw [unbe_be, mod8 (u64N_lt _)]; exact wrap_u64N hob
  have a6 : unbe (be 2 n) = n := by rw [unbe_be]; exact mod2 (by omega)
  have a7 : unbe (be 1 m) = m := by rw [unbe_be]; exact mod1 (by omega)
  have L := be_length
  rcases kind6 k hk6 with rfl | rfl | rfl | rfl | rfl | rfl | rfl
  · omega
  · refine ⟨be 1 t ++ (be 4 num ++ (be 1 ok ++ (be 8 (u64N oa) ++ be 8 (u64N ob)))), by simp [bytesE, useT, useNum, useOp, useN, useM], by simp [L, needN], ?_⟩
    obtain rfl : n = 0 := by simpa [useN] using hn
    obtain rfl : m = 0 := by simpa [useM] using hm
    have b1 := takeMid (i := 0) (n := 1) (l := be 1 t ++ (be 4 num ++ (be 1 ok ++ (be 8 (u64N oa) ++ be 8 (u64N ob)))) ++ l) (a := []) (b := be 1 t) (c := be 4 num ++ (be 1 ok ++ (be 8 (u64N oa) ++ (be 8 (u64N ob) ++ l)))) (by simp) rfl (L _ _)
    have b2 := takeMid (i := 1) (n := 4) (l := be 1 t ++ (be 4 num ++ (be 1 ok ++ (be 8 (u64N oa) ++ be 8 (u64N ob)))) ++ l) (a := be 1 t) (b := be 4 num) (c := be 1 ok ++ (be 8 (u64N oa) ++ (be 8 (u64N ob) ++ l))) (by simp) (L _ _) (L _ _)
    have b3 := takeMid (i := 5) (n := 1) (l := be 1 t ++ (be 4 num ++ (be 1 ok ++ (be 8 (u64N oa) ++ be 8 (u64N ob)))) ++ l) (a := be 1 t ++ be 4 num) (b := be 1 ok) (c := be 8 (u64N oa) ++ (be 8 (u64N ob) ++ l)) (by simp) (by rw [List.length_append, L, L]) (L _ _)
    have b4 := takeMid (i := 6) (n := 8) (l := be 1 t ++ (be 4 num ++ (be 1 ok ++ (be 8 (u64N oa) ++ be 8 (u64N ob)))) ++ l) (a := be 1 t ++ (be 4 num ++ be 1 ok)) (b := be 8 (u64N oa)) (c := be 8 (u64N ob) ++ l) (by simp) (by rw [List.length_append, List.length_append, L, L, L]) (L _ _)
    have b5 := takeMid (i := 14) (n := 8) (l := be 1 t ++ (be 4 num ++ (be 1 ok ++ (be 8 (u64N oa) ++ be 8 (u64N ob)))) ++ l) (a := be 1 t ++ (be 4 num ++ (be 1 ok ++ be 8 (u64N oa)))) (b := be 8 (u64N ob)) (c := l) (by simp) (by simp only [List.length_append, L]) (L _ _)
    rw [List.drop_zero] at b1
    rw [show (1 : Int).toNat = 1 from rfl, oneE, if_pos rfl, b1, b2, b3, b4, b5, a1, a2, a3, a4, a5]
    rfl
  · refine ⟨be 1 t ++ be 2 n, by simp [bytesE, useT, useNum, useOp, useN, useM], by simp [L, needN], ?_⟩
    obtain rfl : num = 0 := by simpa [useNum] using hnum
    obtain ⟨⟨rfl, rfl⟩, rfl⟩ : (ok = 0 ∧ oa = 0) ∧ ob = 0 := by simpa [useOp] using hop
    obtain rfl : m = 0 := by simpa [useM] using hm
    have b1 := takeMid (i := 0) (n := 1) (l := be 1 t ++ be 2 n ++ l) (a := []) (b := be 1 t) (c := be 2 n ++ l) (by simp) rfl (L _ _)
    have b2 := takeMid (i := 1) (n := 2) (l := be 1 t ++ be 2 n ++ l) (a := be 1 t) (b := be 2 n) (c := l) (by simp) (L _ _) (L _ _)
    rw [List.drop_zero] at b1
    rw [show (2 : Int).toNat = 2 from rfl, oneE, if_neg (by decide), if_pos rfl, b1, b2, a1, a6]
    rfl
  · refine ⟨be 2 n ++ be 1 m, by simp [bytesE, useT, useNum, useOp, useN, useM], by simp [L, needN], ?_⟩
    obtain rfl : t = 0 := by simpa [useT] using ht
    obtain rfl : num = 0 := by simpa [useNum] using hnum
    obtain ⟨⟨rfl, rfl⟩, rfl⟩ : (ok = 0 ∧ oa = 0) ∧ ob = 0 := by simpa [useOp] using hop
    have b1 := takeMid (i := 0) (n := 2) (l := be 2 n ++ be 1 m ++ l) (a := []) (b := be 2 n) (c := be 1 m ++ l) (by simp) rfl (L _ _)
    have b2 := takeMid (i := 2) (n := 1) (l := be 2 n ++ be 1 m ++ l) (a := be 2 n) (b := be 1 m) (c := l) (by simp) (L _ _) (L _ _)
    rw [List.drop_zero] at b1
    rw [show (3 : Int).toNat = 3 from rfl, oneE, if_neg (by decide), if_neg (by decide), if_pos rfl, b1, b2, a6, a7]
    rfl
  · refine ⟨[], by simp [bytesE, useT, useNum, useOp, useN, useM], by simp [needN], ?_⟩
    obtain rfl : t = 0 := by simpa [useT] using ht
    obtain rfl : num = 0 := by simpa [useNum] using hnum
    obtain ⟨⟨rfl, rfl⟩, rfl⟩ : (ok = 0 ∧ oa = 0) ∧ ob = 0 := by simpa [useOp] using hop
    obtain rfl : n = 0 := by simpa [useN] using hn
    obtain rfl : m = 0 := by simpa [useM] using hm
    rfl
  · refine ⟨be 2 n, by simp [bytesE, useT, useNum, useOp, useN, useM], by simp [L, needN], ?_⟩
    obtain rfl : t = 0 := by simpa [useT] using ht
    obtain rfl : num = 0 := by simpa [useNum] using hnum
    obtain ⟨⟨rfl, rfl⟩, rfl⟩ : (ok = 0 ∧ oa = 0) ∧ ob = 0 := by simpa [useOp] using hop
    obtain rfl : m = 0 := by simpa [useM] using hm
    have b1 := takeMid (i := 0) (n := 2) (l := be 2 n ++ l) (a := []) (b := be 2 n) (c := l) (by simp) rfl (L _ _)
    rw [List.drop_zero] at b1
    rw [show (5 : Int).toNat = 5 from rfl, oneE, if_neg (by decide), if_neg (by decide), if_neg (by decide), if_pos rfl, b1, a6]
    rfl
  · refine ⟨be 1 t ++ be 4 num, by simp [bytesE, useT, useNum, useOp, useN, useM], by simp [L, needN], ?_⟩
    obtain ⟨⟨rfl, rfl⟩, rfl⟩ : (ok = 0 ∧ oa = 0) ∧ ob = 0 := by simpa [useOp] using hop
    obtain rfl : n = 0 := by simpa [useN] using hn
    obtain rfl : m = 0 := by simpa [useM] using hm
    have b1 := takeMid (i := 0) (n := 1) (l := be 1 t ++ be 4 num ++ l) (a := []) (b := be 1 t) (c := be 4 num ++ l) (by simp) rfl (L _ _)
    have b2 := takeMid (i := 1) (n := 4) (l := be 1 t ++ be 4 num ++ l) (a := be 1 t) (b := be 4 num) (c := l) (by simp) (L _ _) (L _ _)
    rw [List.drop_zero] at b1
    rw [show (6 : Int).toNat = 6 from rfl, oneE, if_neg (by decide), if_neg (by decide), if_neg (by decide), if_neg (by decide), if_pos rfl, b1, b2, a1, a2]
    rfl

theorem decL_enc (e : En) (l : List Nat) (r : Nat) (h : encB e = true) (hr : rngE e) : decL (r + 1) (bytesE e ++ l) = e :: decL r l := by
  have hk : 0 ≤ e.k ∧ e.k ≤ 6 := by
    simp only [encB, Bool.and_eq_true, decide_eq_true_eq] at h
    exact h.1.1
  by_cases h0 : e.k = 0
  · obtain ⟨k, t, num, ok, oa, ob, n, m⟩ := e
    simp only at h0
    subst h0
    simp [encB, bareB, useT, useNum, useOp, useN, useM] at h
    obtain ⟨⟨⟨⟨⟨rfl, rfl⟩, ⟨rfl, rfl⟩, rfl⟩, rfl⟩, rfl⟩, _⟩ := h
    rfl
  · obtain ⟨b, hb1, hb2, hb3⟩ := oneE_bytes e l h (by omega) hr
    rw [hb1, List.cons_append, decL, if_neg (by omega), if_neg (by rw [List.length_append]; omega), hb3, List.drop_left' hb2]

theorem decL_all (es : List En) : ∀ r, (∀ e ∈ es, encB e = true ∧ rngE e) → es.length ≤ r → decL r (es.flatMap bytesE) = es := by
  induction es with
  | nil => intro r _ _; exact decL_nil r
  | cons e es ih =>
    intro r h hl
    obtain ⟨r, rfl⟩ : ∃ k, r = k + 1 := ⟨r - 1, by simp at hl; omega⟩
    rw [List.flatMap_cons, decL_enc e _ r (h e List.mem_cons_self).1 (h e List.mem_cons_self).2, ih r (fun x hx => h x (List.mem_cons_of_mem _ hx)) (by simpa using hl)]

theorem oneE_enc (x : Nat) (l : List Nat) (hx : ¬ (x < 1 ∨ 6 < x)) (hf : Fit 256 l) : encB (oneE x l) = true ∧ rngE (oneE x l) := by
  have h := unbe_take hf
  have p1 := h 0 1; have p2 := h 1 4; have p3 := h 5 1; have p4 := h 0 2; have p5 := h 2 1; have p6 := h 1 2
  rw [List.drop_zero] at p1 p4
  have q := wrap64_rng
  obtain rfl | rfl | rfl | rfl | rfl | rfl : x = 1 ∨ x = 2 ∨ x = 3 ∨ x = 4 ∨ x = 5 ∨ x = 6 := by omega
  · rw [oneE, if_pos rfl]
    refine ⟨?_, q _, q _⟩
    simp only [encB, bareB, goesB, useT, useNum, useOp, useN, useM, Bool.and_eq_true, decide_eq_true_eq]
    refine ⟨⟨by decide, by simp⟩, ?_⟩
    omega
  · rw [oneE, if_neg (by decide), if_pos rfl]
    refine ⟨?_, by simp [rngE]⟩
    simp only [encB, bareB, goesB, useT, useNum, useOp, useN, useM, Bool.and_eq_true, decide_eq_true_eq]
    refine ⟨⟨by decide, by simp⟩, ?_⟩
    omega
  · rw [oneE, if_neg (by decide), if_neg (by decide), if_pos rfl]
    refine ⟨?_, by simp [rngE]⟩
    simp only [encB, bareB, goesB, useT, useNum, useOp, useN, useM, Bool.and_eq_true, decide_eq_true_eq]
    refine ⟨⟨by decide, by simp⟩, ?_⟩
    omega
  · have e : oneE 4 l = ⟨4, 0, 0, 0, 0, 0, 0, 0⟩ := rfl
    rw [e]
    exact ⟨by decide, by simp [rngE]⟩
  · rw [oneE, if_neg (by decide), if_neg (by decide), if_neg (by decide), if_pos rfl]
    refine ⟨?_, by simp [rngE]⟩
    simp only [encB, bareB, goesB, useT, useNum, useOp, useN, useM, Bool.and_eq_true, decide_eq_true_eq]
    refine ⟨⟨by decide, by simp⟩, ?_⟩
    omega
  · rw [oneE, if_neg (by decide), if_neg (by decide), if_neg (by decide), if_neg (by decide), if_pos rfl]
    refine ⟨?_, by simp [rngE]⟩
    simp only [encB, bareB, goesB, useT, useNum, useOp, useN, useM, Bool.and_eq_true, decide_eq_true_eq]
    refine ⟨⟨by decide, by simp⟩, ?_⟩
    omega

theorem decL_ok (r : Nat) : ∀ l, Fit 256 l → ∀ e ∈ decL r l, encB e = true ∧ rngE e := by
  induction r with
  | zero => intro l _ e he; cases he
  | succ r ih =>
    intro l hf e he
    have hz : encB zeroE = true ∧ rngE zeroE := ⟨by decide, by simp [rngE, zeroE]⟩
    cases l with
    | nil => cases he
    | cons x l =>
      have hf' : Fit 256 l := fun y hy => hf y (List.mem_cons_of_mem _ hy)
      rw [decL] at he
      split at he
      · rcases List.mem_cons.1 he with rfl | he
        · exact hz
        · exact ih l hf' e he
      · split at he
        · obtain rfl := List.mem_singleton.1 he
          exact hz
        · rcases List.mem_cons.1 he with rfl | he
          · exact oneE_enc x l (by assumption) hf'
          · exact ih _ (fun y hy => hf' y (List.mem_of_mem_drop hy)) e he

/-! ### which entries are right -/
def numbB (t p s : Int) (e : En) : Bool :=
  if e.k = 2 then decide (1 ≤ e.n ∧ e.n ≤ 256) else if e.k = 3 then decide (0 ≤ e.n ∧ 8 * e.n < wordsC t p s) else if e.k = 5 then decide (1 ≤ e.n ∧ e.n ≤ 4096) else true
def rightE (t p s : Int) (e : En) : Bool :=
  rightC t p s && decide (1 ≤ e.k ∧ e.k ≤ 6) && bareB e && numbB t p s e && (!useT e.k || decide (0 ≤ e.t ∧ e.t < t)) && (!useNum e.k || decide (1 ≤ e.num ∧ e.num ≤ 2147483647)) && (!useOp e.k || rightB e.ok e.oa e.ob) && (!useM e.k || decide (1 ≤ e.m ∧ e.m ≤ 255))
theorem rightB_kind {k a b : Int} (h : rightB k a b = true) : 1 ≤ k ∧ k ≤ 9 := by
  simp [rightB] at h
  omega
theorem words_bd {t p s : Int} : 0 ≤ wordsC t p s ∧ wordsC t p s ≤ 8304 ∧ wordsC t p s % 8 = 0 := by
  unfold wordsC
  split
  · rename_i hr
    obtain ⟨⟨h1, h2⟩, ⟨h3, h4⟩, h5, h6⟩ := rightC_of hr
    have mb := makers_bd ⟨⟨h1, h2⟩, h3, h4⟩
    omega
  · omega
theorem right_enc {t p s : Int} {e : En} (h : rightE t p s e = true) : encB e = true := by
  have hw := @words_bd t p s
  simp only [rightE, Bool.and_eq_true] at h
  obtain ⟨⟨⟨⟨⟨⟨⟨hr, hk⟩, hb⟩, hn⟩, ht⟩, hnum⟩, hop⟩, hm⟩ := h
  obtain ⟨⟨h1, h2⟩, ⟨h3, h4⟩, h5, h6⟩ := rightC_of hr
  have hk' : 1 ≤ e.k ∧ e.k ≤ 6 := by simpa using hk
  rw [encB, hb, Bool.and_true, Bool.and_eq_true]
  refine ⟨decide_eq_true (by omega), ?_⟩
  have ho := fun h => @rightB_kind e.ok e.oa e.ob h
  obtain ⟨k, t', num, ok, oa, ob, n, m⟩ := e
  simp only at *
  obtain rfl | rfl | rfl | rfl | rfl | rfl : k = 1 ∨ k = 2 ∨ k = 3 ∨ k = 4 ∨ k = 5 ∨ k = 6 := by omega
  all_goals
    simp [bareB, useT, useNum, useOp, useN, useM, numbB] at hb hn ht hnum hop hm
    simp only [goesB, decide_eq_true_eq]
    try have ho := ho hop
    omega
end Go.Proofs.Ytpeeaapheohehaa
