/- The walks of package entry's numbers as bytes, and of the reference's. -/
import Derived.Test.YtpeeaapheohehaaEnPlain
import Derived.Test.YtpeeaapheohehaaWords
import Derived.Test.YtpeeaapheohehaaBlk
import Derived.Test.YtpeeaapheohehaaChecked
import Derived.LoopTactic
import Derived.Maps.AppendAt
import Derived.Deep.Cut
namespace Go.Proofs.Ytpeeaapheohehaa
open Go.RowKit
set_option linter.unusedVariables false
set_option linter.unusedSimpArgs false

theorem infoU8 : (Try.prog.info? 5).map (fun i => (i.zero, i.size, i.bytes)) = some (some (.int .u8 0), 1, 1) := by kernel_rfl
theorem Own.block {e : TypeId} {k : IntKind} {w : World} {base : Nat} {v : Value} {xs : List Nat} (h : Own e k w base v xs) {j : Nat} (hj : v.ownBlock = some j) : base ≤ j := by
  rcases h.2 with ⟨hv, hn⟩ | ⟨g, cap, cur, hv, hbs, rest⟩
  · rw [hv] at hj; cases hj
  · rw [hv] at hj; cases hj; exact hbs
/-- A row of the call's own that grew: no other elder block changed, and it lies where it lay, or in new memory. -/
def Grew (w : World) (v : Value) (w' : World) (v' : Value) : Prop := w.grownBy w' v.ownBlock ∧ ∀ b, v'.ownBlock = some b → v.ownBlock = some b ∨ w.heap.size ≤ b
theorem Grew.refl (w : World) (v : Value) : Grew w v w v := ⟨⟨rfl, rfl, rfl, Nat.le_refl _, fun _ _ _ => rfl⟩, fun b h => .inl h⟩
theorem Grew.step {w wr w4 : World} {v u v' : Value} {o : Obj} (h : Grew w v wr u) (hg : (wr.alloc o).grownBy w4 u.ownBlock) (hat : v'.ownBlock = u.ownBlock ∨ v'.ownBlock = some (wr.alloc o).heap.size) : Grew w v w4 v' := by
  obtain ⟨h1, h2⟩ := h
  have hs : (wr.alloc o).heap.size = wr.heap.size + 1 := by simp
  have hz := h1.size
  refine ⟨⟨hg.os.trans h1.os, hg.tape.trans h1.tape, hg.output.trans h1.output, ?_, fun k hk hne => ?_⟩, fun b hb => ?_⟩
  · have := hg.size; omega
  · rw [hg.block k (by omega) (fun e => ?_)]
    · exact (heap_alloc_old wr o (by omega)).trans (h1.block k hk hne)
    · rcases h2 k e.symm with h | h
      · exact hne h.symm
      · omega
  · rcases hat with h | h
    · exact h2 b (h ▸ hb)
    · right
      rw [h] at hb
      cases hb
      omega
theorem Grew.below {w w' : World} {v v' : Value} {base : Nat} (h : Grew w v w' v') (hv : ∀ b, v.ownBlock = some b → base ≤ b) (hb : base ≤ w.heap.size) : Below base w w' :=
  ⟨h.1.os, h.1.tape, h.1.output, h.1.size, fun k hk => h.1.block k (by omega) (fun e => by have := hv k e.symm; omega)⟩
theorem Grew.blk {T : TypeId} {w w' : World} {v v' : Value} {b : Nat} {A : Array Value} (h : Grew w v w' v') (hk : BlkT T w b A) (hn : v.ownBlock ≠ some b) : BlkT T w' b A := (h.1.block b (blkT_lt hk) (fun e => hn e.symm)).trans hk
theorem Grew.row {e : TypeId} {k : IntKind} {w w' : World} {v v' x : Value} {base : Nat} {xs : List Nat} (h : Grew w v w' v') (ho : Own e k w base x xs) (hn : ∀ b, v.ownBlock = some b → x.ownBlock ≠ some b) : Own e k w' base x xs := by
  refine ⟨ho.1, ?_⟩
  rcases ho.2 with hx | ⟨g, cap, cur, rfl, hbs, hg, rest⟩
  · exact .inl hx
  · refine .inr ⟨g, cap, cur, rfl, hbs, ?_, rest⟩
    rw [h.1.block g (Array.getElem?_eq_some_iff.1 hg).1 (fun e => hn g e.symm rfl)]
    exact hg

/-- 'append(v, src...)' onto a row of the call's own, and where it lies behind it. -/
theorem wpAppendAt {P : Program} {ops : Array Oper} {rest : List Oper} {o : Oper} {a : Act} {Q : Exit → Act → World → Prop} (hgd : o.guard = none) (s x : Operand) (t e : TypeId)
    (ho : o.op = .call { callee := .builtin .append, args := #[s, x], argTypes := #[t, t] }) (k : IntKind) (z : Value) (bytes : Nat)
    (ht : P.underlying t = some (.slice e)) (hi : (P.info? e).map (fun i => (i.zero, i.size, i.bytes)) = some (some z, 1, bytes)) (hz : z.cells.size = 1)
    (w : World) (base : Nat) (v : Value) (xs : List Nat) (hs : a.eval s = v) (hown : Own e k w base v xs)
    (ad : Addr) (m c : Nat) (ys : List Nat) (hx : a.eval x = .slice (some ad) m c) (hsrc : Seen k w (some ad) m c ys) (hm : 0 < m)
    (h63 : xs.length + m ≤ maxLen) (hbytes : (xs.length + m) * bytes ≤ 140737488355328) (hbase : base ≤ w.heap.size)
    (h : ∀ v' w', Own e k w' base v' (xs ++ ys) → w.grownBy w' v.ownBlock → (v'.ownBlock = v.ownBlock ∨ v'.ownBlock = some w.heap.size) → wpList P ops Q rest (a.put o.dst v') w') : wpList P ops Q (o :: rest) a w := by
  obtain ⟨i0, hi, hz0, hz1, hz2⟩ := info_parts hi
  obtain ⟨h1, h2, h3, h4⟩ := hsrc
  refine wpList_append_own_at w hgd s x t ho base e i0 z 1 bytes ht hi hz0 hz1 hz2 hz (by omega) v xs.length _ hs hown ad m c (ys.map fun n : Nat => Value.int k (n : Int)) hx (by simpa using h1) ?_ ?_ h63 hbytes hbase ?_
  · intro j u hu
    rcases h4 with ⟨rfl, _⟩ | ⟨b, off, ha, hc⟩
    · omega
    · cases ha
      have hj : j < m := by
        rcases Nat.lt_or_ge j m with hj | hj
        · exact hj
        · rw [List.getElem?_eq_none (by simp; omega)] at hu; cases hu
      have hadd : (⟨b, off, none⟩ : Addr).add j = ⟨b, off + j, none⟩ := by unfold Addr.add; split <;> simp_all
      rw [hadd, hc j hj]
      rw [List.getElem?_map] at hu
      cases hy : ys[j]? with
      | none => rw [hy] at hu; cases hu
      | some y => rw [hy] at hu; simpa using hu
  · intro u hu
    obtain ⟨n, _, rfl⟩ := List.mem_map.1 hu
    rfl
  · intro v' w' hw hg _ hat
    refine h v' w' ?_ hg hat
    unfold Own
    rw [List.length_append, h1, List.map_append]
    exact hw

theorem byteAt (n : Int) (j : Nat) (h : j < 8) : n / 2 ^ (8 * j) % 256 = ((u64N n / 256 ^ j % 256 : Nat) : Int) := by
  unfold u64N
  obtain rfl | rfl | rfl | rfl | rfl | rfl | rfl | rfl : j = 0 ∨ j = 1 ∨ j = 2 ∨ j = 3 ∨ j = 4 ∨ j = 5 ∨ j = 6 ∨ j = 7 := by omega
  all_goals
    simp only [Nat.reduceMul, Nat.reducePow, Int.reducePow]
    omega
theorem be_step (s j : Nat) (N : Nat) (h : j < s) : be (s - j) (N / 256 ^ j) = be (s - (j + 1)) (N / 256 ^ (j + 1)) ++ [N / 256 ^ j % 256] := by
  rw [show s - j = (s - (j + 1)) + 1 by omega, be, Nat.div_div_eq_div_mul, Nat.pow_succ]

set_option maxRecDepth 100000 in
set_option maxHeartbeats 3200000 in
theorem enPutYes (n : Int) (sz : Nat) (w : World) (base : Nat) (v : Value) (xs : List Nat) (hs : sz = 1 ∨ sz = 2 ∨ sz = 4 ∨ sz = 8) (hf : sz = 8 ∨ (0 ≤ n ∧ n < ((256 ^ sz : Nat) : Int)))
    (ho : Own 5 .u8 w base v xs) (hx : xs.length ≤ 1000) (hb : base ≤ w.heap.size) :
    Calls Try.prog 72 #[v, .int .i64 n, .int .i64 sz] w fun e w' => ∃ v', e = .returned (.tuple #[v', .bool true]) ∧ Own 5 .u8 w' base v' (xs ++ be sz (u64N n)) ∧ Grew w v w' v' := by
  have BA := hidAll fun j => hidAll fun (h : j < 8) => byteAt n j h
  have HO := hid ho
  have hX := hid hx
  clear ho hx
  rcases hs with rfl | rfl | rfl | rfl
  · have g0 : (0 : Int) ≤ n := by omega
    have g1 : (n / 256 != 0) = false := by simp only [Nat.reducePow] at hf; rw [bne_eq_false_iff_eq]; omega
    clear hf
    have BS := hidAll fun j => hidAll fun (h : j < 1) => be_step 1 j (u64N n) h
    rw [show ((1 : Nat) : Int) = 1 from rfl]
    go_enter Try.func72, Try.ntmps72
    go_wp2_with fail
    go_loopw [0, 8] (fun u i wr => ∃ k : Nat, k ≤ 1 ∧ i = .int .i64 ((k : Int) - 1) ∧ Own 5 .u8 wr base u (xs ++ be (1 - k) (u64N n / 256 ^ k)) ∧ Grew w v wr u) (fun _ i _ => (intOf i + 1).toNat)
    case atStart => exact ⟨1, by omega, rfl, by rw [show 1 - 1 = 0 from rfl, be, List.append_nil]; exact HO.out, Grew.refl _ _⟩
    case round =>
      obtain ⟨k, hk, rfl, ho, hB⟩ := hrel
      obtain ⟨a1, c1, hv⟩ := ho.anyForm
      subst hv
      generalize hlen : (xs ++ be (1 - k) (u64N n / 256 ^ k)).length = l1 at *
      by_cases h0 : k = 0
      · subst h0
        have ho' : Own 5 .u8 wr base (.slice a1 l1 c1) (xs ++ be 1 (u64N n)) := by rw [Nat.pow_zero, Nat.div_one] at ho; exact ho
        clear ho
        go_wp2_with fail
        go_ret2
        exact ⟨_, rfl, ho', hB⟩
      · obtain ⟨j, rfl⟩ : ∃ j, k = j + 1 := ⟨k - 1, by omega⟩
        have hj : j < 8 := by omega
        have hb1 := hid ((BS.out j).out (by omega))
        have ba := hid ((BA.out j).out hj)
        rw [show ((j + 1 : Nat) : Int) - 1 = (j : Int) by omega]
        have hlx : (xs ++ be (1 - (j + 1)) (u64N n / 256 ^ (j + 1))).length ≤ 1008 := by rw [List.length_append, be_length]; have := hX.out; omega
        go_wp2_with (at_builtin; refine wpAppendAt rfl (.tmp 28) (.tmp 34) 33 5 rfl .u8 (.int .u8 0) 1 Try.underlying33 infoU8 rfl _ base _ (xs ++ be (1 - (j + 1)) (u64N n / 256 ^ (j + 1))) rfl (ho.kept ((Below.refl _ _).alloc (Nat.le_refl _) _) (Nat.le_refl _)) _ _ _ [u64N n / 256 ^ j % 256] rfl (Seen.builtAt .u8 _ [u64N n / 256 ^ j % 256] #[.int .u8 (n / 2 ^ (8 * j) % 256)] _ 1 _ (by simp) rfl (by decide) (by rw [ba.out]; rfl)) (by decide) (by rw [hlen]; simp only [maxLen]; omega) (by rw [hlen]; omega) (by simp; have := hB.1.size; omega) ?_; intro v' w4 hown hgrow hat)
        have hB1 : Grew w v w4 v' := hB.step hgrow hat
        have hown1 : Own 5 .u8 w4 base v' (xs ++ be (1 - j) (u64N n / 256 ^ j)) := by rw [hb1.out, ← List.append_assoc]; exact hown
        clear hown hgrow
        go_roundw
        case rel => exact ⟨j, by omega, by go_num, hown1, hB1⟩
        case measure => simp [intOf]
  · have g0 : (0 : Int) ≤ n := by omega
    have g1 : (n / 65536 != 0) = false := by simp only [Nat.reducePow] at hf; rw [bne_eq_false_iff_eq]; omega
    clear hf
    have BS := hidAll fun j => hidAll fun (h : j < 2) => be_step 2 j (u64N n) h
    rw [show ((2 : Nat) : Int) = 2 from rfl]
    go_enter Try.func72, Try.ntmps72
    go_wp2_with fail
    go_loopw [0, 8] (fun u i wr => ∃ k : Nat, k ≤ 2 ∧ i = .int .i64 ((k : Int) - 1) ∧ Own 5 .u8 wr base u (xs ++ be (2 - k) (u64N n / 256 ^ k)) ∧ Grew w v wr u) (fun _ i _ => (intOf i + 1).toNat)
    case atStart => exact ⟨2, by omega, rfl, by rw [show 2 - 2 = 0 from rfl, be, List.append_nil]; exact HO.out, Grew.refl _ _⟩
    case round =>
      obtain ⟨k, hk, rfl, ho, hB⟩ := hrel
      obtain ⟨a1, c1, hv⟩ := ho.anyForm
      subst hv
      generalize hlen : (xs ++ be (2 - k) (u64N n / 256 ^ k)).length = l1 at *
      by_cases h0 : k = 0
      · subst h0
        have ho' : Own 5 .u8 wr base (.slice a1 l1 c1) (xs ++ be 2 (u64N n)) := by rw [Nat.pow_zero, Nat.div_one] at ho; exact ho
        clear ho
        go_wp2_with fail
        go_ret2
        exact ⟨_, rfl, ho', hB⟩
      · obtain ⟨j, rfl⟩ : ∃ j, k = j + 1 := ⟨k - 1, by omega⟩
        have hj : j < 8 := by omega
        have hb1 := hid ((BS.out j).out (by omega))
        have ba := hid ((BA.out j).out hj)
        rw [show ((j + 1 : Nat) : Int) - 1 = (j : Int) by omega]
        have hlx : (xs ++ be (2 - (j + 1)) (u64N n / 256 ^ (j + 1))).length ≤ 1008 := by rw [List.length_append, be_length]; have := hX.out; omega
        go_wp2_with (at_builtin; refine wpAppendAt rfl (.tmp 28) (.tmp 34) 33 5 rfl .u8 (.int .u8 0) 1 Try.underlying33 infoU8 rfl _ base _ (xs ++ be (2 - (j + 1)) (u64N n / 256 ^ (j + 1))) rfl (ho.kept ((Below.refl _ _).alloc (Nat.le_refl _) _) (Nat.le_refl _)) _ _ _ [u64N n / 256 ^ j % 256] rfl (Seen.builtAt .u8 _ [u64N n / 256 ^ j % 256] #[.int .u8 (n / 2 ^ (8 * j) % 256)] _ 1 _ (by simp) rfl (by decide) (by rw [ba.out]; rfl)) (by decide) (by rw [hlen]; simp only [maxLen]; omega) (by rw [hlen]; omega) (by simp; have := hB.1.size; omega) ?_; intro v' w4 hown hgrow hat)
        have hB1 : Grew w v w4 v' := hB.step hgrow hat
        have hown1 : Own 5 .u8 w4 base v' (xs ++ be (2 - j) (u64N n / 256 ^ j)) := by rw [hb1.out, ← List.append_assoc]; exact hown
        clear hown hgrow
        go_roundw
        case rel => exact ⟨j, by omega, by go_num, hown1, hB1⟩
        case measure => simp [intOf]
  · have g0 : (0 : Int) ≤ n := by omega
    have g1 : (n / 4294967296 != 0) = false := by simp only [Nat.reducePow] at hf; rw [bne_eq_false_iff_eq]; omega
    clear hf
    have BS := hidAll fun j => hidAll fun (h : j < 4) => be_step 4 j (u64N n) h
    rw [show ((4 : Nat) : Int) = 4 from rfl]
    go_enter Try.func72, Try.ntmps72
    go_wp2_with fail
    go_loopw [0, 8] (fun u i wr => ∃ k : Nat, k ≤ 4 ∧ i = .int .i64 ((k : Int) - 1) ∧ Own 5 .u8 wr base u (xs ++ be (4 - k) (u64N n / 256 ^ k)) ∧ Grew w v wr u) (fun _ i _ => (intOf i + 1).toNat)
    case atStart => exact ⟨4, by omega, rfl, by rw [show 4 - 4 = 0 from rfl, be, List.append_nil]; exact HO.out, Grew.refl _ _⟩
    case round =>
      obtain ⟨k, hk, rfl, ho, hB⟩ := hrel
      obtain ⟨a1, c1, hv⟩ := ho.anyForm
      subst hv
      generalize hlen : (xs ++ be (4 - k) (u64N n / 256 ^ k)).length = l1 at *
      by_cases h0 : k = 0
      · subst h0
        have ho' : Own 5 .u8 wr base (.slice a1 l1 c1) (xs ++ be 4 (u64N n)) := by rw [Nat.pow_zero, Nat.div_one] at ho; exact ho
        clear ho
        go_wp2_with fail
        go_ret2
        exact ⟨_, rfl, ho', hB⟩
      · obtain ⟨j, rfl⟩ : ∃ j, k = j + 1 := ⟨k - 1, by omega⟩
        have hj : j < 8 := by omega
        have hb1 := hid ((BS.out j).out (by omega))
        have ba := hid ((BA.out j).out hj)
        rw [show ((j + 1 : Nat) : Int) - 1 = (j : Int) by omega]
        have hlx : (xs ++ be (4 - (j + 1)) (u64N n / 256 ^ (j + 1))).length ≤ 1008 := by rw [List.length_append, be_length]; have := hX.out; omega
        go_wp2_with (at_builtin; refine wpAppendAt rfl (.tmp 28) (.tmp 34) 33 5 rfl .u8 (.int .u8 0) 1 Try.underlying33 infoU8 rfl _ base _ (xs ++ be (4 - (j + 1)) (u64N n / 256 ^ (j + 1))) rfl (ho.kept ((Below.refl _ _).alloc (Nat.le_refl _) _) (Nat.le_refl _)) _ _ _ [u64N n / 256 ^ j % 256] rfl (Seen.builtAt .u8 _ [u64N n / 256 ^ j % 256] #[.int .u8 (n / 2 ^ (8 * j) % 256)] _ 1 _ (by simp) rfl (by decide) (by rw [ba.out]; rfl)) (by decide) (by rw [hlen]; simp only [maxLen]; omega) (by rw [hlen]; omega) (by simp; have := hB.1.size; omega) ?_; intro v' w4 hown hgrow hat)
        have hB1 : Grew w v w4 v' := hB.step hgrow hat
        have hown1 : Own 5 .u8 w4 base v' (xs ++ be (4 - j) (u64N n / 256 ^ j)) := by rw [hb1.out, ← List.append_assoc]; exact hown
        clear hown hgrow
        go_roundw
        case rel => exact ⟨j, by omega, by go_num, hown1, hB1⟩
        case measure => simp [intOf]
  · clear hf
    have BS := hidAll fun j => hidAll fun (h : j < 8) => be_step 8 j (u64N n) h
    rw [show ((8 : Nat) : Int) = 8 from rfl]
    go_enter Try.func72, Try.ntmps72
    go_wp2_with fail
    go_loopw [0, 8] (fun u i wr => ∃ k : Nat, k ≤ 8 ∧ i = .int .i64 ((k : Int) - 1) ∧ Own 5 .u8 wr base u (xs ++ be (8 - k) (u64N n / 256 ^ k)) ∧ Grew w v wr u) (fun _ i _ => (intOf i + 1).toNat)
    case atStart => exact ⟨8, by omega, rfl, by rw [show 8 - 8 = 0 from rfl, be, List.append_nil]; exact HO.out, Grew.refl _ _⟩
    case round =>
      obtain ⟨k, hk, rfl, ho, hB⟩ := hrel
      obtain ⟨a1, c1, hv⟩ := ho.anyForm
      subst hv
      generalize hlen : (xs ++ be (8 - k) (u64N n / 256 ^ k)).length = l1 at *
      by_cases h0 : k = 0
      · subst h0
        have ho' : Own 5 .u8 wr base (.slice a1 l1 c1) (xs ++ be 8 (u64N n)) := by rw [Nat.pow_zero, Nat.div_one] at ho; exact ho
        clear ho
        go_wp2_with fail
        go_ret2
        exact ⟨_, rfl, ho', hB⟩
      · obtain ⟨j, rfl⟩ : ∃ j, k = j + 1 := ⟨k - 1, by omega⟩
        have hj : j < 8 := by omega
        have hb1 := hid ((BS.out j).out (by omega))
        have ba := hid ((BA.out j).out hj)
        rw [show ((j + 1 : Nat) : Int) - 1 = (j : Int) by omega]
        have hlx : (xs ++ be (8 - (j + 1)) (u64N n / 256 ^ (j + 1))).length ≤ 1008 := by rw [List.length_append, be_length]; have := hX.out; omega
        go_wp2_with (at_builtin; refine wpAppendAt rfl (.tmp 28) (.tmp 34) 33 5 rfl .u8 (.int .u8 0) 1 Try.underlying33 infoU8 rfl _ base _ (xs ++ be (8 - (j + 1)) (u64N n / 256 ^ (j + 1))) rfl (ho.kept ((Below.refl _ _).alloc (Nat.le_refl _) _) (Nat.le_refl _)) _ _ _ [u64N n / 256 ^ j % 256] rfl (Seen.builtAt .u8 _ [u64N n / 256 ^ j % 256] #[.int .u8 (n / 2 ^ (8 * j) % 256)] _ 1 _ (by simp) rfl (by decide) (by rw [ba.out]; rfl)) (by decide) (by rw [hlen]; simp only [maxLen]; omega) (by rw [hlen]; omega) (by simp; have := hB.1.size; omega) ?_; intro v' w4 hown hgrow hat)
        have hB1 : Grew w v w4 v' := hB.step hgrow hat
        have hown1 : Own 5 .u8 w4 base v' (xs ++ be (8 - j) (u64N n / 256 ^ j)) := by rw [hb1.out, ← List.append_assoc]; exact hown
        clear hown hgrow
        go_roundw
        case rel => exact ⟨j, by omega, by go_num, hown1, hB1⟩
        case measure => simp [intOf]

set_option maxHeartbeats 1600000 in
theorem enPutNo (n : Int) (sz : Nat) (w : World) (v : Value) (hs : sz = 1 ∨ sz = 2 ∨ sz = 4) (hf : ¬ (0 ≤ n ∧ n < ((256 ^ sz : Nat) : Int))) :
    Calls Try.prog 72 #[v, .int .i64 n, .int .i64 sz] w fun e w' => e = .returned (.tuple #[.slice none 0 0, .bool false]) ∧ w = w' := by
  by_cases h0 : n < 0
  · clear hf
    rcases hs with rfl | rfl | rfl
    all_goals
      go_enter Try.func72, Try.ntmps72
      go_wp2_with fail
      go_ret2
      exact ⟨rfl, rfl⟩
  · have g0 : (0 : Int) ≤ n := by omega
    clear h0
    rcases hs with rfl | rfl | rfl
    · have g1 : (n / 256 != 0) = true := by simp only [Nat.reducePow] at hf; rw [bne_iff_ne]; omega
      clear hf
      go_enter Try.func72, Try.ntmps72
      go_wp2_with fail
      go_ret2
      exact ⟨rfl, rfl⟩
    · have g1 : (n / 65536 != 0) = true := by simp only [Nat.reducePow] at hf; rw [bne_iff_ne]; omega
      clear hf
      go_enter Try.func72, Try.ntmps72
      go_wp2_with fail
      go_ret2
      exact ⟨rfl, rfl⟩
    · have g1 : (n / 4294967296 != 0) = true := by simp only [Nat.reducePow] at hf; rw [bne_iff_ne]; omega
      clear hf
      go_enter Try.func72, Try.ntmps72
      go_wp2_with fail
      go_ret2
      exact ⟨rfl, rfl⟩
end Go.Proofs.Ytpeeaapheohehaa
