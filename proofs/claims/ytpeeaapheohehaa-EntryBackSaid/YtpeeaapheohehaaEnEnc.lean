/- The walk of package entry's Encode. -/
import Derived.Test.YtpeeaapheohehaaEnBare
import Derived.Deep.RegionHeld3
namespace Go.Proofs.Ytpeeaapheohehaa
open Go.RowKit
set_option linter.unusedVariables false
set_option linter.unusedSimpArgs false

def wdN (f : Nat) : Nat := if f = 0 then 1 else if f = 1 then 4 else if f = 2 then 1 else if f = 3 then 8 else if f = 4 then 8 else if f = 5 then 2 else 1
def fitF (fv : Nat → Int) (f : Nat) : Prop := wdN f = 8 ∨ (0 ≤ fv f ∧ fv f < ((256 ^ wdN f : Nat) : Int))
def bytesF (fv : Nat → Int) (fs : List Nat) : List Nat := fs.flatMap fun f => be (wdN f) (u64N (fv f))
theorem bytesF_snoc (fv : Nat → Int) (fs : List Nat) (f : Nat) : bytesF fv (fs ++ [f]) = bytesF fv fs ++ be (wdN f) (u64N (fv f)) := by simp [bytesF]
theorem u64N_nat {n : Int} (h0 : 0 ≤ n) (h1 : n < 18446744073709551616) : u64N n = n.toNat := by unfold u64N; omega
theorem enc_iff (e : En) (hk : 1 ≤ e.k ∧ e.k ≤ 6) (hb : bareB e = true) : encB e = true ↔ ∀ f ∈ usesL e.k, fitF e.fv f := by
  obtain ⟨k, t, num, ok, oa, ob, n, m⟩ := e
  simp only at hk
  obtain rfl | rfl | rfl | rfl | rfl | rfl : k = 1 ∨ k = 2 ∨ k = 3 ∨ k = 4 ∨ k = 5 ∨ k = 6 := by omega
  all_goals
    rw [encB, hb]
    simp [bareB, useT, useNum, useOp, useN, useM] at hb
    simp [goesB, usesL, fitF, wdN, En.fv]
    omega
theorem bytesE_uses (e : En) (hb : bareB e = true) (h : encB e = true) : bytesE e = e.k.toNat :: bytesF e.fv (usesL e.k) := by
  obtain ⟨k, t, num, ok, oa, ob, n, m⟩ := e
  simp only [encB, goesB, Bool.and_eq_true, decide_eq_true_eq] at h
  obtain ⟨⟨hk, _⟩, ⟨t0, t1⟩, ⟨num0, num1⟩, ⟨ok0, ok1⟩, ⟨n0, n1⟩, ⟨m0, m1⟩⟩ := h
  have a1 := u64N_nat t0 (by omega)
  have a2 := u64N_nat num0 (by omega)
  have a3 := u64N_nat ok0 (by omega)
  have a4 := u64N_nat n0 (by omega)
  have a5 := u64N_nat m0 (by omega)
  obtain rfl | rfl | rfl | rfl | rfl | rfl | rfl := kind6 k hk
  all_goals simp [bytesE, bytesF, usesL, wdN, En.fv, useT, useNum, useOp, useN, useM, a1, a2, a3, a4, a5]

theorem Own.down {e : TypeId} {k : IntKind} {w : World} {base base' : Nat} {v : Value} {xs : List Nat} (h : Own e k w base v xs) (hb : base' ≤ base) : Own e k w base' v xs := by
  refine ⟨h.1, ?_⟩
  rcases h.2 with hn | ⟨g, cap, cur, hv, hbs, rest⟩
  · exact .inl hn
  · exact .inr ⟨g, cap, cur, hv, by omega, rest⟩
theorem wideAt0 (w : World) : (Instr.index 73 (.agg #[.int .i64 1, .int .i64 4, .int .i64 1, .int .i64 8, .int .i64 8, .int .i64 2, .int .i64 1]) (.int .i64 0)).run Try.prog w = .ok (.int .i64 1) w := by kernel_rfl
theorem wideAt1 (w : World) : (Instr.index 73 (.agg #[.int .i64 1, .int .i64 4, .int .i64 1, .int .i64 8, .int .i64 8, .int .i64 2, .int .i64 1]) (.int .i64 1)).run Try.prog w = .ok (.int .i64 4) w := by kernel_rfl
theorem wideAt2 (w : World) : (Instr.index 73 (.agg #[.int .i64 1, .int .i64 4, .int .i64 1, .int .i64 8, .int .i64 8, .int .i64 2, .int .i64 1]) (.int .i64 2)).run Try.prog w = .ok (.int .i64 1) w := by kernel_rfl
theorem wideAt3 (w : World) : (Instr.index 73 (.agg #[.int .i64 1, .int .i64 4, .int .i64 1, .int .i64 8, .int .i64 8, .int .i64 2, .int .i64 1]) (.int .i64 3)).run Try.prog w = .ok (.int .i64 8) w := by kernel_rfl
theorem wideAt4 (w : World) : (Instr.index 73 (.agg #[.int .i64 1, .int .i64 4, .int .i64 1, .int .i64 8, .int .i64 8, .int .i64 2, .int .i64 1]) (.int .i64 4)).run Try.prog w = .ok (.int .i64 8) w := by kernel_rfl
theorem wideAt5 (w : World) : (Instr.index 73 (.agg #[.int .i64 1, .int .i64 4, .int .i64 1, .int .i64 8, .int .i64 8, .int .i64 2, .int .i64 1]) (.int .i64 5)).run Try.prog w = .ok (.int .i64 2) w := by kernel_rfl
theorem wideAt6 (w : World) : (Instr.index 73 (.agg #[.int .i64 1, .int .i64 4, .int .i64 1, .int .i64 8, .int .i64 8, .int .i64 2, .int .i64 1]) (.int .i64 6)).run Try.prog w = .ok (.int .i64 1) w := by kernel_rfl
theorem bytes_few (fv : Nat → Int) (fs : List Nat) (x : Nat) (h : fs.length ≤ 5) : (x :: bytesF fv fs).length ≤ 1000 := by
  have key : ∀ l : List Nat, (bytesF fv l).length ≤ l.length * 8 := by
    intro l
    induction l with
    | nil => exact Nat.le_refl _
    | cons f l ih =>
      have h1 : wdN f ≤ 8 := by unfold wdN; split; decide; split; decide; split; decide; split; decide; split; decide; split; decide; decide
      rw [bytesF, List.flatMap_cons, List.length_append, be_length]
      rw [bytesF] at ih
      simp only [List.length_cons]
      omega
  have := key fs
  simp only [List.length_cons]
  omega

/-- What an encoding answers. -/
def EncPost (w : World) (e : En) (en : Ending) (w' : World) : Prop :=
  (encB e = true ∧ ∃ v, en = .returned (.tuple #[v, .bool true]) ∧ Own 5 .u8 w' w.heap.size v (bytesE e) ∧ Below w.heap.size w w') ∨
  (encB e = false ∧ en = .returned (.tuple #[.slice none 0 0, .bool false]) ∧ Below w.heap.size w w')

set_option maxRecDepth 100000 in
set_option maxHeartbeats 3200000 in
theorem enEncode0 (w : World) : Calls Try.prog 19 #[.agg #[.int .i64 0, .int .i64 0, .int .i64 0, .int .i64 0, .int .i64 0, .int .i64 0, .int .i64 0, .int .i64 0]] w (EncPost w zeroE) := by
  go_enter Try.func19, Try.ntmps19
  go_wp2_with fail
  go_ret2
  have hz : (w.alloc (.cells #[.int .i64 0, .int .i64 0, .int .i64 0, .int .i64 0, .int .i64 0, .int .i64 0, .int .i64 0, .int .i64 0] 32)).heap.size = w.heap.size + 1 := by simp
  have h := Own.built 5 .u8 (w.alloc (.cells #[.int .i64 0, .int .i64 0, .int .i64 0, .int .i64 0, .int .i64 0, .int .i64 0, .int .i64 0, .int .i64 0] 32)) w.heap.size [0] #[.int .u8 0] 1 (by simp) rfl (by decide) rfl
  rw [hz] at h
  exact .inl ⟨by decide, .slice (some ⟨w.heap.size + 1, 0, none⟩) 1 1, rfl, h, bel⟩

set_option maxRecDepth 100000 in
set_option maxHeartbeats 3200000 in
theorem enEncodeNone (t num ok oa ob n m : Int) (w : World) (h : ¬ (t = 0 ∧ num = 0 ∧ ok = 0 ∧ oa = 0 ∧ ob = 0 ∧ n = 0 ∧ m = 0)) : Calls Try.prog 19 #[.agg #[.int .i64 0, .int .i64 t, .int .i64 num, .int .i64 ok, .int .i64 oa, .int .i64 ob, .int .i64 n, .int .i64 m]] w (EncPost w ⟨0, t, num, ok, oa, ob, n, m⟩) := by
  have H := hid h
  clear h
  go_enter Try.func19, Try.ntmps19
  go_wp2_with fail
  · exact absurd ⟨by assumption, by assumption, by assumption, by assumption, by assumption, by assumption, by assumption⟩ H.out
  all_goals
    refine (enThere 0 _).mono ?_
    rw [show (decide ((1 : Int) ≤ 0 ∧ (0 : Int) ≤ 6)) = false from rfl]
    rintro e _ ⟨rfl, rfl⟩
    go_wp2_with fail
    go_ret2
    refine .inr ⟨?_, rfl, bel⟩
    have h := H.out
    simp only [encB, bareB, useT, useNum, useOp, useN, useM]
    simp
    intros
    exact absurd ⟨by assumption, by assumption, by assumption, by assumption, by assumption, by assumption, by assumption⟩ h

set_option maxRecDepth 100000 in
set_option maxHeartbeats 3200000 in
theorem enEncodeFar (k t num ok oa ob n m : Int) (w : World) (h : ¬ (1 ≤ k ∧ k ≤ 6)) (h0 : k ≠ 0) : Calls Try.prog 19 #[.agg #[.int .i64 k, .int .i64 t, .int .i64 num, .int .i64 ok, .int .i64 oa, .int .i64 ob, .int .i64 n, .int .i64 m]] w (EncPost w ⟨k, t, num, ok, oa, ob, n, m⟩) := by
  have E := hid (show encB ⟨k, t, num, ok, oa, ob, n, m⟩ = false by rw [encB, decide_eq_false (by simp only; omega)]; rfl)
  have TH := hidAll fun w => enThere k w
  rw [decide_eq_false h] at TH
  have k0 := beq_eq_false_iff_ne.2 h0
  clear h h0
  go_enter Try.func19, Try.ntmps19
  go_wp2_with fail
  refine (TH.out _).mono ?_
  rintro e _ ⟨rfl, rfl⟩
  go_wp2_with fail
  go_ret2
  exact .inr ⟨E.out, rfl, bel⟩

set_option maxRecDepth 100000 in
set_option maxHeartbeats 3200000 in
theorem enEncodeBad (k t num ok oa ob n m : Int) (w : World) (h : 1 ≤ k ∧ k ≤ 6) (hb : bareB ⟨k, t, num, ok, oa, ob, n, m⟩ = false) : Calls Try.prog 19 #[.agg #[.int .i64 k, .int .i64 t, .int .i64 num, .int .i64 ok, .int .i64 oa, .int .i64 ob, .int .i64 n, .int .i64 m]] w (EncPost w ⟨k, t, num, ok, oa, ob, n, m⟩) := by
  have E := hid (show encB ⟨k, t, num, ok, oa, ob, n, m⟩ = false by rw [encB, hb, Bool.and_false]; rfl)
  have TH := hidAll fun w => enThere k w
  rw [decide_eq_true h] at TH
  have BR := hidAll fun w => enBare k t num ok oa ob n m w
  rw [hb] at BR
  have k0 := beq_eq_false_iff_ne.2 (show k ≠ 0 by omega)
  clear h hb
  go_enter Try.func19, Try.ntmps19
  go_wp2_with fail
  refine (TH.out _).mono ?_
  rintro e _ ⟨rfl, rfl⟩
  go_wp2_with fail
  refine (BR.out _).mono ?_
  rintro e w1 ⟨rfl, hb1⟩
  go_wp2_with fail
  go_ret2
  exact .inr ⟨E.out, rfl, bel⟩

set_option maxRecDepth 100000 in
set_option maxHeartbeats 6400000 in
theorem enEncodeSome (k t num ok oa ob n m : Int) (w : World) (h : 1 ≤ k ∧ k ≤ 6) (hb : bareB ⟨k, t, num, ok, oa, ob, n, m⟩ = true) : Calls Try.prog 19 #[.agg #[.int .i64 k, .int .i64 t, .int .i64 num, .int .i64 ok, .int .i64 oa, .int .i64 ob, .int .i64 n, .int .i64 m]] w (EncPost w ⟨k, t, num, ok, oa, ob, n, m⟩) := by
  have EI := hid (enc_iff ⟨k, t, num, ok, oa, ob, n, m⟩ h hb)
  have EB := hid (bytesE_uses ⟨k, t, num, ok, oa, ob, n, m⟩ hb)
  have TH := hidAll fun w => enThere k w
  rw [decide_eq_true h] at TH
  have BR := hidAll fun w => enBare k t num ok oa ob n m w
  rw [hb] at BR
  have EV := hidAll fun w => enValues ⟨k, t, num, ok, oa, ob, n, m⟩ w
  have UL := hid (usesL_lt k)
  have LN := usesL_len k
  have FV := hid (show A7 (En.fv ⟨k, t, num, ok, oa, ob, n, m⟩) = #[.int .i64 t, .int .i64 num, .int .i64 ok, .int .i64 oa, .int .i64 ob, .int .i64 n, .int .i64 m] from rfl)
  have k0 := beq_eq_false_iff_ne.2 (show k ≠ 0 by omega)
  clear hb
  have FL := hidAll fun w => enFields k w
  unfold EncPost
  generalize encB ⟨k, t, num, ok, oa, ob, n, m⟩ = eb at EI EB ⊢
  generalize bytesE ⟨k, t, num, ok, oa, ob, n, m⟩ = eby at EB ⊢
  simp only at EI EB
  generalize En.fv ⟨k, t, num, ok, oa, ob, n, m⟩ = fv at EI EB FV
  generalize usesL k = fs at UL FL LN EI EB
  go_enter Try.func19, Try.ntmps19
  go_wp2_with fail
  refine (TH.out _).mono ?_
  rintro e _ ⟨rfl, rfl⟩
  go_wp2_with fail
  refine (BR.out _).mono ?_
  rintro e w1 ⟨rfl, hb1⟩
  have hk1 := blkT_call hb1 (blkT_new (W := w) (T := 32) rfl)
  have z1 : w.heap.size < w1.heap.size := blkT_lt hk1
  have hB1 : Below w.heap.size w w1 := bel
  clear hb1
  have c0 : w1.cell? ⟨w.heap.size, 0, none⟩ = some (.int .i64 k) := blkT_cell hk1 rfl
  have c1 : w1.cell? ⟨w.heap.size, 1, none⟩ = some (.int .i64 t) := blkT_cell hk1 rfl
  have c2 : w1.cell? ⟨w.heap.size, 2, none⟩ = some (.int .i64 num) := blkT_cell hk1 rfl
  have c3 : w1.cell? ⟨w.heap.size, 3, none⟩ = some (.int .i64 ok) := blkT_cell hk1 rfl
  have c4 : w1.cell? ⟨w.heap.size, 4, none⟩ = some (.int .i64 oa) := blkT_cell hk1 rfl
  have c5 : w1.cell? ⟨w.heap.size, 5, none⟩ = some (.int .i64 ob) := blkT_cell hk1 rfl
  have c6 : w1.cell? ⟨w.heap.size, 6, none⟩ = some (.int .i64 n) := blkT_cell hk1 rfl
  have c7 : w1.cell? ⟨w.heap.size, 7, none⟩ = some (.int .i64 m) := blkT_cell hk1 rfl
  go_wp2_with fail
  refine (EV.out _).mono ?_
  rintro e w2 ⟨rfl, hb2⟩
  have hr1 : Own 5 .u8 (w1.alloc (.cells #[.int .u8 k] 5)) (w.heap.size + 1) (.slice (some ⟨w1.heap.size, 0, none⟩) 1 1) [k.toNat] := Own.built 5 .u8 w1 (w.heap.size + 1) [k.toNat] #[.int .u8 k] 1 z1 rfl (by decide) (by simp; omega)
  have hr2 := hr1.kept hb2 (Nat.le_refl _)
  have hk2 := blkT_call hb2 (blkT_old (o := .cells #[.int .u8 k] 5) hk1)
  have z2 : w1.heap.size < w2.heap.size := by have := hb2.size; simp at this; omega
  have z2' : w.heap.size < w2.heap.size := by omega
  have hB2 : Below w.heap.size w w2 := (hB1.alloc (by omega) _).trans (hb2.mono (by simp; omega))
  have c0 : w2.cell? ⟨w.heap.size, 0, none⟩ = some (.int .i64 k) := blkT_cell hk2 rfl
  clear hb2 hr1 hk1 c1 c2 c3 c4 c5 c6 c7
  go_wp2_with fail
  refine (FL.out _).mono ?_
  rintro e w3 ⟨v3, rfl, ho3, hb3⟩
  obtain ⟨a3, cap3, hv⟩ := ho3.anyForm
  subst hv
  have hn : (w2.alloc (.cells #[.int .i64 t, .int .i64 num, .int .i64 ok, .int .i64 oa, .int .i64 ob, .int .i64 n, .int .i64 m] 68)).heap.size = w2.heap.size + 1 := by simp
  have hg3 : BlkT 68 w3 w2.heap.size (A7 fv) := by rw [FV.out]; exact blkT_call hb3 (blkT_new rfl)
  have hr3 : Own 5 .u8 w3 (w.heap.size + 1) (.slice (some ⟨w1.heap.size, 0, none⟩) 1 1) [k.toNat] := (hr2.kept ((Below.refl _ _).alloc (Nat.le_refl _) _) (Nat.le_refl _)).kept hb3 (Nat.le_refl _)
  rw [hn] at ho3
  have hB3 : Below w.heap.size w w3 := (hB2.alloc (by omega) _).trans (hb3.mono (by simp; omega))
  have z3 : w2.heap.size < w3.heap.size := blkT_lt hg3
  clear hb3 hn FV hk2 c0 hr2
  go_wp2_with fail
  go_loopw [4, 5, 8, 32] (fun u o fl i wr => ∃ j : Nat, j ≤ fs.length ∧ i = .int .i64 (j : Int) ∧ o = .bool true ∧ RowKit.Hid (∀ f ∈ fs.take j, fitF fv f) ∧ BlkT 68 wr w2.heap.size (A7 fv) ∧ Own 3 .i64 wr (w2.heap.size + 1) (.slice a3 fs.length cap3) fs ∧
    Own 5 .u8 wr (w.heap.size + 1) u (k.toNat :: bytesF fv (fs.take j)) ∧ (∀ q, u.ownBlock = some q → q = w1.heap.size ∨ w3.heap.size ≤ q) ∧ Below w.heap.size w wr ∧ w3.heap.size ≤ wr.heap.size) (fun _ _ _ i _ => fs.length - (intOf i).toNat)
  case atStart => exact ⟨0, by omega, rfl, rfl, hid (fun f hf => by cases hf), hg3, ho3, hr3, (fun q hq => by cases hq; exact .inl rfl), hB3, Nat.le_refl _⟩
  case round =>
    obtain ⟨j, hj, rfl, rfl, HF, hg, ho, hr, hq, hB, z3r⟩ := hrel
    have hz := hB.size
    obtain ⟨a5, cap5, hv⟩ := hr.anyForm
    subst hv
    by_cases hlt : j < fs.length
    · have hf : fs[j] < 7 := UL.out _ (List.getElem_mem hlt)
      have hmem : fs[j] ∈ fs := List.getElem_mem hlt
      have htk : fs.take (j + 1) = fs.take j ++ [fs[j]] := List.take_succ_eq_append_getElem hlt
      obtain ⟨g, cap, hv, hgb, hgl, hcap⟩ := ho3.form (by omega)
      cases hv
      have hnr : ∀ b, (Value.slice a5 (k.toNat :: bytesF fv (fs.take j)).length cap5).ownBlock = some b → (Value.slice (some ⟨g, 0, none⟩) fs.length cap3).ownBlock ≠ some b := fun b hb he => by cases he; rcases hq g hb with h | h <;> omega
      have hne : (Value.slice a5 (k.toNat :: bytesF fv (fs.take j)).length cap5).ownBlock ≠ some w2.heap.size := fun hb => by rcases hq _ hb with h | h <;> omega
      have hlen : (k.toNat :: bytesF fv (fs.take j)).length ≤ 1000 := bytes_few fv (fs.take j) k.toNat (by rw [List.length_take]; omega)
      have cf := ho.cell rfl j hlt
      rw [List.getElem?_eq_getElem hlt, Option.getD_some] at cf
      generalize fs[j] = f at hf htk cf hmem
      have TK := hid htk
      have HM := hid hmem
      clear htk hmem
      obtain rfl | rfl | rfl | rfl | rfl | rfl | rfl : f = 0 ∨ f = 1 ∨ f = 2 ∨ f = 3 ∨ f = 4 ∨ f = 5 ∨ f = 6 := by omega
      · have cf : wr.cell? ⟨g, j, none⟩ = some (.int .i64 0) := cf
        have IX := wideAt0
        have cg : wr.cell? ⟨w2.heap.size, 0, none⟩ = some (.int .i64 (fv 0)) := blkT_cell hg rfl
        by_cases hfit1 : 0 ≤ fv 0 ∧ fv 0 < ((256 ^ 1 : Nat) : Int)
        · have hfit : 1 = 8 ∨ (0 ≤ fv 0 ∧ fv 0 < ((256 ^ 1 : Nat) : Int)) := .inr hfit1
          have hfit0 := hid (show fitF fv 0 from hfit)
          clear hfit1
          go_wp2_with fail
          go_region_held3 (fun w' => w'.cell? ⟨w2.heap.size, 0, none⟩ = some (.int .i64 (fv 0)) ∧ w2.heap.size < w'.heap.size)
            (((go_split_ands); (try dsimp only); (repeat' apply And.intro); (all_goals first | assumption | omega | (simp; omega) | go_keep)))
            (first
              | (go_at_call 73; refine (enWide _).mono ?_; rintro e wv ⟨rfl, hbv⟩; have hbv' : Below wr.heap.size wr wv := bel; have zv : wr.heap.size ≤ wv.heap.size := hbv'.size; have hgv := blkT_call hbv' hg; have hrv := hr.kept hbv' (Nat.le_refl _); have hov := ho.kept hbv' (Nat.le_refl _); have cgv : wv.cell? ⟨w2.heap.size, 0, none⟩ = some (.int .i64 (fv 0)) := blkT_cell hgv rfl; have zv2 : w2.heap.size < wv.heap.size := (by omega))
              | (go_at_call 72; refine (enPutYes (fv 0) 1 _ (w.heap.size + 1) _ (k.toNat :: bytesF fv (fs.take j)) (by decide) hfit hrv hlen (by omega)).mono ?_; rintro e wp ⟨vp, rfl, hop, hgp⟩; have cgp : wp.cell? ⟨w2.heap.size, 0, none⟩ = some (.int .i64 (fv 0)) := blkT_cell (hgp.blk hgv hne) rfl; have zp : wv.heap.size ≤ wp.heap.size := hgp.1.size; have zp2 : w2.heap.size < wp.heap.size := (by omega)))
          all_goals have hgp' := hgp.blk hgv hne
          all_goals have hop' := hgp.row hov hnr
          all_goals have hBp : Below w.heap.size w wp := (hB.trans (hbv'.mono (by omega))).trans (hgp.below (fun q h => by rcases hq q h with h | h <;> omega) (by omega))
          all_goals have hqp : ∀ q, vp.ownBlock = some q → q = w1.heap.size ∨ w3.heap.size ≤ q := (fun q h => by rcases hgp.2 q h with h | h; exact hq q h; exact .inr (by omega))
          all_goals have hby : Own 5 .u8 wp (w.heap.size + 1) vp (k.toNat :: bytesF fv (fs.take (j + 1))) := by rw [TK.out, bytesF_snoc]; exact hop
          all_goals have HF2 : RowKit.Hid (∀ f ∈ fs.take (j + 1), fitF fv f) := by intro f hf; rw [TK.out] at hf; rcases List.mem_append.1 hf with hf | hf; exact HF.out f hf; rw [List.mem_singleton.1 hf]; exact hfit0.out
          all_goals clear hop hgp hgv hrv hov hbv cgv
          all_goals go_wp2_with fail
          go_roundw
          case rel => exact ⟨j + 1, by omega, by go_num, rfl, HF2, hgp', hop', hby, hqp, hBp, by omega⟩
          case measure => simp [intOf]; omega
        · have hfit : ¬ (0 ≤ fv 0 ∧ fv 0 < ((256 ^ 1 : Nat) : Int)) := hfit1
          have hno : eb = false := by cases hE : eb with | false => rfl | true => rcases (EI.out.1 hE) 0 HM.out with h | h; cases h; exact absurd h hfit1
          clear hfit1
          go_wp2_with fail
          go_region_held3 (fun w' => w'.cell? ⟨w2.heap.size, 0, none⟩ = some (.int .i64 (fv 0)) ∧ w2.heap.size < w'.heap.size)
            (((go_split_ands); (try dsimp only); (repeat' apply And.intro); (all_goals first | assumption | omega | (simp; omega) | go_keep)))
            (first
              | (go_at_call 73; refine (enWide _).mono ?_; rintro e wv ⟨rfl, hbv⟩; have hbv' : Below wr.heap.size wr wv := bel; have zv : wr.heap.size ≤ wv.heap.size := hbv'.size; have hgv := blkT_call hbv' hg; have hrv := hr.kept hbv' (Nat.le_refl _); have hov := ho.kept hbv' (Nat.le_refl _); have cgv : wv.cell? ⟨w2.heap.size, 0, none⟩ = some (.int .i64 (fv 0)) := blkT_cell hgv rfl; have zv2 : w2.heap.size < wv.heap.size := (by omega))
              | (go_at_call 72; refine (enPutNo (fv 0) 1 _ _ (by decide) hfit).mono ?_; rintro e _ ⟨rfl, rfl⟩))
          all_goals go_wp2_with fail
          all_goals go_ret2
          all_goals exact .inr ⟨hno, rfl, hB.trans (hbv'.mono (by omega))⟩
      · have cf : wr.cell? ⟨g, j, none⟩ = some (.int .i64 1) := cf
        have IX := wideAt1
        have cg : wr.cell? ⟨w2.heap.size, 1, none⟩ = some (.int .i64 (fv 1)) := blkT_cell hg rfl
        by_cases hfit1 : 0 ≤ fv 1 ∧ fv 1 < ((256 ^ 4 : Nat) : Int)
        · have hfit : 4 = 8 ∨ (0 ≤ fv 1 ∧ fv 1 < ((256 ^ 4 : Nat) : Int)) := .inr hfit1
          have hfit0 := hid (show fitF fv 1 from hfit)
          clear hfit1
          go_wp2_with fail
          go_region_held3 (fun w' => w'.cell? ⟨w2.heap.size, 1, none⟩ = some (.int .i64 (fv 1)) ∧ w2.heap.size < w'.heap.size)
            (((go_split_ands); (try dsimp only); (repeat' apply And.intro); (all_goals first | assumption | omega | (simp; omega) | go_keep)))
            (first
              | (go_at_call 73; refine (enWide _).mono ?_; rintro e wv ⟨rfl, hbv⟩; have hbv' : Below wr.heap.size wr wv := bel; have zv : wr.heap.size ≤ wv.heap.size := hbv'.size; have hgv := blkT_call hbv' hg; have hrv := hr.kept hbv' (Nat.le_refl _); have hov := ho.kept hbv' (Nat.le_refl _); have cgv : wv.cell? ⟨w2.heap.size, 1, none⟩ = some (.int .i64 (fv 1)) := blkT_cell hgv rfl; have zv2 : w2.heap.size < wv.heap.size := (by omega))
              | (go_at_call 72; refine (enPutYes (fv 1) 4 _ (w.heap.size + 1) _ (k.toNat :: bytesF fv (fs.take j)) (by decide) hfit hrv hlen (by omega)).mono ?_; rintro e wp ⟨vp, rfl, hop, hgp⟩; have cgp : wp.cell? ⟨w2.heap.size, 1, none⟩ = some (.int .i64 (fv 1)) := blkT_cell (hgp.blk hgv hne) rfl; have zp : wv.heap.size ≤ wp.heap.size := hgp.1.size; have zp2 : w2.heap.size < wp.heap.size := (by omega)))
          all_goals have hgp' := hgp.blk hgv hne
          all_goals have hop' := hgp.row hov hnr
          all_goals have hBp : Below w.heap.size w wp := (hB.trans (hbv'.mono (by omega))).trans (hgp.below (fun q h => by rcases hq q h with h | h <;> omega) (by omega))
          all_goals have hqp : ∀ q, vp.ownBlock = some q → q = w1.heap.size ∨ w3.heap.size ≤ q := (fun q h => by rcases hgp.2 q h with h | h; exact hq q h; exact .inr (by omega))
          all_goals have hby : Own 5 .u8 wp (w.heap.size + 1) vp (k.toNat :: bytesF fv (fs.take (j + 1))) := by rw [TK.out, bytesF_snoc]; exact hop
          all_goals have HF2 : RowKit.Hid (∀ f ∈ fs.take (j + 1), fitF fv f) := by intro f hf; rw [TK.out] at hf; rcases List.mem_append.1 hf with hf | hf; exact HF.out f hf; rw [List.mem_singleton.1 hf]; exact hfit0.out
          all_goals clear hop hgp hgv hrv hov hbv cgv
          all_goals go_wp2_with fail
          go_roundw
          case rel => exact ⟨j + 1, by omega, by go_num, rfl, HF2, hgp', hop', hby, hqp, hBp, by omega⟩
          case measure => simp [intOf]; omega
        · have hfit : ¬ (0 ≤ fv 1 ∧ fv 1 < ((256 ^ 4 : Nat) : Int)) := hfit1
          have hno : eb = false := by cases hE : eb with | false => rfl | true => rcases (EI.out.1 hE) 1 HM.out with h | h; cases h; exact absurd h hfit1
          clear hfit1
          go_wp2_with fail
          go_region_held3 (fun w' => w'.cell? ⟨w2.heap.size, 1, none⟩ = some (.int .i64 (fv 1)) ∧ w2.heap.size < w'.heap.size)
            (((go_split_ands); (try dsimp only); (repeat' apply And.intro); (all_goals first | assumption | omega | (simp; omega) | go_keep)))
            (first
              | (go_at_call 73; refine (enWide _).mono ?_; rintro e wv ⟨rfl, hbv⟩; have hbv' : Below wr.heap.size wr wv := bel; have zv : wr.heap.size ≤ wv.heap.size := hbv'.size; have hgv := blkT_call hbv' hg; have hrv := hr.kept hbv' (Nat.le_refl _); have hov := ho.kept hbv' (Nat.le_refl _); have cgv : wv.cell? ⟨w2.heap.size, 1, none⟩ = some (.int .i64 (fv 1)) := blkT_cell hgv rfl; have zv2 : w2.heap.size < wv.heap.size := (by omega))
              | (go_at_call 72; refine (enPutNo (fv 1) 4 _ _ (by decide) hfit).mono ?_; rintro e _ ⟨rfl, rfl⟩))
          all_goals go_wp2_with fail
          all_goals go_ret2
          all_goals exact .inr ⟨hno, rfl, hB.trans (hbv'.mono (by omega))⟩
      · have cf : wr.cell? ⟨g, j, none⟩ = some (.int .i64 2) := cf
        have IX := wideAt2
        have cg : wr.cell? ⟨w2.heap.size, 2, none⟩ = some (.int .i64 (fv 2)) := blkT_cell hg rfl
        by_cases hfit1 : 0 ≤ fv 2 ∧ fv 2 < ((256 ^ 1 : Nat) : Int)
        · have hfit : 1 = 8 ∨ (0 ≤ fv 2 ∧ fv 2 < ((256 ^ 1 : Nat) : Int)) := .inr hfit1
          have hfit0 := hid (show fitF fv 2 from hfit)
          clear hfit1
          go_wp2_with fail
          go_region_held3 (fun w' => w'.cell? ⟨w2.heap.size, 2, none⟩ = some (.int .i64 (fv 2)) ∧ w2.heap.size < w'.heap.size)
            (((go_split_ands); (try dsimp only); (repeat' apply And.intro); (all_goals first | assumption | omega | (simp; omega) | go_keep)))
            (first
              | (go_at_call 73; refine (enWide _).mono ?_; rintro e wv ⟨rfl, hbv⟩; have hbv' : Below wr.heap.size wr wv := bel; have zv : wr.heap.size ≤ wv.heap.size := hbv'.size; have hgv := blkT_call hbv' hg; have hrv := hr.kept hbv' (Nat.le_refl _); have hov := ho.kept hbv' (Nat.le_refl _); have cgv : wv.cell? ⟨w2.heap.size, 2, none⟩ = some (.int .i64 (fv 2)) := blkT_cell hgv rfl; have zv2 : w2.heap.size < wv.heap.size := (by omega))
              | (go_at_call 72; refine (enPutYes (fv 2) 1 _ (w.heap.size + 1) _ (k.toNat :: bytesF fv (fs.take j)) (by decide) hfit hrv hlen (by omega)).mono ?_; rintro e wp ⟨vp, rfl, hop, hgp⟩; have cgp : wp.cell? ⟨w2.heap.size, 2, none⟩ = some (.int .i64 (fv 2)) := blkT_cell (hgp.blk hgv hne) rfl; have zp : wv.heap.size ≤ wp.heap.size := hgp.1.size; have zp2 : w2.heap.size < wp.heap.size := (by omega)))
          all_goals have hgp' := hgp.blk hgv hne
          all_goals have hop' := hgp.row hov hnr
          all_goals have hBp : Below w.heap.size w wp := (hB.trans (hbv'.mono (by omega))).trans (hgp.below (fun q h => by rcases hq q h with h | h <;> omega) (by omega))
          all_goals have hqp : ∀ q, vp.ownBlock = some q → q = w1.heap.size ∨ w3.heap.size ≤ q := (fun q h => by rcases hgp.2 q h with h | h; exact hq q h; exact .inr (by omega))
          all_goals have hby : Own 5 .u8 wp (w.heap.size + 1) vp (k.toNat :: bytesF fv (fs.take (j + 1))) := by rw [TK.out, bytesF_snoc]; exact hop
          all_goals have HF2 : RowKit.Hid (∀ f ∈ fs.take (j + 1), fitF fv f) := by intro f hf; rw [TK.out] at hf; rcases List.mem_append.1 hf with hf | hf; exact HF.out f hf; rw [List.mem_singleton.1 hf]; exact hfit0.out
          all_goals clear hop hgp hgv hrv hov hbv cgv
          all_goals go_wp2_with fail
          go_roundw
          case rel => exact ⟨j + 1, by omega, by go_num, rfl, HF2, hgp', hop', hby, hqp, hBp, by omega⟩
          case measure => simp [intOf]; omega
        · have hfit : ¬ (0 ≤ fv 2 ∧ fv 2 < ((256 ^ 1 : Nat) : Int)) := hfit1
          have hno : eb = false := by cases hE : eb with | false => rfl | true => rcases (EI.out.1 hE) 2 HM.out with h | h; cases h; exact absurd h hfit1
          clear hfit1
          go_wp2_with fail
          go_region_held3 (fun w' => w'.cell? ⟨w2.heap.size, 2, none⟩ = some (.int .i64 (fv 2)) ∧ w2.heap.size < w'.heap.size)
            (((go_split_ands); (try dsimp only); (repeat' apply And.intro); (all_goals first | assumption | omega | (simp; omega) | go_keep)))
            (first
              | (go_at_call 73; refine (enWide _).mono ?_; rintro e wv ⟨rfl, hbv⟩; have hbv' : Below wr.heap.size wr wv := bel; have zv : wr.heap.size ≤ wv.heap.size := hbv'.size; have hgv := blkT_call hbv' hg; have hrv := hr.kept hbv' (Nat.le_refl _); have hov := ho.kept hbv' (Nat.le_refl _); have cgv : wv.cell? ⟨w2.heap.size, 2, none⟩ = some (.int .i64 (fv 2)) := blkT_cell hgv rfl; have zv2 : w2.heap.size < wv.heap.size := (by omega))
              | (go_at_call 72; refine (enPutNo (fv 2) 1 _ _ (by decide) hfit).mono ?_; rintro e _ ⟨rfl, rfl⟩))
          all_goals go_wp2_with fail
          all_goals go_ret2
          all_goals exact .inr ⟨hno, rfl, hB.trans (hbv'.mono (by omega))⟩
      · have cf : wr.cell? ⟨g, j, none⟩ = some (.int .i64 3) := cf
        have IX := wideAt3
        have cg : wr.cell? ⟨w2.heap.size, 3, none⟩ = some (.int .i64 (fv 3)) := blkT_cell hg rfl
        have hfit0 := hid (show fitF fv 3 from .inl rfl)
        go_wp2_with fail
        go_region_held3 (fun w' => w'.cell? ⟨w2.heap.size, 3, none⟩ = some (.int .i64 (fv 3)) ∧ w2.heap.size < w'.heap.size)
          (((go_split_ands); (try dsimp only); (repeat' apply And.intro); (all_goals first | assumption | omega | (simp; omega) | go_keep)))
          (first
            | (go_at_call 73; refine (enWide _).mono ?_; rintro e wv ⟨rfl, hbv⟩; have hbv' : Below wr.heap.size wr wv := bel; have zv : wr.heap.size ≤ wv.heap.size := hbv'.size; have hgv := blkT_call hbv' hg; have hrv := hr.kept hbv' (Nat.le_refl _); have hov := ho.kept hbv' (Nat.le_refl _); have cgv : wv.cell? ⟨w2.heap.size, 3, none⟩ = some (.int .i64 (fv 3)) := blkT_cell hgv rfl; have zv2 : w2.heap.size < wv.heap.size := (by omega))
            | (go_at_call 72; refine (enPutYes (fv 3) 8 _ (w.heap.size + 1) _ (k.toNat :: bytesF fv (fs.take j)) (by decide) (.inl rfl) hrv hlen (by omega)).mono ?_; rintro e wp ⟨vp, rfl, hop, hgp⟩; have cgp : wp.cell? ⟨w2.heap.size, 3, none⟩ = some (.int .i64 (fv 3)) := blkT_cell (hgp.blk hgv hne) rfl; have zp : wv.heap.size ≤ wp.heap.size := hgp.1.size; have zp2 : w2.heap.size < wp.heap.size := (by omega)))
        all_goals have hgp' := hgp.blk hgv hne
        all_goals have hop' := hgp.row hov hnr
        all_goals have hBp : Below w.heap.size w wp := (hB.trans (hbv'.mono (by omega))).trans (hgp.below (fun q h => by rcases hq q h with h | h <;> omega) (by omega))
        all_goals have hqp : ∀ q, vp.ownBlock = some q → q = w1.heap.size ∨ w3.heap.size ≤ q := (fun q h => by rcases hgp.2 q h with h | h; exact hq q h; exact .inr (by omega))
        all_goals have hby : Own 5 .u8 wp (w.heap.size + 1) vp (k.toNat :: bytesF fv (fs.take (j + 1))) := by rw [TK.out, bytesF_snoc]; exact hop
        all_goals have HF2 : RowKit.Hid (∀ f ∈ fs.take (j + 1), fitF fv f) := by intro f hf; rw [TK.out] at hf; rcases List.mem_append.1 hf with hf | hf; exact HF.out f hf; rw [List.mem_singleton.1 hf]; exact hfit0.out
        all_goals clear hop hgp hgv hrv hov hbv cgv
        all_goals go_wp2_with fail
        go_roundw
        case rel => exact ⟨j + 1, by omega, by go_num, rfl, HF2, hgp', hop', hby, hqp, hBp, by omega⟩
        case measure => simp [intOf]; omega
      · have cf : wr.cell? ⟨g, j, none⟩ = some (.int .i64 4) := cf
        have IX := wideAt4
        have cg : wr.cell? ⟨w2.heap.size, 4, none⟩ = some (.int .i64 (fv 4)) := blkT_cell hg rfl
        have hfit0 := hid (show fitF fv 4 from .inl rfl)
        go_wp2_with fail
        go_region_held3 (fun w' => w'.cell? ⟨w2.heap.size, 4, none⟩ = some (.int .i64 (fv 4)) ∧ w2.heap.size < w'.heap.size)
          (((go_split_ands); (try dsimp only); (repeat' apply And.intro); (all_goals first | assumption | omega | (simp; omega) | go_keep)))
          (first
            | (go_at_call 73; refine (enWide _).mono ?_; rintro e wv ⟨rfl, hbv⟩; have hbv' : Below wr.heap.size wr wv := bel; have zv : wr.heap.size ≤ wv.heap.size := hbv'.size; have hgv := blkT_call hbv' hg; have hrv := hr.kept hbv' (Nat.le_refl _); have hov := ho.kept hbv' (Nat.le_refl _); have cgv : wv.cell? ⟨w2.heap.size, 4, none⟩ = some (.int .i64 (fv 4)) := blkT_cell hgv rfl; have zv2 : w2.heap.size < wv.heap.size := (by omega))
            | (go_at_call 72; refine (enPutYes (fv 4) 8 _ (w.heap.size + 1) _ (k.toNat :: bytesF fv (fs.take j)) (by decide) (.inl rfl) hrv hlen (by omega)).mono ?_; rintro e wp ⟨vp, rfl, hop, hgp⟩; have cgp : wp.cell? ⟨w2.heap.size, 4, none⟩ = some (.int .i64 (fv 4)) := blkT_cell (hgp.blk hgv hne) rfl; have zp : wv.heap.size ≤ wp.heap.size := hgp.1.size; have zp2 : w2.heap.size < wp.heap.size := (by omega)))
        all_goals have hgp' := hgp.blk hgv hne
        all_goals have hop' := hgp.row hov hnr
        all_goals have hBp : Below w.heap.size w wp := (hB.trans (hbv'.mono (by omega))).trans (hgp.below (fun q h => by rcases hq q h with h | h <;> omega) (by omega))
        all_goals have hqp : ∀ q, vp.ownBlock = some q → q = w1.heap.size ∨ w3.heap.size ≤ q := (fun q h => by rcases hgp.2 q h with h | h; exact hq q h; exact .inr (by omega))
        all_goals have hby : Own 5 .u8 wp (w.heap.size + 1) vp (k.toNat :: bytesF fv (fs.take (j + 1))) := by rw [TK.out, bytesF_snoc]; exact hop
        all_goals have HF2 : RowKit.Hid (∀ f ∈ fs.take (j + 1), fitF fv f) := by intro f hf; rw [TK.out] at hf; rcases List.mem_append.1 hf with hf | hf; exact HF.out f hf; rw [List.mem_singleton.1 hf]; exact hfit0.out
        all_goals clear hop hgp hgv hrv hov hbv cgv
        all_goals go_wp2_with fail
        go_roundw
        case rel => exact ⟨j + 1, by omega, by go_num, rfl, HF2, hgp', hop', hby, hqp, hBp, by omega⟩
        case measure => simp [intOf]; omega
      · have cf : wr.cell? ⟨g, j, none⟩ = some (.int .i64 5) := cf
        have IX := wideAt5
        have cg : wr.cell? ⟨w2.heap.size, 5, none⟩ = some (.int .i64 (fv 5)) := blkT_cell hg rfl
        by_cases hfit1 : 0 ≤ fv 5 ∧ fv 5 < ((256 ^ 2 : Nat) : Int)
        · have hfit : 2 = 8 ∨ (0 ≤ fv 5 ∧ fv 5 < ((256 ^ 2 : Nat) : Int)) := .inr hfit1
          have hfit0 := hid (show fitF fv 5 from hfit)
          clear hfit1
          go_wp2_with fail
          go_region_held3 (fun w' => w'.cell? ⟨w2.heap.size, 5, none⟩ = some (.int .i64 (fv 5)) ∧ w2.heap.size < w'.heap.size)
            (((go_split_ands); (try dsimp only); (repeat' apply And.intro); (all_goals first | assumption | omega | (simp; omega) | go_keep)))
            (first
              | (go_at_call 73; refine (enWide _).mono ?_; rintro e wv ⟨rfl, hbv⟩; have hbv' : Below wr.heap.size wr wv := bel; have zv : wr.heap.size ≤ wv.heap.size := hbv'.size; have hgv := blkT_call hbv' hg; have hrv := hr.kept hbv' (Nat.le_refl _); have hov := ho.kept hbv' (Nat.le_refl _); have cgv : wv.cell? ⟨w2.heap.size, 5, none⟩ = some (.int .i64 (fv 5)) := blkT_cell hgv rfl; have zv2 : w2.heap.size < wv.heap.size := (by omega))
              | (go_at_call 72; refine (enPutYes (fv 5) 2 _ (w.heap.size + 1) _ (k.toNat :: bytesF fv (fs.take j)) (by decide) hfit hrv hlen (by omega)).mono ?_; rintro e wp ⟨vp, rfl, hop, hgp⟩; have cgp : wp.cell? ⟨w2.heap.size, 5, none⟩ = some (.int .i64 (fv 5)) := blkT_cell (hgp.blk hgv hne) rfl; have zp : wv.heap.size ≤ wp.heap.size := hgp.1.size; have zp2 : w2.heap.size < wp.heap.size := (by omega)))
          all_goals have hgp' := hgp.blk hgv hne
          all_goals have hop' := hgp.row hov hnr
          all_goals have hBp : Below w.heap.size w wp := (hB.trans (hbv'.mono (by omega))).trans (hgp.below (fun q h => by rcases hq q h with h | h <;> omega) (by omega))
          all_goals have hqp : ∀ q, vp.ownBlock = some q → q = w1.heap.size ∨ w3.heap.size ≤ q := (fun q h => by rcases hgp.2 q h with h | h; exact hq q h; exact .inr (by omega))
          all_goals have hby : Own 5 .u8 wp (w.heap.size + 1) vp (k.toNat :: bytesF fv (fs.take (j + 1))) := by rw [TK.out, bytesF_snoc]; exact hop
          all_goals have HF2 : RowKit.Hid (∀ f ∈ fs.take (j + 1), fitF fv f) := by intro f hf; rw [TK.out] at hf; rcases List.mem_append.1 hf with hf | hf; exact HF.out f hf; rw [List.mem_singleton.1 hf]; exact hfit0.out
          all_goals clear hop hgp hgv hrv hov hbv cgv
          all_goals go_wp2_with fail
          go_roundw
          case rel => exact ⟨j + 1, by omega, by go_num, rfl, HF2, hgp', hop', hby, hqp, hBp, by omega⟩
          case measure => simp [intOf]; omega
        · have hfit : ¬ (0 ≤ fv 5 ∧ fv 5 < ((256 ^ 2 : Nat) : Int)) := hfit1
          have hno : eb = false := by cases hE : eb with | false => rfl | true => rcases (EI.out.1 hE) 5 HM.out with h | h; cases h; exact absurd h hfit1
          clear hfit1
          go_wp2_with fail
          go_region_held3 (fun w' => w'.cell? ⟨w2.heap.size, 5, none⟩ = some (.int .i64 (fv 5)) ∧ w2.heap.size < w'.heap.size)
            (((go_split_ands); (try dsimp only); (repeat' apply And.intro); (all_goals first | assumption | omega | (simp; omega) | go_keep)))
            (first
              | (go_at_call 73; refine (enWide _).mono ?_; rintro e wv ⟨rfl, hbv⟩; have hbv' : Below wr.heap.size wr wv := bel; have zv : wr.heap.size ≤ wv.heap.size := hbv'.size; have hgv := blkT_call hbv' hg; have hrv := hr.kept hbv' (Nat.le_refl _); have hov := ho.kept hbv' (Nat.le_refl _); have cgv : wv.cell? ⟨w2.heap.size, 5, none⟩ = some (.int .i64 (fv 5)) := blkT_cell hgv rfl; have zv2 : w2.heap.size < wv.heap.size := (by omega))
              | (go_at_call 72; refine (enPutNo (fv 5) 2 _ _ (by decide) hfit).mono ?_; rintro e _ ⟨rfl, rfl⟩))
          all_goals go_wp2_with fail
          all_goals go_ret2
          all_goals exact .inr ⟨hno, rfl, hB.trans (hbv'.mono (by omega))⟩
      · have cf : wr.cell? ⟨g, j, none⟩ = some (.int .i64 6) := cf
        have IX := wideAt6
        have cg : wr.cell? ⟨w2.heap.size, 6, none⟩ = some (.int .i64 (fv 6)) := blkT_cell hg rfl
        by_cases hfit1 : 0 ≤ fv 6 ∧ fv 6 < ((256 ^ 1 : Nat) : Int)
        · have hfit : 1 = 8 ∨ (0 ≤ fv 6 ∧ fv 6 < ((256 ^ 1 : Nat) : Int)) := .inr hfit1
          have hfit0 := hid (show fitF fv 6 from hfit)
          clear hfit1
          go_wp2_with fail
          go_region_held3 (fun w' => w'.cell? ⟨w2.heap.size, 6, none⟩ = some (.int .i64 (fv 6)) ∧ w2.heap.size < w'.heap.size)
            (((go_split_ands); (try dsimp only); (repeat' apply And.intro); (all_goals first | assumption | omega | (simp; omega) | go_keep)))
            (first
              | (go_at_call 73; refine (enWide _).mono ?_; rintro e wv ⟨rfl, hbv⟩; have hbv' : Below wr.heap.size wr wv := bel; have zv : wr.heap.size ≤ wv.heap.size := hbv'.size; have hgv := blkT_call hbv' hg; have hrv := hr.kept hbv' (Nat.le_refl _); have hov := ho.kept hbv' (Nat.le_refl _); have cgv : wv.cell? ⟨w2.heap.size, 6, none⟩ = some (.int .i64 (fv 6)) := blkT_cell hgv rfl; have zv2 : w2.heap.size < wv.heap.size := (by omega))
              | (go_at_call 72; refine (enPutYes (fv 6) 1 _ (w.heap.size + 1) _ (k.toNat :: bytesF fv (fs.take j)) (by decide) hfit hrv hlen (by omega)).mono ?_; rintro e wp ⟨vp, rfl, hop, hgp⟩; have cgp : wp.cell? ⟨w2.heap.size, 6, none⟩ = some (.int .i64 (fv 6)) := blkT_cell (hgp.blk hgv hne) rfl; have zp : wv.heap.size ≤ wp.heap.size := hgp.1.size; have zp2 : w2.heap.size < wp.heap.size := (by omega)))
          all_goals have hgp' := hgp.blk hgv hne
          all_goals have hop' := hgp.row hov hnr
          all_goals have hBp : Below w.heap.size w wp := (hB.trans (hbv'.mono (by omega))).trans (hgp.below (fun q h => by rcases hq q h with h | h <;> omega) (by omega))
          all_goals have hqp : ∀ q, vp.ownBlock = some q → q = w1.heap.size ∨ w3.heap.size ≤ q := (fun q h => by rcases hgp.2 q h with h | h; exact hq q h; exact .inr (by omega))
          all_goals have hby : Own 5 .u8 wp (w.heap.size + 1) vp (k.toNat :: bytesF fv (fs.take (j + 1))) := by rw [TK.out, bytesF_snoc]; exact hop
          all_goals have HF2 : RowKit.Hid (∀ f ∈ fs.take (j + 1), fitF fv f) := by intro f hf; rw [TK.out] at hf; rcases List.mem_append.1 hf with hf | hf; exact HF.out f hf; rw [List.mem_singleton.1 hf]; exact hfit0.out
          all_goals clear hop hgp hgv hrv hov hbv cgv
          all_goals go_wp2_with fail
          go_roundw
          case rel => exact ⟨j + 1, by omega, by go_num, rfl, HF2, hgp', hop', hby, hqp, hBp, by omega⟩
          case measure => simp [intOf]; omega
        · have hfit : ¬ (0 ≤ fv 6 ∧ fv 6 < ((256 ^ 1 : Nat) : Int)) := hfit1
          have hno : eb = false := by cases hE : eb with | false => rfl | true => rcases (EI.out.1 hE) 6 HM.out with h | h; cases h; exact absurd h hfit1
          clear hfit1
          go_wp2_with fail
          go_region_held3 (fun w' => w'.cell? ⟨w2.heap.size, 6, none⟩ = some (.int .i64 (fv 6)) ∧ w2.heap.size < w'.heap.size)
            (((go_split_ands); (try dsimp only); (repeat' apply And.intro); (all_goals first | assumption | omega | (simp; omega) | go_keep)))
            (first
              | (go_at_call 73; refine (enWide _).mono ?_; rintro e wv ⟨rfl, hbv⟩; have hbv' : Below wr.heap.size wr wv := bel; have zv : wr.heap.size ≤ wv.heap.size := hbv'.size; have hgv := blkT_call hbv' hg; have hrv := hr.kept hbv' (Nat.le_refl _); have hov := ho.kept hbv' (Nat.le_refl _); have cgv : wv.cell? ⟨w2.heap.size, 6, none⟩ = some (.int .i64 (fv 6)) := blkT_cell hgv rfl; have zv2 : w2.heap.size < wv.heap.size := (by omega))
              | (go_at_call 72; refine (enPutNo (fv 6) 1 _ _ (by decide) hfit).mono ?_; rintro e _ ⟨rfl, rfl⟩))
          all_goals go_wp2_with fail
          all_goals go_ret2
          all_goals exact .inr ⟨hno, rfl, hB.trans (hbv'.mono (by omega))⟩
    · obtain rfl : j = fs.length := by omega
      rw [List.take_length] at HF hr ⊢
      have he : eb = true := EI.out.2 HF.out
      have hby := EB.out he
      have hr' : Own 5 .u8 wr w.heap.size (.slice a5 (k.toNat :: bytesF fv fs).length cap5) eby := by rw [hby]; exact Own.down hr (by omega)
      clear hr hby
      go_wp2_with fail
      go_ret2
      exact .inl ⟨he, _, rfl, hr', hB⟩
end Go.Proofs.Ytpeeaapheohehaa
