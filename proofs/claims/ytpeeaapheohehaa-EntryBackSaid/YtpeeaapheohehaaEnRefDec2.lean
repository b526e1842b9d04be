/- The walks of the reference's one of the other kinds, and of its Decode of entries. -/
import Derived.Test.YtpeeaapheohehaaEnRefDec
namespace Go.Proofs.Ytpeeaapheohehaa
open Go.RowKit
set_option linter.unusedVariables false
set_option linter.unusedSimpArgs false

set_option maxRecDepth 100000 in
set_option maxHeartbeats 1600000 in
theorem ref32one2 (at_ : Nat) (w : World) (b off len cap : Nat) (xs : List Nat) (hs : Seen .u8 w (some ⟨b, off, none⟩) len cap xs) (hf : Fit 256 xs) (h1 : at_ + 3 ≤ len) :
    Calls Try.prog 82 #[.int .i64 2, .slice (some ⟨b, off, none⟩) len cap, .int .i64 at_] w fun e w' => e = .returned (enV (oneE 2 (xs.drop at_))) ∧ Below w.heap.size w w' := by
  have hl := hs.1
  have hcl : len ≤ 9223372036854775807 := by have := hs.2.1; have := hs.2.2.1; omega
  have Gn := hidAll fun w' => hidAll fun (h : Below w.heap.size w w') => fun p hp => ref32getI p (at_ + 1) 2 w' _ len cap xs hp (hs.below h) hf (by omega) (by omega)
  have EQ := hid (show oneE 2 (xs.drop at_) = ⟨2, (xs[at_ + 0]?.getD 0 : Nat), 0, 0, 0, 0, unbe ((xs.drop (at_ + 1)).take 2), 0⟩ by
    rw [oneE, if_neg (by decide), if_pos rfl, ← unbe_one (at_ + 0) (by omega)]
    try simp only [List.drop_drop, Nat.add_zero]
    try rfl)
  have Bn := unbe_take hf (at_ + 1) 2
  have cc : ∀ i, i < len → w.cell? ⟨b, off + i, none⟩ = some (.int .u8 ((xs[i]?.getD 0 : Nat) : Int)) := by
    rcases hs.2.2.2 with ⟨h, _⟩ | ⟨b', off', he, hc⟩
    · omega
    · cases he; exact hc
  have yt := hf.getD (by omega) (at_ + 0)
  have ct := cc (at_ + 0) (by omega)
  have hbl := World.block_lt_of_cell? w _ ct
  simp only at hbl
  clear cc
  simp only [Nat.reducePow] at Bn
  generalize unbe ((xs.drop (at_ + 1)).take 2) = un at *
  generalize xs[at_ + 0]?.getD 0 = xt at *
  rw [Nat.add_zero] at ct
  rw [EQ.out]
  clear EQ hs
  go_enter Try.func82, Try.ntmps82
  go_wp2_with fail
  refine (((Gn.out _).out bel) _ (by go_num)).mono ?_
  rintro e _ ⟨rfl, rfl⟩
  go_wp2_with fail
  exact bodyPost_ret (v := enV ⟨2, (xt : Int), 0, 0, 0, 0, (un : Int), 0⟩) (by simp [results, Try.results82, go_sem, enV]) rfl ⟨rfl, bel⟩

set_option maxRecDepth 100000 in
set_option maxHeartbeats 1600000 in
theorem ref32one3 (at_ : Nat) (w : World) (b off len cap : Nat) (xs : List Nat) (hs : Seen .u8 w (some ⟨b, off, none⟩) len cap xs) (hf : Fit 256 xs) (h1 : at_ + 3 ≤ len) :
    Calls Try.prog 82 #[.int .i64 3, .slice (some ⟨b, off, none⟩) len cap, .int .i64 at_] w fun e w' => e = .returned (enV (oneE 3 (xs.drop at_))) ∧ Below w.heap.size w w' := by
  have hl := hs.1
  have hcl : len ≤ 9223372036854775807 := by have := hs.2.1; have := hs.2.2.1; omega
  have Gn := hidAll fun w' => hidAll fun (h : Below w.heap.size w w') => fun p hp => ref32getI p (at_ + 0) 2 w' _ len cap xs hp (hs.below h) hf (by omega) (by omega)
  have EQ := hid (show oneE 3 (xs.drop at_) = ⟨3, 0, 0, 0, 0, 0, unbe ((xs.drop (at_ + 0)).take 2), (xs[at_ + 2]?.getD 0 : Nat)⟩ by
    rw [oneE, if_neg (by decide), if_neg (by decide), if_pos rfl, ← unbe_one (at_ + 2) (by omega)]
    try simp only [List.drop_drop, Nat.add_zero]
    try rfl)
  have Bn := unbe_take hf (at_ + 0) 2
  have cc : ∀ i, i < len → w.cell? ⟨b, off + i, none⟩ = some (.int .u8 ((xs[i]?.getD 0 : Nat) : Int)) := by
    rcases hs.2.2.2 with ⟨h, _⟩ | ⟨b', off', he, hc⟩
    · omega
    · cases he; exact hc
  have ym := hf.getD (by omega) (at_ + 2)
  have cm := cc (at_ + 2) (by omega)
  have hbl := World.block_lt_of_cell? w _ cm
  simp only at hbl
  clear cc
  simp only [Nat.reducePow] at Bn
  generalize unbe ((xs.drop (at_ + 0)).take 2) = un at *
  generalize xs[at_ + 2]?.getD 0 = xm at *
  rw [EQ.out]
  clear EQ hs
  have i0m : (0 : Int) ≤ (at_ : Int) + 2 := by omega
  have i1m : (at_ : Int) + 2 < (len : Int) := by omega
  have i2m : ((at_ : Int) + 2).toNat = at_ + 2 := by omega
  have i3m : IntKind.i64.wrap ((at_ : Int) + 2) = (at_ : Int) + 2 := by rw [IntKind.wrap_i64]; omega
  go_enter Try.func82, Try.ntmps82
  go_wp2_with fail
  refine (((Gn.out _).out bel) _ (by go_num)).mono ?_
  rintro e _ ⟨rfl, rfl⟩
  go_wp2_with fail
  exact bodyPost_ret (v := enV ⟨3, 0, 0, 0, 0, 0, (un : Int), (xm : Int)⟩) (by simp [results, Try.results82, go_sem, enV]) rfl ⟨rfl, bel⟩

set_option maxRecDepth 100000 in
set_option maxHeartbeats 1600000 in
theorem ref32one4 (at_ : Nat) (w : World) (b off len cap : Nat) (xs : List Nat) (hs : Seen .u8 w (some ⟨b, off, none⟩) len cap xs) (hf : Fit 256 xs) (h1 : at_ + 0 ≤ len) :
    Calls Try.prog 82 #[.int .i64 4, .slice (some ⟨b, off, none⟩) len cap, .int .i64 at_] w fun e w' => e = .returned (enV (oneE 4 (xs.drop at_))) ∧ Below w.heap.size w w' := by
  have hl := hs.1
  have hcl : len ≤ 9223372036854775807 := by have := hs.2.1; have := hs.2.2.1; omega
  have EQ := hid (show oneE 4 (xs.drop at_) = ⟨4, 0, 0, 0, 0, 0, 0, 0⟩ by
    rw [oneE, if_neg (by decide), if_neg (by decide), if_neg (by decide), if_neg (by decide), if_neg (by decide)]
    try simp only [List.drop_drop, Nat.add_zero]
    try rfl)
  rw [EQ.out]
  clear EQ hs
  go_enter Try.func82, Try.ntmps82
  go_wp2_with fail
  exact bodyPost_ret (v := enV ⟨4, 0, 0, 0, 0, 0, 0, 0⟩) (by simp [results, Try.results82, go_sem, enV]) rfl ⟨rfl, bel⟩

set_option maxRecDepth 100000 in
set_option maxHeartbeats 1600000 in
theorem ref32one5 (at_ : Nat) (w : World) (b off len cap : Nat) (xs : List Nat) (hs : Seen .u8 w (some ⟨b, off, none⟩) len cap xs) (hf : Fit 256 xs) (h1 : at_ + 2 ≤ len) :
    Calls Try.prog 82 #[.int .i64 5, .slice (some ⟨b, off, none⟩) len cap, .int .i64 at_] w fun e w' => e = .returned (enV (oneE 5 (xs.drop at_))) ∧ Below w.heap.size w w' := by
  have hl := hs.1
  have hcl : len ≤ 9223372036854775807 := by have := hs.2.1; have := hs.2.2.1; omega
  have Gn := hidAll fun w' => hidAll fun (h : Below w.heap.size w w') => fun p hp => ref32getI p (at_ + 0) 2 w' _ len cap xs hp (hs.below h) hf (by omega) (by omega)
  have EQ := hid (show oneE 5 (xs.drop at_) = ⟨5, 0, 0, 0, 0, 0, unbe ((xs.drop (at_ + 0)).take 2), 0⟩ by
    rw [oneE, if_neg (by decide), if_neg (by decide), if_neg (by decide), if_pos rfl]
    try simp only [List.drop_drop, Nat.add_zero]
    try rfl)
  have Bn := unbe_take hf (at_ + 0) 2
  simp only [Nat.reducePow] at Bn
  generalize unbe ((xs.drop (at_ + 0)).take 2) = un at *
  rw [EQ.out]
  clear EQ hs
  go_enter Try.func82, Try.ntmps82
  go_wp2_with fail
  refine (((Gn.out _).out bel) _ (by go_num)).mono ?_
  rintro e _ ⟨rfl, rfl⟩
  go_wp2_with fail
  exact bodyPost_ret (v := enV ⟨5, 0, 0, 0, 0, 0, (un : Int), 0⟩) (by simp [results, Try.results82, go_sem, enV]) rfl ⟨rfl, bel⟩

set_option maxRecDepth 100000 in
set_option maxHeartbeats 1600000 in
theorem ref32one6 (at_ : Nat) (w : World) (b off len cap : Nat) (xs : List Nat) (hs : Seen .u8 w (some ⟨b, off, none⟩) len cap xs) (hf : Fit 256 xs) (h1 : at_ + 5 ≤ len) :
    Calls Try.prog 82 #[.int .i64 6, .slice (some ⟨b, off, none⟩) len cap, .int .i64 at_] w fun e w' => e = .returned (enV (oneE 6 (xs.drop at_))) ∧ Below w.heap.size w w' := by
  have hl := hs.1
  have hcl : len ≤ 9223372036854775807 := by have := hs.2.1; have := hs.2.2.1; omega
  have Gnum := hidAll fun w' => hidAll fun (h : Below w.heap.size w w') => fun p hp => ref32getI p (at_ + 1) 4 w' _ len cap xs hp (hs.below h) hf (by omega) (by omega)
  have EQ := hid (show oneE 6 (xs.drop at_) = ⟨6, (xs[at_ + 0]?.getD 0 : Nat), unbe ((xs.drop (at_ + 1)).take 4), 0, 0, 0, 0, 0⟩ by
    rw [oneE, if_neg (by decide), if_neg (by decide), if_neg (by decide), if_neg (by decide), if_pos rfl, ← unbe_one (at_ + 0) (by omega)]
    try simp only [List.drop_drop, Nat.add_zero]
    try rfl)
  have Bnum := unbe_take hf (at_ + 1) 4
  have cc : ∀ i, i < len → w.cell? ⟨b, off + i, none⟩ = some (.int .u8 ((xs[i]?.getD 0 : Nat) : Int)) := by
    rcases hs.2.2.2 with ⟨h, _⟩ | ⟨b', off', he, hc⟩
    · omega
    · cases he; exact hc
  have yt := hf.getD (by omega) (at_ + 0)
  have ct := cc (at_ + 0) (by omega)
  have hbl := World.block_lt_of_cell? w _ ct
  simp only at hbl
  clear cc
  simp only [Nat.reducePow] at Bnum
  generalize unbe ((xs.drop (at_ + 1)).take 4) = unum at *
  generalize xs[at_ + 0]?.getD 0 = xt at *
  rw [Nat.add_zero] at ct
  rw [EQ.out]
  clear EQ hs
  go_enter Try.func82, Try.ntmps82
  go_wp2_with fail
  refine (((Gnum.out _).out bel) _ (by go_num)).mono ?_
  rintro e _ ⟨rfl, rfl⟩
  go_wp2_with fail
  exact bodyPost_ret (v := enV ⟨6, (xt : Int), (unum : Int), 0, 0, 0, 0, 0⟩) (by simp [results, Try.results82, go_sem, enV]) rfl ⟨rfl, bel⟩

theorem ref32one (x at_ : Nat) (w : World) (b off len cap : Nat) (xs : List Nat) (hs : Seen .u8 w (some ⟨b, off, none⟩) len cap xs) (hf : Fit 256 xs) (h1 : at_ + needN x ≤ len) (hx : ¬ (x < 1 ∨ 6 < x)) :
    Calls Try.prog 82 #[.int .i64 x, .slice (some ⟨b, off, none⟩) len cap, .int .i64 at_] w fun e w' => e = .returned (enV (oneE x (xs.drop at_))) ∧ Below w.heap.size w w' := by
  obtain rfl | rfl | rfl | rfl | rfl | rfl : x = 1 ∨ x = 2 ∨ x = 3 ∨ x = 4 ∨ x = 5 ∨ x = 6 := by omega
  · exact ref32one1 at_ w b off len cap xs hs hf h1
  · exact ref32one2 at_ w b off len cap xs hs hf h1
  · exact ref32one3 at_ w b off len cap xs hs hf h1
  · exact ref32one4 at_ w b off len cap xs hs hf h1
  · exact ref32one5 at_ w b off len cap xs hs hf h1
  · exact ref32one6 at_ w b off len cap xs hs hf h1

theorem decL_at {xs : List Nat} {es D : List En} {p : Nat} (h : es ++ decL (400 - es.length) (xs.drop p) = D) (hp : p < xs.length) (hl : es.length < 400) (x : Nat) (hx : xs[p]?.getD 0 = x) :
    ((x < 1 ∨ 6 < x) → (es ++ [zeroE]) ++ decL (400 - (es ++ [zeroE]).length) (xs.drop (p + 1)) = D) ∧ (¬ (x < 1 ∨ 6 < x) → xs.length - (p + 1) < needN x → es ++ [zeroE] = D) ∧
    (¬ (x < 1 ∨ 6 < x) → ¬ xs.length - (p + 1) < needN x → (es ++ [oneE x (xs.drop (p + 1))]) ++ decL (400 - (es ++ [oneE x (xs.drop (p + 1))]).length) (xs.drop (p + 1 + needN x)) = D) := by
  have hr : 400 - es.length = (400 - (es.length + 1)) + 1 := by omega
  have hd : xs.drop p = x :: xs.drop (p + 1) := by rw [List.drop_eq_getElem_cons hp]; rw [List.getElem?_eq_getElem hp] at hx; simp only [Option.getD_some] at hx; rw [hx]
  rw [hr, hd, decL, List.length_drop] at h
  refine ⟨fun h1 => ?_, fun h1 h2 => ?_, fun h1 h2 => ?_⟩
  · rw [if_pos h1] at h; rw [List.append_assoc, List.length_append]; exact h
  · rw [if_neg h1, if_pos h2] at h; exact h
  · rw [if_neg h1, if_neg h2, List.drop_drop] at h; rw [List.append_assoc, List.length_append]; exact h
theorem decL_end {xs : List Nat} {es D : List En} {p : Nat} (h : es ++ decL (400 - es.length) (xs.drop p) = D) (he : xs.length ≤ p ∨ 400 ≤ es.length) : es = D := by
  rcases he with he | he
  · rw [List.drop_of_length_le he, decL_nil, List.append_nil] at h; exact h
  · rw [show 400 - es.length = 0 by omega] at h; simpa [decL] using h
theorem decL_start (xs : List Nat) : ([] : List En) ++ decL (400 - ([] : List En).length) (xs.drop 0) = decL 400 xs := rfl
theorem needN_le (x : Nat) : needN x ≤ 22 := by unfold needN; split; decide; split; decide; split; decide; split; decide; decide

/-- What a decoding answers. -/
def DecPost (w : World) (xs : List Nat) (e : Ending) (w' : World) : Prop := ∃ v, e = .returned v ∧ OwnE w' w.heap.size v (decL 400 xs) ∧ Below w.heap.size w w'

set_option maxRecDepth 100000 in
set_option maxHeartbeats 3200000 in
theorem ref32Decode (w : World) (a : Option Addr) (len cap : Nat) (xs : List Nat) (hs : Seen .u8 w a len cap xs) (hf : Fit 256 xs) :
    Calls Try.prog 23 #[.slice a len cap] w (DecPost w xs) := by
  have hl := hs.1
  have hcl : len ≤ 9223372036854775807 := by have := hs.2.1; have := hs.2.2.1; omega
  have HS := hid hs
  have DA := hidAll fun es => hidAll fun p => fun h => hidAll fun hp => fun h2 => fun x => fun hx => (@decL_at xs es (decL 400 xs) p h hp h2 x hx)
  have DE := hidAll fun es => hidAll fun p => fun h => (@decL_end xs es (decL 400 xs) p h)
  have DS := hid (decL_start xs)
  have HF := hid hf
  unfold DecPost
  generalize decL 400 xs = D at DA DE DS ⊢
  clear hs
  go_enter Try.func23, Try.ntmps23
  go_wp2_with fail
  go_loopw [3, 4, 5] (fun u p kd wr => ∃ (q : Nat) (es : List En), q ≤ len ∧ p = .int .i64 (q : Int) ∧ OwnE wr w.heap.size u es ∧ es.length ≤ 400 ∧ RowKit.Hid (es ++ decL (400 - es.length) (xs.drop q) = D) ∧ Below w.heap.size w wr) (fun _ p _ _ => len - (intOf p).toNat)
  case atStart => exact ⟨0, [], by omega, rfl, OwnE.built w w.heap.size [] #[] 0 (Nat.le_refl _) rfl (by decide) rfl, by decide, DS, bel⟩
  case round =>
    obtain ⟨q, es, hq, rfl, ho, hel, hE, hB⟩ := hrel
    obtain ⟨a1, c1, hv⟩ := ho.form
    subst hv
    have hz := hB.size
    by_cases hlt : q < len
    · by_cases hfull : es.length < 400
      · have hsw := HS.out.below hB
        have hc : ∃ b off, a = some ⟨b, off, none⟩ := by
          rcases hsw.2.2.2 with ⟨h4, _⟩ | ⟨b, off, ha, _⟩
          · omega
          · exact ⟨b, off, ha⟩
        obtain ⟨b, off, rfl⟩ := hc
        have c0 : wr.cell? ⟨b, off + q, none⟩ = some (.int .u8 ((xs[q]?.getD 0 : Nat) : Int)) := by
          rcases hsw.2.2.2 with ⟨h4, _⟩ | ⟨b', off', ha, hc⟩
          · omega
          · cases ha; exact hc q hlt
        have hx := HF.out.getD (by omega) q
        have K := ((DA.out es).out q) hE.out
        have K := K.out (by omega) hfull _ rfl
        have ON := hidAll fun w' => hidAll fun (h : Seen .u8 w' (some ⟨b, off, none⟩) len cap xs) => fun p hp h1 h2 => ((show ∀ p : Int, p = ((q + 1 : Nat) : Int) → q + 1 + needN (xs[q]?.getD 0) ≤ len → ¬ (xs[q]?.getD 0 < 1 ∨ 6 < xs[q]?.getD 0) → Calls Try.prog 82 #[.int .i64 ((xs[q]?.getD 0 : Nat) : Int), .slice (some ⟨b, off, none⟩) len cap, .int .i64 p] w' fun e w'' => e = .returned (enV (oneE (xs[q]?.getD 0) (xs.drop (q + 1)))) ∧ Below w'.heap.size w' w'' from fun p hp h1 h2 => by subst hp; exact ref32one _ (q + 1) w' b off len cap xs h HF.out h1 h2) p hp h1 h2)
        have NN := hid (needN_le (xs[q]?.getD 0))
        have ND := hidAll fun w => enNeed (xs[q]?.getD 0) w
        generalize xs[q]?.getD 0 = x at c0 hx K ON NN ND
        obtain ⟨K1, K2, K3⟩ := K
        have K1 := hid K1; have K2 := hid K2; have K3 := hid K3
        by_cases hfar : x < 1 ∨ 6 < x
        · have hE2 := hid (K1.out hfar)
          have hlx : (es ++ [zeroE]).length ≤ 400 := by rw [List.length_append]; simp; omega
          have hX := hid hfar
          have go : ∀ _ : Unit, True := fun _ => trivial
          rcases hfar with h1 | h1
          all_goals
            clear K1 K2 K3 ON ND
            go_wp2_with (at_builtin; refine wpAppendE rfl (.tmp 29) (.tmp 31) rfl _ w.heap.size _ es rfl (ho.kept ((Below.refl _ _).alloc (Nat.le_refl _) _) (Nat.le_refl _)) zeroE wr.heap.size 1 rfl (blkT_new rfl) (by omega) (by simp; omega) ?_; intro v' w4 hown hgrow)
            have hB1 : Below w.heap.size w w4 := (hB.alloc (by omega) _).grown hgrow (by simp; omega) (by intro j hj; exact ho.block hj)
            clear hgrow ho hB
            go_roundw
            case rel => exact ⟨q + 1, es ++ [zeroE], by omega, by go_num, hown, hlx, hE2, hB1⟩
            case measure => simp [intOf]; omega
        · have hx1 : 1 ≤ x := by omega
          have hx6 : x ≤ 6 := by omega
          by_cases hcut : len - (q + 1) < needN x
          · have hE2 := hid (K2.out hfar (by rw [hl]; exact hcut))
            have hcI : ((len : Int) - ((q : Int) + 1) < (needN x : Int)) := by omega
            clear K1 K2 K3 ON hfar hcut
            go_wp2_with fail
            refine (ND.out _).mono ?_
            rintro e _ ⟨rfl, rfl⟩
            go_wp2_with (at_builtin; refine wpAppendE rfl (.tmp 40) (.tmp 42) rfl _ w.heap.size _ es rfl (ho.kept ((Below.refl _ _).alloc (Nat.le_refl _) _) (Nat.le_refl _)) zeroE wr.heap.size 1 rfl (blkT_new rfl) (by omega) (by simp; omega) ?_; intro v' w4 hown hgrow)
            have hB1 : Below w.heap.size w w4 := (hB.alloc (by omega) _).grown hgrow (by simp; omega) (by intro j hj; exact ho.block hj)
            rw [hE2.out] at hown
            go_ret
            exact ⟨_, rfl, hown, hB1⟩
          · have hE2 := hid (K3.out hfar (by rw [hl]; exact hcut))
            have hlx : (es ++ [oneE x (xs.drop (q + 1))]).length ≤ 400 := by rw [List.length_append]; simp; omega
            have hcI : ¬ ((len : Int) - ((q : Int) + 1) < (needN x : Int)) := by omega
            have hnI : q + 1 + needN x ≤ len := by omega
            have OO := hid fun w' h p hp => (ON.out w').out h p hp hnI hfar
            generalize hU : oneE x (xs.drop (q + 1)) = U at OO hE2 hlx
            clear K1 K2 K3 ON hfar hcut hU
            go_wp2_with fail
            refine (ND.out _).mono ?_
            rintro e _ ⟨rfl, rfl⟩
            go_wp2_with fail
            refine (OO.out _ hsw _ (by go_num)).mono ?_
            rintro e w3 ⟨rfl, hb3⟩
            have ho3 := ho.kept hb3 (Nat.le_refl _)
            have hB3 : Below w.heap.size w w3 := hB.trans (hb3.mono hz)
            have hz3 := hB3.size
            have hzr := hb3.size
            clear hb3 ho hB
            unfold enV
            go_wp2_with (at_builtin; refine wpAppendE rfl (.tmp 45) (.tmp 50) rfl _ w.heap.size _ es rfl (ho3.kept ((Below.refl _ _).alloc (Nat.le_refl _) _) (Nat.le_refl _)) U w3.heap.size 1 rfl (blkT_new rfl) (by omega) (by simp; omega) ?_; intro v' w4 hown hgrow)
            have hB4 : Below w.heap.size w w4 := (hB3.alloc (by omega) _).grown hgrow (by simp; omega) (by intro j hj; exact ho3.block hj)
            clear hgrow ho3 hB3
            refine (ND.out _).mono ?_
            rintro e _ ⟨rfl, rfl⟩
            go_wp2_with fail
            go_roundw
            case rel => exact ⟨q + 1 + needN x, es ++ [U], hnI, by go_num, hown, hlx, hE2, hB4⟩
            case measure => simp [intOf]; omega
      · have hE2 := hid (((DE.out es).out q) hE.out (.inr (by omega)))
        have hfI : ¬ ((es.length : Int) < 400) := by omega
        clear hfull
        go_wp2_with fail
        go_ret
        exact ⟨_, rfl, by rw [← hE2.out]; exact ho, hB⟩
    · have hE2 := hid (((DE.out es).out q) hE.out (.inl (by omega)))
      go_wp2_with fail
      go_ret
      exact ⟨_, rfl, by rw [← hE2.out]; exact ho, hB⟩
end Go.Proofs.Ytpeeaapheohehaa
