/- The walks of heads' decodings: which configuration words begin with the head of. -/
import Derived.Test.YtpeeaapheohehaaHeadDec
import Derived.Deep.RegionHeld3
namespace Go.Proofs.Ytpeeaapheohehaa
open Go.RowKit Go.Maps
set_option linter.unusedVariables false
set_option linter.unusedSimpArgs false

def cT (ws : List Nat) : Int := ((ws[2]?.getD 0 : Nat) : Int) % 65536
def cP (ws : List Nat) : Int := ((ws[2]?.getD 0 : Nat) : Int) / 65536 % 65536
def cS (ws : List Nat) : Int := ((ws[2]?.getD 0 : Nat) : Int) / 4294967296
/-- Do words begin with the head of a configuration? -/
def decB (ws : List Nat) : Bool := decide (8 ≤ ws.length) && (decide (cS ws ≤ 20) && rightC (cT ws) (cP ws) (cS ws)) && (ws.take 8 == headN (cT ws) (cP ws) (cS ws))
def decV (ws : List Nat) : Value := if decB ws = true then .tuple #[.agg #[.int .i64 (cT ws), .int .i64 (cP ws), .int .i64 (cS ws)], .int .i64 0] else .tuple #[.agg #[.int .i64 0, .int .i64 0, .int .i64 0], .int .i64 9]

theorem size_all {ws xs : List Nat} {n : Nat} (hn : xs.length = n) (hw : n ≤ ws.length) : size (entsOf (keepF xs ws n) xs n) = 0 ↔ ws.take n = xs := by
  rw [keep_last, take_iff hn hw]
theorem rightC000 : rightC 0 0 0 = false := by decide


theorem headDecShort (w : World) (a : Option Addr) (len cap : Nat) (ws : List Nat) (hs : Seen .u64 w a len cap ws) (hf : Fit 18446744073709551616 ws) (hl : len < 8) : Calls Try.prog 59 #[.slice a len cap] w fun e w' => e = .returned (decV ws) ∧ Below w.heap.size w w' := by
  have hlen := hs.1
  have H := hid (show decV ws = .tuple #[.agg #[.int .i64 0, .int .i64 0, .int .i64 0], .int .i64 9] by rw [decV, if_neg (by simp [decB]; omega)])
  clear hlen
  go_enter Try.func59, Try.ntmps59
  go_wp2_with fail
  exact bodyPost_ret (v := .tuple #[.agg #[.int .i64 0, .int .i64 0, .int .i64 0], .int .i64 9]) (by simp [results, Try.results59, go_sem]) rfl ⟨by rw [H.out], bel⟩

theorem refDecShort (w : World) (a : Option Addr) (len cap : Nat) (ws : List Nat) (hs : Seen .u64 w a len cap ws) (hf : Fit 18446744073709551616 ws) (hl : len < 8) : Calls Try.prog 60 #[.slice a len cap] w fun e w' => e = .returned (decV ws) ∧ Below w.heap.size w w' := by
  have hlen := hs.1
  have H := hid (show decV ws = .tuple #[.agg #[.int .i64 0, .int .i64 0, .int .i64 0], .int .i64 9] by rw [decV, if_neg (by simp [decB]; omega)])
  clear hlen
  go_enter Try.func60, Try.ntmps60
  go_wp2_with fail
  exact bodyPost_ret (v := .tuple #[.agg #[.int .i64 0, .int .i64 0, .int .i64 0], .int .i64 9]) (by simp [results, Try.results60, go_sem]) rfl ⟨by rw [H.out], bel⟩

set_option maxRecDepth 100000 in
set_option maxHeartbeats 3200000 in
theorem headDecNone (w : World) (a : Option Addr) (len cap : Nat) (ws : List Nat) (hs : Seen .u64 w a len cap ws) (hf : Fit 18446744073709551616 ws) (hl : 8 ≤ len) (hok : ¬ (((ws[2]?.getD 0 : Nat) : Int) / 4294967296 ≤ 20 ∧ rightC (((ws[2]?.getD 0 : Nat) : Int) % 65536) (((ws[2]?.getD 0 : Nat) : Int) / 65536 % 65536) (((ws[2]?.getD 0 : Nat) : Int) / 4294967296) = true)) : Calls Try.prog 59 #[.slice a len cap] w fun e w' => e = .returned (decV ws) ∧ Below w.heap.size w w' := by
  obtain ⟨h1, h2, h3, h4⟩ := id hs
  rcases h4 with ⟨h4, _⟩ | ⟨b0, off, rfl, hc⟩
  · omega
  have c2 : w.cell? ⟨b0, off + 2, none⟩ = some (.int .u64 ((ws[2]?.getD 0 : Nat) : Int)) := hc 2 (by omega)
  have hx2 := hf.getD (by omega) 2
  have hlt0 := World.block_lt_of_cell? w _ c2
  have LW := hid h1
  have O := hid (show ofC ((ws[2]?.getD 0 : Nat) : Int) = .tuple #[.agg #[.int .i64 0, .int .i64 0, .int .i64 0], .bool false] by rw [ofC, if_neg hok])
  have H := hid (show decV ws = .tuple #[.agg #[.int .i64 0, .int .i64 0, .int .i64 0], .int .i64 9] by
    rw [decV, if_neg]
    simp only [decB, Bool.and_eq_true, decide_eq_true_eq, beq_iff_eq]
    exact fun h => hok h.1.2)
  clear hok
  generalize hq2 : ws[2]?.getD 0 = x2 at c2 hx2 O
  clear hq2 hc h1
  go_enter Try.func59, Try.ntmps59
  go_wp2_with fail
  refine (confOf x2 _ hx2).mono ?_
  rw [O.out]
  rintro e w1 ⟨rfl, hb1⟩
  obtain ⟨hc1, hf1, hz1⟩ := after hb1
  have z1 : w.heap.size < w1.heap.size := by simp at hz1; omega
  have k0 : w1.cell? ⟨w.heap.size, 0, none⟩ = some (.int .i64 0) := by rw [hc1 _ _ (by simp)]; exact cellNew rfl rfl
  have k1 : w1.cell? ⟨w.heap.size, 1, none⟩ = some (.int .i64 0) := by rw [hc1 _ _ (by simp)]; exact cellNew rfl rfl
  have k2 : w1.cell? ⟨w.heap.size, 2, none⟩ = some (.int .i64 0) := by rw [hc1 _ _ (by simp)]; exact cellNew rfl rfl
  have m1 : ∀ o, w1.frozen? ⟨w.heap.size, o, none⟩ = false := by intro o; rw [hf1 _ _ (by simp)]; simp
  clear hc1
  go_wp2_with fail
  refine (wantedNo 0 0 0 _ rightC000).mono ?_
  rintro e w2 ⟨b, rfl, hbg, hbl, hown, hb2⟩
  obtain ⟨hc2, hf2, hz2⟩ := after hb2
  simp at hbg
  have z2 : w.heap.size < w2.heap.size := by omega
  have z2' : w1.heap.size < w2.heap.size := by omega
  have hB2 : Below w.heap.size w w2 := bel
  have k0 : w2.cell? ⟨w.heap.size, 0, none⟩ = some (.int .i64 0) := by rw [hc2 _ _ (by simp; omega)]; exact cellOld (by omega) k0
  have k1 : w2.cell? ⟨w.heap.size, 1, none⟩ = some (.int .i64 0) := by rw [hc2 _ _ (by simp; omega)]; exact cellOld (by omega) k1
  have k2 : w2.cell? ⟨w.heap.size, 2, none⟩ = some (.int .i64 0) := by rw [hc2 _ _ (by simp; omega)]; exact cellOld (by omega) k2
  have m2 : ∀ o, w2.frozen? ⟨w.heap.size, o, none⟩ = false := by intro o; rw [hf2 _ _ (by simp; omega), frozen?_alloc_cells]; exact m1 o
  have q0 : w2.cell? ⟨w1.heap.size, 0, none⟩ = some (.int .i64 0) := by rw [hc2 _ _ (by simp)]; exact cellNew rfl rfl
  have q1 : w2.cell? ⟨w1.heap.size, 1, none⟩ = some (.int .i64 0) := by rw [hc2 _ _ (by simp)]; exact cellNew rfl rfl
  have q2 : w2.cell? ⟨w1.heap.size, 2, none⟩ = some (.int .i64 0) := by rw [hc2 _ _ (by simp)]; exact cellNew rfl rfl
  clear hc2
  change w2.ownsMap Try.prog 3 (plainElem Try.prog 58) b 0 (entsOf (fun _ => true) [] 0) at hown
  rw [keep_first [] ws 0] at hown
  have N8 := hid (show ([] : List Nat).length = 0 from rfl)
  go_wp2_with fail
  go_loopw [25] (fun i wr => ∃ k : Nat, k ≤ 8 ∧ i = .int .i64 k ∧ wr.ownsMap Try.prog 3 (plainElem Try.prog 58) b 0 (entsOf (keepF [] ws k) [] 0) ∧ Hid (∀ j, j < w2.heap.size → j ≠ b → wr.heap[j]? = w2.heap[j]?) ∧ w2.heap.size ≤ wr.heap.size ∧ Below w.heap.size w wr) (fun i _ => 8 - (intOf i).toNat)
  case atStart => exact ⟨0, by omega, rfl, hown, hid (fun _ _ _ => rfl), Nat.le_refl _, hB2⟩
  case round =>
    obtain ⟨k, hk, rfl, hm, hsame, hzr, hB⟩ := hrel
    by_cases hlt : k < 8
    · have hsr := hs.below hB
      obtain ⟨_, _, _, h4⟩ := hsr
      rcases h4 with ⟨h4, _⟩ | ⟨b', off', he, hcr⟩
      · omega
      cases he
      have hc := hcr k (by omega)
      have hx : ws[k]?.getD 0 < 18446744073709551616 := hf.getD (by omega) k
      clear hcr
      have hat := hid (keep_at [] ws 0 k N8.out)
      have hdel := hid (keep_del [] ws 0 k)
      have hstay := hid (keep_stay [] ws 0 k)
      generalize [][k]?.getD 0 = y at hat hdel hstay
      generalize ws[k]?.getD 0 = x at hc hx hdel hstay
      by_cases hxy : y = x
      · subst hxy
        go_wp2_with (first
          | (at_lookup; refine wpList_lookup_own_int _ rfl _ _ 90 rfl 3 58 .u64 intLaw Try.underlying90 Try.underlying58 (zeroU64 _) b 0 _ rfl hm _ _ rfl (keyInt k (by omega)) ?_; rw [hat.out]; intro c hcc hwc; obtain rfl : (y : Int) = c := (by simpa using hcc); clear hcc)
          | (at_delete; refine wpList_delete_own _ rfl _ _ 90 3 rfl 58 intLaw Try.underlying90 _ b 0 _ rfl hm _ _ rfl (keyInt k (by omega)) ?_; intro w3 hm3 hturn3))
        rw [hdel.out rfl] at hm3
        have hg := hturn3.grown
        have hz3 := hg.size
        have hB3 := hB.grown hg (by omega) (by intro j hj; cases hj; omega)
        have hs3 := hid (show ∀ j, j < w2.heap.size → j ≠ b → w3.heap[j]? = w2.heap[j]? from fun j h h' => by rw [hg.block j (by omega) (by intro hh; cases hh; exact h' rfl)]; exact hsame.out j h h')
        clear hg hturn3
        go_roundw
        case rel => exact ⟨k + 1, by omega, by go_num, hm3, hs3, by omega, hB3⟩
        case measure => simp [intOf]; omega
      · have d : ((y : Int) == (x : Int)) = false := by rw [beq_eq_false_iff_ne]; omega
        go_wp2_with (first
          | (at_lookup; refine wpList_lookup_own_int _ rfl _ _ 90 rfl 3 58 .u64 intLaw Try.underlying90 Try.underlying58 (zeroU64 _) b 0 _ rfl hm _ _ rfl (keyInt k (by omega)) ?_; rw [hat.out]; intro c hcc hwc; obtain rfl : (y : Int) = c := (by simpa using hcc); clear hcc))
        rw [hstay.out hxy] at hm
        go_roundw
        case rel => exact ⟨k + 1, by omega, by go_num, hm, hsame, by omega, hB⟩
        case measure => simp [intOf]; omega
    · obtain rfl : k = 8 := by omega
      have hcell : ∀ j o, j < w2.heap.size → j ≠ b → wr.cell? ⟨j, o, none⟩ = w2.cell? ⟨j, o, none⟩ := fun j o h h' => World.cell?_of_block (hsame.out j h h')
      have hfroz : ∀ j o, j < w2.heap.size → j ≠ b → wr.frozen? ⟨j, o, none⟩ = w2.frozen? ⟨j, o, none⟩ := fun j o h h' => World.frozen?_of_block (hsame.out j h h')
      have k0 : wr.cell? ⟨w.heap.size, 0, none⟩ = some (.int .i64 0) := by rw [hcell _ _ z2 (by omega)]; exact k0
      have k1 : wr.cell? ⟨w.heap.size, 1, none⟩ = some (.int .i64 0) := by rw [hcell _ _ z2 (by omega)]; exact k1
      have k2 : wr.cell? ⟨w.heap.size, 2, none⟩ = some (.int .i64 0) := by rw [hcell _ _ z2 (by omega)]; exact k2
      have m3 : ∀ o, wr.frozen? ⟨w.heap.size, o, none⟩ = false := by intro o; rw [hfroz _ _ z2 (by omega)]; exact m2 o
      have q0 : wr.cell? ⟨w1.heap.size, 0, none⟩ = some (.int .i64 0) := by rw [hcell _ _ z2' (by omega)]; exact q0
      have q1 : wr.cell? ⟨w1.heap.size, 1, none⟩ = some (.int .i64 0) := by rw [hcell _ _ z2' (by omega)]; exact q1
      have q2 : wr.cell? ⟨w1.heap.size, 2, none⟩ = some (.int .i64 0) := by rw [hcell _ _ z2' (by omega)]; exact q2
      have z4 : w.heap.size < wr.heap.size := by omega
      clear hcell hfroz
      go_wp2_with fail
      exact bodyPost_ret (v := .tuple #[.agg #[.int .i64 0, .int .i64 0, .int .i64 0], .int .i64 9]) (by simp [results, Try.results59, go_sem, k0, k1, k2]) rfl ⟨by rw [H.out], bel⟩

set_option maxRecDepth 100000 in
set_option maxHeartbeats 3200000 in
theorem headDecAll (w : World) (a : Option Addr) (len cap : Nat) (ws : List Nat) (hs : Seen .u64 w a len cap ws) (hf : Fit 18446744073709551616 ws) (hl : 8 ≤ len) (hok : ((ws[2]?.getD 0 : Nat) : Int) / 4294967296 ≤ 20 ∧ rightC (((ws[2]?.getD 0 : Nat) : Int) % 65536) (((ws[2]?.getD 0 : Nat) : Int) / 65536 % 65536) (((ws[2]?.getD 0 : Nat) : Int) / 4294967296) = true) (heq : ws.take 8 = headN (cT ws) (cP ws) (cS ws)) : Calls Try.prog 59 #[.slice a len cap] w fun e w' => e = .returned (decV ws) ∧ Below w.heap.size w w' := by
  obtain ⟨h1, h2, h3, h4⟩ := id hs
  rcases h4 with ⟨h4, _⟩ | ⟨b0, off, rfl, hc⟩
  · omega
  have c2 : w.cell? ⟨b0, off + 2, none⟩ = some (.int .u64 ((ws[2]?.getD 0 : Nat) : Int)) := hc 2 (by omega)
  have hx2 := hf.getD (by omega) 2
  have hlt0 := World.block_lt_of_cell? w _ c2
  have LW := hid h1
  have O := hid (show ofC ((ws[2]?.getD 0 : Nat) : Int) = .tuple #[.agg #[.int .i64 (cT ws), .int .i64 (cP ws), .int .i64 (cS ws)], .bool true] by rw [ofC, if_pos hok]; rfl)
  have R := hid hok.2
  have H := hid (show decV ws = .tuple #[.agg #[.int .i64 (cT ws), .int .i64 (cP ws), .int .i64 (cS ws)], .int .i64 0] by
    rw [decV, if_pos]
    simp only [decB, Bool.and_eq_true, decide_eq_true_eq, beq_iff_eq]
    exact ⟨⟨by omega, hok⟩, heq⟩)
  have S := hid ((size_all (headN_length (cT ws) (cP ws) (cS ws)) (by omega : 8 ≤ ws.length)).2 heq)
  clear heq
  have hn8 := headN_length (cT ws) (cP ws) (cS ws)
  clear hok
  generalize hq2 : ws[2]?.getD 0 = x2 at c2 hx2 O
  clear hq2 hc h1
  go_enter Try.func59, Try.ntmps59
  go_wp2_with fail
  refine (confOf x2 _ hx2).mono ?_
  rw [O.out]
  rintro e w1 ⟨rfl, hb1⟩
  obtain ⟨hc1, hf1, hz1⟩ := after hb1
  have z1 : w.heap.size < w1.heap.size := by simp at hz1; omega
  have k0 : w1.cell? ⟨w.heap.size, 0, none⟩ = some (.int .i64 0) := by rw [hc1 _ _ (by simp)]; exact cellNew rfl rfl
  have k1 : w1.cell? ⟨w.heap.size, 1, none⟩ = some (.int .i64 0) := by rw [hc1 _ _ (by simp)]; exact cellNew rfl rfl
  have k2 : w1.cell? ⟨w.heap.size, 2, none⟩ = some (.int .i64 0) := by rw [hc1 _ _ (by simp)]; exact cellNew rfl rfl
  have m1 : ∀ o, w1.frozen? ⟨w.heap.size, o, none⟩ = false := by intro o; rw [hf1 _ _ (by simp)]; simp
  clear hc1
  go_wp2_with fail
  refine (wantedYes (cT ws) (cP ws) (cS ws) _ R.out).mono ?_
  rintro e w2 ⟨b, rfl, hbg, hbl, hown, hb2⟩
  obtain ⟨hc2, hf2, hz2⟩ := after hb2
  simp at hbg
  have z2 : w.heap.size < w2.heap.size := by omega
  have z2' : w1.heap.size < w2.heap.size := by omega
  have hB2 : Below w.heap.size w w2 := bel
  have k0 : w2.cell? ⟨w.heap.size, 0, none⟩ = some (.int .i64 0) := by rw [hc2 _ _ (by simp; omega)]; exact cellOld (by omega) k0
  have k1 : w2.cell? ⟨w.heap.size, 1, none⟩ = some (.int .i64 0) := by rw [hc2 _ _ (by simp; omega)]; exact cellOld (by omega) k1
  have k2 : w2.cell? ⟨w.heap.size, 2, none⟩ = some (.int .i64 0) := by rw [hc2 _ _ (by simp; omega)]; exact cellOld (by omega) k2
  have m2 : ∀ o, w2.frozen? ⟨w.heap.size, o, none⟩ = false := by intro o; rw [hf2 _ _ (by simp; omega), frozen?_alloc_cells]; exact m1 o
  have q0 : w2.cell? ⟨w1.heap.size, 0, none⟩ = some (.int .i64 (cT ws)) := by rw [hc2 _ _ (by simp)]; exact cellNew rfl rfl
  have q1 : w2.cell? ⟨w1.heap.size, 1, none⟩ = some (.int .i64 (cP ws)) := by rw [hc2 _ _ (by simp)]; exact cellNew rfl rfl
  have q2 : w2.cell? ⟨w1.heap.size, 2, none⟩ = some (.int .i64 (cS ws)) := by rw [hc2 _ _ (by simp)]; exact cellNew rfl rfl
  clear hc2
  rw [hn8] at hown
  rw [keep_first (headN (cT ws) (cP ws) (cS ws)) ws 8] at hown
  have N8 := hid hn8; clear hn8
  generalize (headN (cT ws) (cP ws) (cS ws)) = xs at hown S N8
  go_wp2_with fail
  go_loopw [25] (fun i wr => ∃ k : Nat, k ≤ 8 ∧ i = .int .i64 k ∧ wr.ownsMap Try.prog 3 (plainElem Try.prog 58) b 8 (entsOf (keepF xs ws k) xs 8) ∧ Hid (∀ j, j < w2.heap.size → j ≠ b → wr.heap[j]? = w2.heap[j]?) ∧ w2.heap.size ≤ wr.heap.size ∧ Below w.heap.size w wr) (fun i _ => 8 - (intOf i).toNat)
  case atStart => exact ⟨0, by omega, rfl, hown, hid (fun _ _ _ => rfl), Nat.le_refl _, hB2⟩
  case round =>
    obtain ⟨k, hk, rfl, hm, hsame, hzr, hB⟩ := hrel
    by_cases hlt : k < 8
    · have hsr := hs.below hB
      obtain ⟨_, _, _, h4⟩ := hsr
      rcases h4 with ⟨h4, _⟩ | ⟨b', off', he, hcr⟩
      · omega
      cases he
      have hc := hcr k (by omega)
      have hx : ws[k]?.getD 0 < 18446744073709551616 := hf.getD (by omega) k
      clear hcr
      have hat := hid (keep_at xs ws 8 k N8.out)
      have hdel := hid (keep_del xs ws 8 k)
      have hstay := hid (keep_stay xs ws 8 k)
      generalize xs[k]?.getD 0 = y at hat hdel hstay
      generalize ws[k]?.getD 0 = x at hc hx hdel hstay
      by_cases hxy : y = x
      · subst hxy
        go_wp2_with (first
          | (at_lookup; refine wpList_lookup_own_int _ rfl _ _ 90 rfl 3 58 .u64 intLaw Try.underlying90 Try.underlying58 (zeroU64 _) b 8 _ rfl hm _ _ rfl (keyInt k (by omega)) ?_; rw [hat.out]; intro c hcc hwc; obtain rfl : (y : Int) = c := (by simpa using hcc); clear hcc)
          | (at_delete; refine wpList_delete_own _ rfl _ _ 90 3 rfl 58 intLaw Try.underlying90 _ b 8 _ rfl hm _ _ rfl (keyInt k (by omega)) ?_; intro w3 hm3 hturn3))
        rw [hdel.out rfl] at hm3
        have hg := hturn3.grown
        have hz3 := hg.size
        have hB3 := hB.grown hg (by omega) (by intro j hj; cases hj; omega)
        have hs3 := hid (show ∀ j, j < w2.heap.size → j ≠ b → w3.heap[j]? = w2.heap[j]? from fun j h h' => by rw [hg.block j (by omega) (by intro hh; cases hh; exact h' rfl)]; exact hsame.out j h h')
        clear hg hturn3
        go_roundw
        case rel => exact ⟨k + 1, by omega, by go_num, hm3, hs3, by omega, hB3⟩
        case measure => simp [intOf]; omega
      · have d : ((y : Int) == (x : Int)) = false := by rw [beq_eq_false_iff_ne]; omega
        go_wp2_with (first
          | (at_lookup; refine wpList_lookup_own_int _ rfl _ _ 90 rfl 3 58 .u64 intLaw Try.underlying90 Try.underlying58 (zeroU64 _) b 8 _ rfl hm _ _ rfl (keyInt k (by omega)) ?_; rw [hat.out]; intro c hcc hwc; obtain rfl : (y : Int) = c := (by simpa using hcc); clear hcc))
        rw [hstay.out hxy] at hm
        go_roundw
        case rel => exact ⟨k + 1, by omega, by go_num, hm, hsame, by omega, hB⟩
        case measure => simp [intOf]; omega
    · obtain rfl : k = 8 := by omega
      have hcell : ∀ j o, j < w2.heap.size → j ≠ b → wr.cell? ⟨j, o, none⟩ = w2.cell? ⟨j, o, none⟩ := fun j o h h' => World.cell?_of_block (hsame.out j h h')
      have hfroz : ∀ j o, j < w2.heap.size → j ≠ b → wr.frozen? ⟨j, o, none⟩ = w2.frozen? ⟨j, o, none⟩ := fun j o h h' => World.frozen?_of_block (hsame.out j h h')
      have k0 : wr.cell? ⟨w.heap.size, 0, none⟩ = some (.int .i64 0) := by rw [hcell _ _ z2 (by omega)]; exact k0
      have k1 : wr.cell? ⟨w.heap.size, 1, none⟩ = some (.int .i64 0) := by rw [hcell _ _ z2 (by omega)]; exact k1
      have k2 : wr.cell? ⟨w.heap.size, 2, none⟩ = some (.int .i64 0) := by rw [hcell _ _ z2 (by omega)]; exact k2
      have m3 : ∀ o, wr.frozen? ⟨w.heap.size, o, none⟩ = false := by intro o; rw [hfroz _ _ z2 (by omega)]; exact m2 o
      have q0 : wr.cell? ⟨w1.heap.size, 0, none⟩ = some (.int .i64 (cT ws)) := by rw [hcell _ _ z2' (by omega)]; exact q0
      have q1 : wr.cell? ⟨w1.heap.size, 1, none⟩ = some (.int .i64 (cP ws)) := by rw [hcell _ _ z2' (by omega)]; exact q1
      have q2 : wr.cell? ⟨w1.heap.size, 2, none⟩ = some (.int .i64 (cS ws)) := by rw [hcell _ _ z2' (by omega)]; exact q2
      have z4 : w.heap.size < wr.heap.size := by omega
      clear hcell hfroz
      have hlen := fun ty => hm.len (t := 90) Try.underlying90 ty
      rw [S.out] at hlen
      go_wp2_with fail
      exact bodyPost_ret (v := .tuple #[.agg #[.int .i64 (cT ws), .int .i64 (cP ws), .int .i64 (cS ws)], .int .i64 0]) (by simp [results, Try.results59, go_sem, k0, k1, k2]) rfl ⟨by rw [H.out], bel⟩

set_option maxRecDepth 100000 in
set_option maxHeartbeats 3200000 in
theorem headDecSome (w : World) (a : Option Addr) (len cap : Nat) (ws : List Nat) (hs : Seen .u64 w a len cap ws) (hf : Fit 18446744073709551616 ws) (hl : 8 ≤ len) (hok : ((ws[2]?.getD 0 : Nat) : Int) / 4294967296 ≤ 20 ∧ rightC (((ws[2]?.getD 0 : Nat) : Int) % 65536) (((ws[2]?.getD 0 : Nat) : Int) / 65536 % 65536) (((ws[2]?.getD 0 : Nat) : Int) / 4294967296) = true) (heq : ¬ ws.take 8 = headN (cT ws) (cP ws) (cS ws)) : Calls Try.prog 59 #[.slice a len cap] w fun e w' => e = .returned (decV ws) ∧ Below w.heap.size w w' := by
  obtain ⟨h1, h2, h3, h4⟩ := id hs
  rcases h4 with ⟨h4, _⟩ | ⟨b0, off, rfl, hc⟩
  · omega
  have c2 : w.cell? ⟨b0, off + 2, none⟩ = some (.int .u64 ((ws[2]?.getD 0 : Nat) : Int)) := hc 2 (by omega)
  have hx2 := hf.getD (by omega) 2
  have hlt0 := World.block_lt_of_cell? w _ c2
  have LW := hid h1
  have O := hid (show ofC ((ws[2]?.getD 0 : Nat) : Int) = .tuple #[.agg #[.int .i64 (cT ws), .int .i64 (cP ws), .int .i64 (cS ws)], .bool true] by rw [ofC, if_pos hok]; rfl)
  have R := hid hok.2
  have H := hid (show decV ws = .tuple #[.agg #[.int .i64 0, .int .i64 0, .int .i64 0], .int .i64 9] by rw [decV, if_neg (by simp [decB, heq])])
  obtain ⟨m, hm⟩ : ∃ m, size (entsOf (keepF (headN (cT ws) (cP ws) (cS ws)) ws 8) (headN (cT ws) (cP ws) (cS ws)) 8) = m + 1 := by
    have h0 := mt (size_all (headN_length (cT ws) (cP ws) (cS ws)) (by omega : 8 ≤ ws.length)).1 heq
    exact ⟨_, (Nat.succ_pred_eq_of_ne_zero h0).symm⟩
  have S := hid hm
  clear heq hm
  have hn8 := headN_length (cT ws) (cP ws) (cS ws)
  clear hok
  generalize hq2 : ws[2]?.getD 0 = x2 at c2 hx2 O
  clear hq2 hc h1
  go_enter Try.func59, Try.ntmps59
  go_wp2_with fail
  refine (confOf x2 _ hx2).mono ?_
  rw [O.out]
  rintro e w1 ⟨rfl, hb1⟩
  obtain ⟨hc1, hf1, hz1⟩ := after hb1
  have z1 : w.heap.size < w1.heap.size := by simp at hz1; omega
  have k0 : w1.cell? ⟨w.heap.size, 0, none⟩ = some (.int .i64 0) := by rw [hc1 _ _ (by simp)]; exact cellNew rfl rfl
  have k1 : w1.cell? ⟨w.heap.size, 1, none⟩ = some (.int .i64 0) := by rw [hc1 _ _ (by simp)]; exact cellNew rfl rfl
  have k2 : w1.cell? ⟨w.heap.size, 2, none⟩ = some (.int .i64 0) := by rw [hc1 _ _ (by simp)]; exact cellNew rfl rfl
  have m1 : ∀ o, w1.frozen? ⟨w.heap.size, o, none⟩ = false := by intro o; rw [hf1 _ _ (by simp)]; simp
  clear hc1
  go_wp2_with fail
  refine (wantedYes (cT ws) (cP ws) (cS ws) _ R.out).mono ?_
  rintro e w2 ⟨b, rfl, hbg, hbl, hown, hb2⟩
  obtain ⟨hc2, hf2, hz2⟩ := after hb2
  simp at hbg
  have z2 : w.heap.size < w2.heap.size := by omega
  have z2' : w1.heap.size < w2.heap.size := by omega
  have hB2 : Below w.heap.size w w2 := bel
  have k0 : w2.cell? ⟨w.heap.size, 0, none⟩ = some (.int .i64 0) := by rw [hc2 _ _ (by simp; omega)]; exact cellOld (by omega) k0
  have k1 : w2.cell? ⟨w.heap.size, 1, none⟩ = some (.int .i64 0) := by rw [hc2 _ _ (by simp; omega)]; exact cellOld (by omega) k1
  have k2 : w2.cell? ⟨w.heap.size, 2, none⟩ = some (.int .i64 0) := by rw [hc2 _ _ (by simp; omega)]; exact cellOld (by omega) k2
  have m2 : ∀ o, w2.frozen? ⟨w.heap.size, o, none⟩ = false := by intro o; rw [hf2 _ _ (by simp; omega), frozen?_alloc_cells]; exact m1 o
  have q0 : w2.cell? ⟨w1.heap.size, 0, none⟩ = some (.int .i64 (cT ws)) := by rw [hc2 _ _ (by simp)]; exact cellNew rfl rfl
  have q1 : w2.cell? ⟨w1.heap.size, 1, none⟩ = some (.int .i64 (cP ws)) := by rw [hc2 _ _ (by simp)]; exact cellNew rfl rfl
  have q2 : w2.cell? ⟨w1.heap.size, 2, none⟩ = some (.int .i64 (cS ws)) := by rw [hc2 _ _ (by simp)]; exact cellNew rfl rfl
  clear hc2
  rw [hn8] at hown
  rw [keep_first (headN (cT ws) (cP ws) (cS ws)) ws 8] at hown
  have N8 := hid hn8; clear hn8
  generalize (headN (cT ws) (cP ws) (cS ws)) = xs at hown S N8
  go_wp2_with fail
  go_loopw [25] (fun i wr => ∃ k : Nat, k ≤ 8 ∧ i = .int .i64 k ∧ wr.ownsMap Try.prog 3 (plainElem Try.prog 58) b 8 (entsOf (keepF xs ws k) xs 8) ∧ Hid (∀ j, j < w2.heap.size → j ≠ b → wr.heap[j]? = w2.heap[j]?) ∧ w2.heap.size ≤ wr.heap.size ∧ Below w.heap.size w wr) (fun i _ => 8 - (intOf i).toNat)
  case atStart => exact ⟨0, by omega, rfl, hown, hid (fun _ _ _ => rfl), Nat.le_refl _, hB2⟩
  case round =>
    obtain ⟨k, hk, rfl, hm, hsame, hzr, hB⟩ := hrel
    by_cases hlt : k < 8
    · have hsr := hs.below hB
      obtain ⟨_, _, _, h4⟩ := hsr
      rcases h4 with ⟨h4, _⟩ | ⟨b', off', he, hcr⟩
      · omega
      cases he
      have hc := hcr k (by omega)
      have hx : ws[k]?.getD 0 < 18446744073709551616 := hf.getD (by omega) k
      clear hcr
      have hat := hid (keep_at xs ws 8 k N8.out)
      have hdel := hid (keep_del xs ws 8 k)
      have hstay := hid (keep_stay xs ws 8 k)
      generalize xs[k]?.getD 0 = y at hat hdel hstay
      generalize ws[k]?.getD 0 = x at hc hx hdel hstay
      by_cases hxy : y = x
      · subst hxy
        go_wp2_with (first
          | (at_lookup; refine wpList_lookup_own_int _ rfl _ _ 90 rfl 3 58 .u64 intLaw Try.underlying90 Try.underlying58 (zeroU64 _) b 8 _ rfl hm _ _ rfl (keyInt k (by omega)) ?_; rw [hat.out]; intro c hcc hwc; obtain rfl : (y : Int) = c := (by simpa using hcc); clear hcc)
          | (at_delete; refine wpList_delete_own _ rfl _ _ 90 3 rfl 58 intLaw Try.underlying90 _ b 8 _ rfl hm _ _ rfl (keyInt k (by omega)) ?_; intro w3 hm3 hturn3))
        rw [hdel.out rfl] at hm3
        have hg := hturn3.grown
        have hz3 := hg.size
        have hB3 := hB.grown hg (by omega) (by intro j hj; cases hj; omega)
        have hs3 := hid (show ∀ j, j < w2.heap.size → j ≠ b → w3.heap[j]? = w2.heap[j]? from fun j h h' => by rw [hg.block j (by omega) (by intro hh; cases hh; exact h' rfl)]; exact hsame.out j h h')
        clear hg hturn3
        go_roundw
        case rel => exact ⟨k + 1, by omega, by go_num, hm3, hs3, by omega, hB3⟩
        case measure => simp [intOf]; omega
      · have d : ((y : Int) == (x : Int)) = false := by rw [beq_eq_false_iff_ne]; omega
        go_wp2_with (first
          | (at_lookup; refine wpList_lookup_own_int _ rfl _ _ 90 rfl 3 58 .u64 intLaw Try.underlying90 Try.underlying58 (zeroU64 _) b 8 _ rfl hm _ _ rfl (keyInt k (by omega)) ?_; rw [hat.out]; intro c hcc hwc; obtain rfl : (y : Int) = c := (by simpa using hcc); clear hcc))
        rw [hstay.out hxy] at hm
        go_roundw
        case rel => exact ⟨k + 1, by omega, by go_num, hm, hsame, by omega, hB⟩
        case measure => simp [intOf]; omega
    · obtain rfl : k = 8 := by omega
      have hcell : ∀ j o, j < w2.heap.size → j ≠ b → wr.cell? ⟨j, o, none⟩ = w2.cell? ⟨j, o, none⟩ := fun j o h h' => World.cell?_of_block (hsame.out j h h')
      have hfroz : ∀ j o, j < w2.heap.size → j ≠ b → wr.frozen? ⟨j, o, none⟩ = w2.frozen? ⟨j, o, none⟩ := fun j o h h' => World.frozen?_of_block (hsame.out j h h')
      have k0 : wr.cell? ⟨w.heap.size, 0, none⟩ = some (.int .i64 0) := by rw [hcell _ _ z2 (by omega)]; exact k0
      have k1 : wr.cell? ⟨w.heap.size, 1, none⟩ = some (.int .i64 0) := by rw [hcell _ _ z2 (by omega)]; exact k1
      have k2 : wr.cell? ⟨w.heap.size, 2, none⟩ = some (.int .i64 0) := by rw [hcell _ _ z2 (by omega)]; exact k2
      have m3 : ∀ o, wr.frozen? ⟨w.heap.size, o, none⟩ = false := by intro o; rw [hfroz _ _ z2 (by omega)]; exact m2 o
      have q0 : wr.cell? ⟨w1.heap.size, 0, none⟩ = some (.int .i64 (cT ws)) := by rw [hcell _ _ z2' (by omega)]; exact q0
      have q1 : wr.cell? ⟨w1.heap.size, 1, none⟩ = some (.int .i64 (cP ws)) := by rw [hcell _ _ z2' (by omega)]; exact q1
      have q2 : wr.cell? ⟨w1.heap.size, 2, none⟩ = some (.int .i64 (cS ws)) := by rw [hcell _ _ z2' (by omega)]; exact q2
      have z4 : w.heap.size < wr.heap.size := by omega
      clear hcell hfroz
      have hlen := fun ty => hm.len (t := 90) Try.underlying90 ty
      rw [S.out] at hlen
      go_wp2_with fail
      exact bodyPost_ret (v := .tuple #[.agg #[.int .i64 0, .int .i64 0, .int .i64 0], .int .i64 9]) (by simp [results, Try.results59, go_sem, k0, k1, k2]) rfl ⟨by rw [H.out], bel⟩

theorem headDec (w : World) (a : Option Addr) (len cap : Nat) (ws : List Nat) (hs : Seen .u64 w a len cap ws) (hf : Fit 18446744073709551616 ws) : Calls Try.prog 59 #[.slice a len cap] w fun e w' => e = .returned (decV ws) ∧ Below w.heap.size w w' := by
  by_cases hl : len < 8
  · exact headDecShort w a len cap ws hs hf hl
  by_cases hok : ((ws[2]?.getD 0 : Nat) : Int) / 4294967296 ≤ 20 ∧ rightC (((ws[2]?.getD 0 : Nat) : Int) % 65536) (((ws[2]?.getD 0 : Nat) : Int) / 65536 % 65536) (((ws[2]?.getD 0 : Nat) : Int) / 4294967296) = true
  · by_cases heq : ws.take 8 = headN (cT ws) (cP ws) (cS ws)
    · exact headDecAll w a len cap ws hs hf (by omega) hok heq
    · exact headDecSome w a len cap ws hs hf (by omega) hok heq
  · exact headDecNone w a len cap ws hs hf (by omega) hok
end Go.Proofs.Ytpeeaapheohehaa
