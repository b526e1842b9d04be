/- The walk of the statement on heads encoded and decoded: it answers true. -/
import Derived.Test.YtpeeaapheohehaaHeadLaws2
namespace Go.Proofs.Ytpeeaapheohehaa
open Go.RowKit
set_option linter.unusedVariables false
set_option linter.unusedSimpArgs false

theorem head7_at (t p s : Int) : (head7 t p s)[2]?.getD 0 = (t + p * 65536 + s * 4294967296).toNat := by simp [head7]
theorem head7_length (t p s : Int) : (head7 t p s).length = 7 := by simp [head7]
theorem decV_head {t p s : Int} (hr : rightC t p s = true) (ms : List Nat) : decV (headN t p s ++ ms) = .tuple #[.agg #[.int .i64 t, .int .i64 p, .int .i64 s], .int .i64 0] := by
  have e : (headN t p s ++ ms)[2]?.getD 0 = (t + p * 65536 + s * 4294967296).toNat := by
    rw [List.getElem?_append_left (by rw [headN_length]; omega), headN, List.getElem?_append_left (by rw [head7_length]; omega), head7_at]
  have l8 := headN_length t p s
  obtain ⟨⟨h1, h2⟩, ⟨h3, h4⟩, h5, h6⟩ := rightC_of hr
  have c1 : cT (headN t p s ++ ms) = t := by unfold cT; rw [e]; omega
  have c2 : cP (headN t p s ++ ms) = p := by unfold cP; rw [e]; omega
  have c3 : cS (headN t p s ++ ms) = s := by unfold cS; rw [e]; omega
  have hd : decB (headN t p s ++ ms) = true := by
    unfold decB
    rw [c1, c2, c3, hr, List.take_append_of_le_length (by omega), List.take_of_length_le (by omega)]
    simp [l8]
    omega
  rw [decV, hd, c1, c2, c3]
  rfl


set_option maxRecDepth 100000 in
set_option maxHeartbeats 3200000 in
theorem headBack00 (w : World) (t p s : Int) (a : Option Addr) (len cap : Nat) (ms : List Nat) (hs : Seen .u64 w a len cap ms) (hf : Fit 18446744073709551616 ms) (hg : cap * 8 ≤ 140737488351232) (hr : rightC t p s = false) (hd : decB ms = false) : Calls Try.prog 10 #[.agg #[.int .i64 t, .int .i64 p, .int .i64 s], .slice a len cap] w fun e w' => e = .returned (.bool true) ∧ Below w.heap.size w w' := by
  have hl2 := hs.2.1
  have LM := hid hs.1
  have R := hid hr
  have D2 := hid (show decV ms = .tuple #[.agg #[.int .i64 0, .int .i64 0, .int .i64 0], .int .i64 9] by rw [decV, hd]; rfl)
  clear hr hd
  go_enter Try.func10, Try.ntmps10
  go_wp2_with fail
  refine (headEncNo t p s _ R.out).mono ?_
  rintro e w3 ⟨rfl, hb3⟩
  have hz3 := hb3.size
  simp at hz3
  have z3 : w.heap.size < w3.heap.size := by omega
  have hB3 : Below w.heap.size w w3 := bel
  have hsA : Seen .u64 w3 a len cap ms := hs.below hB3
  go_wp2_with fail
  refine (headDec _ _ _ _ ms hsA hf).mono ?_
  rw [D2.out]
  rintro e w5 ⟨rfl, hb5⟩
  have hz5 := hb5.size
  try simp at hz5
  have z5 : w.heap.size < w5.heap.size := by omega
  have hB5 : Below w.heap.size w w5 := bel
  clear hb5
  go_wp2_with fail
  refine (headNum _ _ (by first | exact .inl rfl | exact .inr rfl)).mono ?_
  rintro e w6 ⟨rfl, rfl⟩
  go_wp2_with fail
  refine (liveHead _).mono ?_
  rintro e w7 ⟨rfl, hb7⟩
  go_wp2
  go_ret
  exact ⟨rfl, bel⟩

set_option maxRecDepth 100000 in
set_option maxHeartbeats 3200000 in
theorem headBack01 (w : World) (t p s : Int) (a : Option Addr) (len cap : Nat) (ms : List Nat) (hs : Seen .u64 w a len cap ms) (hf : Fit 18446744073709551616 ms) (hg : cap * 8 ≤ 140737488351232) (hr : rightC t p s = false) (hd : decB ms = true) : Calls Try.prog 10 #[.agg #[.int .i64 t, .int .i64 p, .int .i64 s], .slice a len cap] w fun e w' => e = .returned (.bool true) ∧ Below w.heap.size w w' := by
  have hl2 := hs.2.1
  have LM := hid hs.1
  have R := hid hr
  have D2 := hid (show decV ms = .tuple #[.agg #[.int .i64 (cT ms), .int .i64 (cP ms), .int .i64 (cS ms)], .int .i64 0] by rw [decV, hd]; rfl)
  have hd' : (8 ≤ ms.length ∧ cS ms ≤ 20 ∧ rightC (cT ms) (cP ms) (cS ms) = true) ∧ ms.take 8 = headN (cT ms) (cP ms) (cS ms) := by simpa [decB] using hd
  have hl8 : 8 ≤ len := by rw [← hs.1]; exact hd'.1.1
  have R2 := hid hd'.1.2.2
  have hs8 := hs.take 8 hl8
  rw [hd'.2] at hs8
  have hsl := hs.2.2.2
  clear hd'
  clear hr hd
  go_enter Try.func10, Try.ntmps10
  go_wp2_with fail
  refine (headEncNo t p s _ R.out).mono ?_
  rintro e w3 ⟨rfl, hb3⟩
  have hz3 := hb3.size
  simp at hz3
  have z3 : w.heap.size < w3.heap.size := by omega
  have hB3 : Below w.heap.size w w3 := bel
  have hsA : Seen .u64 w3 a len cap ms := hs.below hB3
  go_wp2_with fail
  refine (headDec _ _ _ _ ms hsA hf).mono ?_
  rw [D2.out]
  rintro e w5 ⟨rfl, hb5⟩
  have hz5 := hb5.size
  try simp at hz5
  have z5 : w.heap.size < w5.heap.size := by omega
  have hB5 : Below w.heap.size w w5 := bel
  clear hb5
  go_wp2_with fail
  refine (headNum _ _ (by first | exact .inl rfl | exact .inr rfl)).mono ?_
  rintro e w6 ⟨rfl, rfl⟩
  go_wp2_with fail
  have i1 : (8 : Int) ≤ (len : Int) := by omega
  have i2 : (8 : Int) ≤ (cap : Int) := by omega
  have i3 : (len : Int) ≤ (cap : Int) := by omega
  have zz : w5.heap.size < (w5.alloc (.cells #[.int .i64 (cT ms), .int .i64 (cP ms), .int .i64 (cS ms)] 23)).drew.heap.size := by simp
  have zz' : w.heap.size < (w5.alloc (.cells #[.int .i64 (cT ms), .int .i64 (cP ms), .int .i64 (cS ms)] 23)).drew.heap.size := by simp; omega
  have bb : Below w.heap.size w (w5.alloc (.cells #[.int .i64 (cT ms), .int .i64 (cP ms), .int .i64 (cS ms)] 23)).drew := (hB5.alloc (by omega) _).drew
  rcases hsl with ⟨h0, _⟩ | ⟨b0, off, rfl, _⟩
  · omega
  go_region_held3 (fun w' => (w'.cell? ⟨w5.heap.size, 0, none⟩ = some (.int .i64 (cT ms)) ∧ w'.cell? ⟨w5.heap.size, 1, none⟩ = some (.int .i64 (cP ms)) ∧ w'.cell? ⟨w5.heap.size, 2, none⟩ = some (.int .i64 (cS ms))) ∧ w5.heap.size < w'.heap.size ∧ w.heap.size < w'.heap.size)
    (((go_split_ands); (try dsimp only); (repeat' apply And.intro); (all_goals first | assumption | omega | go_keep)))
    (first
      | (go_at_call 15; refine (headEncYes _ _ _ _ R2.out).mono ?_; rintro e wx ⟨g, cap', rfl, hg, hgs, hown, hbx⟩; obtain ⟨hcx, hfx, hzx⟩ := after hbx; have hBx : Below w.heap.size w wx := bb.trans (hbx.mono (by omega)); have hsx := hs8.below hBx)
      | (go_at_call 14; refine (refSameWordsB _ _ _ _ _ _ _ (headN (cT ms) (cP ms) (cS ms)) (headN (cT ms) (cP ms) (cS ms)) (Own.seen (by assumption)) (by assumption)).mono ?_; simp only [beq_self_eq_true]; rintro e wx ⟨rfl, hbx⟩; obtain ⟨hcx, hfx, hzx⟩ := after hbx)
      | (go_at_call 17; refine (liveHead _).mono ?_; rintro e wx ⟨rfl, hbx⟩; obtain ⟨hcx, hfx, hzx⟩ := after hbx))
  all_goals go_wp2
  all_goals go_ret
  all_goals exact ⟨rfl, bel⟩

set_option maxRecDepth 100000 in
set_option maxHeartbeats 3200000 in
theorem headBack10 (w : World) (t p s : Int) (a : Option Addr) (len cap : Nat) (ms : List Nat) (hs : Seen .u64 w a len cap ms) (hf : Fit 18446744073709551616 ms) (hg : cap * 8 ≤ 140737488351232) (hr : rightC t p s = true) (hd : decB ms = false) : Calls Try.prog 10 #[.agg #[.int .i64 t, .int .i64 p, .int .i64 s], .slice a len cap] w fun e w' => e = .returned (.bool true) ∧ Below w.heap.size w w' := by
  have hl2 := hs.2.1
  have LM := hid hs.1
  have R := hid hr
  have DV := hid (decV_head hr ms)
  have FM := hid (show Fit 18446744073709551616 (headN t p s ++ ms) from fun x hx => (List.mem_append.1 hx).elim (headN_fit hr x) (hf x))
  have L8 := hid (headN_length t p s)
  have D2 := hid (show decV ms = .tuple #[.agg #[.int .i64 0, .int .i64 0, .int .i64 0], .int .i64 9] by rw [decV, hd]; rfl)
  clear hr hd
  go_enter Try.func10, Try.ntmps10
  go_wp2_with fail
  refine (headEncYes t p s _ R.out).mono ?_
  rintro e w1 ⟨g, cap1, rfl, hg1, hgs1, hown1, hb1⟩
  obtain ⟨hc1, hf1, hz1⟩ := after hb1
  generalize headN t p s = xs at *
  simp at hg1 hz1
  have z1 : w.heap.size < w1.heap.size := by omega
  have hB1 : Below w.heap.size w w1 := bel
  have c0 : w1.cell? ⟨w.heap.size, 0, none⟩ = some (.int .i64 t) := by rw [hc1 _ _ (by simp)]; exact cellNew rfl rfl
  have c1 : w1.cell? ⟨w.heap.size, 1, none⟩ = some (.int .i64 p) := by rw [hc1 _ _ (by simp)]; exact cellNew rfl rfl
  have c2 : w1.cell? ⟨w.heap.size, 2, none⟩ = some (.int .i64 s) := by rw [hc1 _ _ (by simp)]; exact cellNew rfl rfl
  clear hc1 hf1
  have hlx : xs.length = 8 := L8.out
  have hown1' : Own 58 .u64 w1 (w.heap.size + 1) (.slice (some ⟨g, 0, none⟩) 8 cap1) xs := by simpa using hown1
  go_wp2_with (at_builtin; refine wpAppend rfl (.tmp 16) (.tmp 17) 25 58 rfl .u64 (.int .u64 0) 8 Try.underlying25 infoU64 rfl _ (w.heap.size + 1) _ xs rfl hown1' _ _ _ ms rfl (hs.below hB1) (by unfold maxLen; omega) (by omega) (by omega) ?_; intro v' w2 hown2 hgrow2)
  have hB2' : Below (w.heap.size + 1) w1 w2 := (Below.refl _ _).grown hgrow2 (by omega) (by intro k hk; cases hk; show w.heap.size + 1 ≤ g; omega)
  obtain ⟨hc2, hf2, hz2⟩ : (∀ b o, b < w.heap.size + 1 → w2.cell? ⟨b, o, none⟩ = w1.cell? ⟨b, o, none⟩) ∧ (∀ b o, b < w.heap.size + 1 → w2.frozen? ⟨b, o, none⟩ = w1.frozen? ⟨b, o, none⟩) ∧ w1.heap.size ≤ w2.heap.size := ⟨fun b o h => hB2'.cell (p := ⟨b, o, none⟩) h, fun b o h => hB2'.frozen (p := ⟨b, o, none⟩) h, hB2'.size⟩
  have z2 : w.heap.size < w2.heap.size := by omega
  have hB2 : Below w.heap.size w w2 := hB1.trans (hB2'.mono (by omega))
  have c0 : w2.cell? ⟨w.heap.size, 0, none⟩ = some (.int .i64 t) := (hc2 _ _ (by omega)).trans c0
  have c1 : w2.cell? ⟨w.heap.size, 1, none⟩ = some (.int .i64 p) := (hc2 _ _ (by omega)).trans c1
  have c2 : w2.cell? ⟨w.heap.size, 2, none⟩ = some (.int .i64 s) := (hc2 _ _ (by omega)).trans c2
  clear hc2 hf2 hgrow2 hown1 hown1'
  obtain ⟨g2, cap2, hv, hg2, hgs2, hcap2⟩ := hown2.form (by simp; omega)
  rw [hv] at hown2 ⊢
  clear hv hlx
  have hs2 := hown2.seen
  go_wp2_with fail
  refine (headDec _ _ _ _ _ hs2 FM.out).mono ?_
  rw [DV.out]
  rintro e w3 ⟨rfl, hb3⟩
  obtain ⟨hc3, hf3, hz3⟩ := after hb3
  have z3 : w.heap.size < w3.heap.size := by omega
  have hB3 : Below w.heap.size w w3 := hB2.trans (hb3.mono (by omega))
  have c0 : w3.cell? ⟨w.heap.size, 0, none⟩ = some (.int .i64 t) := (hc3 _ _ (by omega)).trans c0
  have c1 : w3.cell? ⟨w.heap.size, 1, none⟩ = some (.int .i64 p) := (hc3 _ _ (by omega)).trans c1
  have c2 : w3.cell? ⟨w.heap.size, 2, none⟩ = some (.int .i64 s) := (hc3 _ _ (by omega)).trans c2
  clear hc3 hf3
  go_wp2_with fail
  refine (headNum 0 _ (.inl rfl)).mono ?_
  rintro e w4 ⟨rfl, rfl⟩
  have hsA : Seen .u64 (w3.alloc (.cells #[.int .i64 t, .int .i64 p, .int .i64 s] 23)) a len cap ms := hs.below (hB3.alloc (by omega) _)
  go_wp2_with fail
  refine (headDec _ _ _ _ ms hsA hf).mono ?_
  rw [D2.out]
  rintro e w5 ⟨rfl, hb5⟩
  have hz5 := hb5.size
  try simp at hz5
  have z5 : w.heap.size < w5.heap.size := by omega
  have hB5 : Below w.heap.size w w5 := bel
  clear hb5
  go_wp2_with fail
  refine (headNum _ _ (by first | exact .inl rfl | exact .inr rfl)).mono ?_
  rintro e w6 ⟨rfl, rfl⟩
  go_wp2_with fail
  refine (liveHead _).mono ?_
  rintro e w7 ⟨rfl, hb7⟩
  go_wp2
  go_ret
  exact ⟨rfl, bel⟩

set_option maxRecDepth 100000 in
set_option maxHeartbeats 3200000 in
theorem headBack11 (w : World) (t p s : Int) (a : Option Addr) (len cap : Nat) (ms : List Nat) (hs : Seen .u64 w a len cap ms) (hf : Fit 18446744073709551616 ms) (hg : cap * 8 ≤ 140737488351232) (hr : rightC t p s = true) (hd : decB ms = true) : Calls Try.prog 10 #[.agg #[.int .i64 t, .int .i64 p, .int .i64 s], .slice a len cap] w fun e w' => e = .returned (.bool true) ∧ Below w.heap.size w w' := by
  have hl2 := hs.2.1
  have LM := hid hs.1
  have R := hid hr
  have DV := hid (decV_head hr ms)
  have FM := hid (show Fit 18446744073709551616 (headN t p s ++ ms) from fun x hx => (List.mem_append.1 hx).elim (headN_fit hr x) (hf x))
  have L8 := hid (headN_length t p s)
  have D2 := hid (show decV ms = .tuple #[.agg #[.int .i64 (cT ms), .int .i64 (cP ms), .int .i64 (cS ms)], .int .i64 0] by rw [decV, hd]; rfl)
  have hd' : (8 ≤ ms.length ∧ cS ms ≤ 20 ∧ rightC (cT ms) (cP ms) (cS ms) = true) ∧ ms.take 8 = headN (cT ms) (cP ms) (cS ms) := by simpa [decB] using hd
  have hl8 : 8 ≤ len := by rw [← hs.1]; exact hd'.1.1
  have R2 := hid hd'.1.2.2
  have hs8 := hs.take 8 hl8
  rw [hd'.2] at hs8
  have hsl := hs.2.2.2
  clear hd'
  clear hr hd
  go_enter Try.func10, Try.ntmps10
  go_wp2_with fail
  refine (headEncYes t p s _ R.out).mono ?_
  rintro e w1 ⟨g, cap1, rfl, hg1, hgs1, hown1, hb1⟩
  obtain ⟨hc1, hf1, hz1⟩ := after hb1
  generalize headN t p s = xs at *
  simp at hg1 hz1
  have z1 : w.heap.size < w1.heap.size := by omega
  have hB1 : Below w.heap.size w w1 := bel
  have c0 : w1.cell? ⟨w.heap.size, 0, none⟩ = some (.int .i64 t) := by rw [hc1 _ _ (by simp)]; exact cellNew rfl rfl
  have c1 : w1.cell? ⟨w.heap.size, 1, none⟩ = some (.int .i64 p) := by rw [hc1 _ _ (by simp)]; exact cellNew rfl rfl
  have c2 : w1.cell? ⟨w.heap.size, 2, none⟩ = some (.int .i64 s) := by rw [hc1 _ _ (by simp)]; exact cellNew rfl rfl
  clear hc1 hf1
  have hlx : xs.length = 8 := L8.out
  have hown1' : Own 58 .u64 w1 (w.heap.size + 1) (.slice (some ⟨g, 0, none⟩) 8 cap1) xs := by simpa using hown1
  go_wp2_with (at_builtin; refine wpAppend rfl (.tmp 16) (.tmp 17) 25 58 rfl .u64 (.int .u64 0) 8 Try.underlying25 infoU64 rfl _ (w.heap.size + 1) _ xs rfl hown1' _ _ _ ms rfl (hs.below hB1) (by unfold maxLen; omega) (by omega) (by omega) ?_; intro v' w2 hown2 hgrow2)
  have hB2' : Below (w.heap.size + 1) w1 w2 := (Below.refl _ _).grown hgrow2 (by omega) (by intro k hk; cases hk; show w.heap.size + 1 ≤ g; omega)
  obtain ⟨hc2, hf2, hz2⟩ : (∀ b o, b < w.heap.size + 1 → w2.cell? ⟨b, o, none⟩ = w1.cell? ⟨b, o, none⟩) ∧ (∀ b o, b < w.heap.size + 1 → w2.frozen? ⟨b, o, none⟩ = w1.frozen? ⟨b, o, none⟩) ∧ w1.heap.size ≤ w2.heap.size := ⟨fun b o h => hB2'.cell (p := ⟨b, o, none⟩) h, fun b o h => hB2'.frozen (p := ⟨b, o, none⟩) h, hB2'.size⟩
  have z2 : w.heap.size < w2.heap.size := by omega
  have hB2 : Below w.heap.size w w2 := hB1.trans (hB2'.mono (by omega))
  have c0 : w2.cell? ⟨w.heap.size, 0, none⟩ = some (.int .i64 t) := (hc2 _ _ (by omega)).trans c0
  have c1 : w2.cell? ⟨w.heap.size, 1, none⟩ = some (.int .i64 p) := (hc2 _ _ (by omega)).trans c1
  have c2 : w2.cell? ⟨w.heap.size, 2, none⟩ = some (.int .i64 s) := (hc2 _ _ (by omega)).trans c2
  clear hc2 hf2 hgrow2 hown1 hown1'
  obtain ⟨g2, cap2, hv, hg2, hgs2, hcap2⟩ := hown2.form (by simp; omega)
  rw [hv] at hown2 ⊢
  clear hv hlx
  have hs2 := hown2.seen
  go_wp2_with fail
  refine (headDec _ _ _ _ _ hs2 FM.out).mono ?_
  rw [DV.out]
  rintro e w3 ⟨rfl, hb3⟩
  obtain ⟨hc3, hf3, hz3⟩ := after hb3
  have z3 : w.heap.size < w3.heap.size := by omega
  have hB3 : Below w.heap.size w w3 := hB2.trans (hb3.mono (by omega))
  have c0 : w3.cell? ⟨w.heap.size, 0, none⟩ = some (.int .i64 t) := (hc3 _ _ (by omega)).trans c0
  have c1 : w3.cell? ⟨w.heap.size, 1, none⟩ = some (.int .i64 p) := (hc3 _ _ (by omega)).trans c1
  have c2 : w3.cell? ⟨w.heap.size, 2, none⟩ = some (.int .i64 s) := (hc3 _ _ (by omega)).trans c2
  clear hc3 hf3
  go_wp2_with fail
  refine (headNum 0 _ (.inl rfl)).mono ?_
  rintro e w4 ⟨rfl, rfl⟩
  have hsA : Seen .u64 (w3.alloc (.cells #[.int .i64 t, .int .i64 p, .int .i64 s] 23)) a len cap ms := hs.below (hB3.alloc (by omega) _)
  go_wp2_with fail
  refine (headDec _ _ _ _ ms hsA hf).mono ?_
  rw [D2.out]
  rintro e w5 ⟨rfl, hb5⟩
  have hz5 := hb5.size
  try simp at hz5
  have z5 : w.heap.size < w5.heap.size := by omega
  have hB5 : Below w.heap.size w w5 := bel
  clear hb5
  go_wp2_with fail
  refine (headNum _ _ (by first | exact .inl rfl | exact .inr rfl)).mono ?_
  rintro e w6 ⟨rfl, rfl⟩
  go_wp2_with fail
  have i1 : (8 : Int) ≤ (len : Int) := by omega
  have i2 : (8 : Int) ≤ (cap : Int) := by omega
  have i3 : (len : Int) ≤ (cap : Int) := by omega
  have zz : w5.heap.size < (w5.alloc (.cells #[.int .i64 (cT ms), .int .i64 (cP ms), .int .i64 (cS ms)] 23)).drew.heap.size := by simp
  have zz' : w.heap.size < (w5.alloc (.cells #[.int .i64 (cT ms), .int .i64 (cP ms), .int .i64 (cS ms)] 23)).drew.heap.size := by simp; omega
  have bb : Below w.heap.size w (w5.alloc (.cells #[.int .i64 (cT ms), .int .i64 (cP ms), .int .i64 (cS ms)] 23)).drew := (hB5.alloc (by omega) _).drew
  rcases hsl with ⟨h0, _⟩ | ⟨b0, off, rfl, _⟩
  · omega
  go_region_held3 (fun w' => (w'.cell? ⟨w5.heap.size, 0, none⟩ = some (.int .i64 (cT ms)) ∧ w'.cell? ⟨w5.heap.size, 1, none⟩ = some (.int .i64 (cP ms)) ∧ w'.cell? ⟨w5.heap.size, 2, none⟩ = some (.int .i64 (cS ms))) ∧ w5.heap.size < w'.heap.size ∧ w.heap.size < w'.heap.size)
    (((go_split_ands); (try dsimp only); (repeat' apply And.intro); (all_goals first | assumption | omega | go_keep)))
    (first
      | (go_at_call 15; refine (headEncYes _ _ _ _ R2.out).mono ?_; rintro e wx ⟨g, cap', rfl, hg, hgs, hown, hbx⟩; obtain ⟨hcx, hfx, hzx⟩ := after hbx; have hBx : Below w.heap.size w wx := bb.trans (hbx.mono (by omega)); have hsx := hs8.below hBx)
      | (go_at_call 14; refine (refSameWordsB _ _ _ _ _ _ _ (headN (cT ms) (cP ms) (cS ms)) (headN (cT ms) (cP ms) (cS ms)) (Own.seen (by assumption)) (by assumption)).mono ?_; simp only [beq_self_eq_true]; rintro e wx ⟨rfl, hbx⟩; obtain ⟨hcx, hfx, hzx⟩ := after hbx)
      | (go_at_call 17; refine (liveHead _).mono ?_; rintro e wx ⟨rfl, hbx⟩; obtain ⟨hcx, hfx, hzx⟩ := after hbx))
  all_goals go_wp2
  all_goals go_ret
  all_goals exact ⟨rfl, bel⟩

theorem lawHeadBack (w : World) (t p s : Int) (a : Option Addr) (len cap : Nat) (ms : List Nat) (t1 : -9223372036854775808 ≤ t) (t2 : t ≤ 9223372036854775807) (p1 : -9223372036854775808 ≤ p) (p2 : p ≤ 9223372036854775807) (s1 : -9223372036854775808 ≤ s) (s2 : s ≤ 9223372036854775807) (hs : Seen .u64 w a len cap ms) (hf : Fit 18446744073709551616 ms) (hg : cap * 8 ≤ 140737488351232) : Calls Try.prog 10 #[.agg #[.int .i64 t, .int .i64 p, .int .i64 s], .slice a len cap] w fun e w' => e = .returned (.bool true) ∧ Below w.heap.size w w' := by
  have hr : ∃ c, rightC t p s = c := ⟨_, rfl⟩
  obtain ⟨c, hr⟩ := hr
  have hd : ∃ c, decB ms = c := ⟨_, rfl⟩
  obtain ⟨d, hd⟩ := hd
  cases c <;> cases d
  · exact headBack00 w t p s a len cap ms hs hf hg hr hd
  · exact headBack01 w t p s a len cap ms hs hf hg hr hd
  · exact headBack10 w t p s a len cap ms hs hf hg hr hd
  · exact headBack11 w t p s a len cap ms hs hf hg hr hd
end Go.Proofs.Ytpeeaapheohehaa
