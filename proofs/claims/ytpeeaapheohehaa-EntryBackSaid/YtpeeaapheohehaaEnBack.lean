/- The walk of the statement that what is encoded is decoded, entry by entry, and back: it answers true. -/
import Derived.Test.YtpeeaapheohehaaEnRight
import Derived.Test.YtpeeaapheohehaaEnDecodes
import Derived.Test.YtpeeaapheohehaaEnOpen
namespace Go.Proofs.Ytpeeaapheohehaa
open Go.RowKit
set_option linter.unusedVariables false
set_option linter.unusedSimpArgs false

def filt (l : List En) : List En := l.filter fun e => encB e
def bytesAll (l : List En) : List Nat := (filt l).flatMap bytesE
theorem filt_yes (l : List En) (e : En) (h : encB e = true) : filt (l ++ [e]) = filt l ++ [e] ∧ bytesAll (l ++ [e]) = bytesAll l ++ bytesE e := by
  have h1 : filt (l ++ [e]) = filt l ++ [e] := by simp [filt, h]
  exact ⟨h1, by simp [bytesAll, h1]⟩
theorem filt_no (l : List En) (e : En) (h : encB e = false) : filt (l ++ [e]) = filt l ∧ bytesAll (l ++ [e]) = bytesAll l := by
  have h1 : filt (l ++ [e]) = filt l := by simp [filt, h]
  exact ⟨h1, by simp [bytesAll, h1]⟩
theorem bytesE_len (e : En) : (bytesE e).length ≤ 40 := by
  unfold bytesE
  simp only [List.length_cons, List.length_append]
  repeat' split
  all_goals simp [be_length]
def bytesL (l : List En) : List Nat := l.flatMap bytesE
theorem flat_len (l : List En) : (l.flatMap bytesE).length ≤ l.length * 40 := by
  induction l with
  | nil => exact Nat.le_refl _
  | cons e l ih =>
    have := bytesE_len e
    rw [List.flatMap_cons, List.length_append, List.length_cons]
    omega
theorem filt_len (l : List En) : (filt l).length ≤ l.length := List.length_filter_le _ _
theorem back1 (es : List En) (hr : ∀ e ∈ es, rngAll e) (hl : es.length ≤ 400) : decL 400 (bytesAll es) = filt es :=
  decL_all (filt es) 400 (fun e he => ⟨(List.mem_filter.1 he).2, (hr e (List.mem_filter.1 he).1).1⟩) (Nat.le_trans (filt_len es) hl)
theorem back2 (xs : List Nat) (hf : Fit 256 xs) : (∀ e ∈ decL 400 xs, encB e = true) ∧ decL 400 (bytesL (decL 400 xs)) = decL 400 xs ∧ (decL 400 xs).length ≤ 400 :=
  ⟨fun e he => (decL_ok 400 xs hf e he).1, decL_all _ 400 (fun e he => decL_ok 400 xs hf e he) (decL_length 400 xs), decL_length 400 xs⟩
theorem flat_fit (l : List En) (h : ∀ e ∈ l, encB e = true) : Fit 256 (l.flatMap bytesE) := by
  intro x hx
  obtain ⟨e, he, hx⟩ := List.mem_flatMap.1 hx
  exact bytesE_fit e (h e he) x hx
theorem own_apart {k : IntKind} {e : TypeId} {w : World} {base base' : Nat} {v u : Value} {xs : List Nat} {es : List En} (h : Own e k w base v xs) (g : OwnE w base' u es) (hT : e ≠ 32) : ∀ b, v.ownBlock = some b → u.ownBlock ≠ some b := by
  intro b hb hu
  rcases h.2 with ⟨hv, _⟩ | ⟨g1, cap, cur, hv, hbs, hg1, rest⟩
  · rw [hv] at hb; cases hb
  · rcases g.2 with ⟨hv', _⟩ | ⟨g2, cap', cur', hv', hbs', hg2, rest'⟩
    · rw [hv'] at hu; cases hu
    · rw [hv] at hb; rw [hv'] at hu
      cases hb; cases hu
      rw [hg1] at hg2
      cases hg2
      exact hT rfl
theorem OwnE.grown {w w' : World} {base : Nat} {v u : Value} {es : List En} (h : OwnE w base u es) (hg : w.grownBy w' v.ownBlock) (hn : ∀ b, v.ownBlock = some b → u.ownBlock ≠ some b) : OwnE w' base u es := by
  refine ⟨h.1, ?_⟩
  rcases h.2 with hx | ⟨g, cap, cur, rfl, hbs, hgg, rest⟩
  · exact .inl hx
  · refine .inr ⟨g, cap, cur, rfl, hbs, ?_, rest⟩
    rw [hg.block g (Array.getElem?_eq_some_iff.1 hgg).1 (fun e => hn g e.symm rfl)]
    exact hgg
theorem Own.grownE {k : IntKind} {e : TypeId} {w w' : World} {base : Nat} {v u : Value} {xs : List Nat} (h : Own e k w base v xs) (hg : w.grownBy w' u.ownBlock) (hn : ∀ b, v.ownBlock = some b → u.ownBlock ≠ some b) : Own e k w' base v xs := by
  refine ⟨h.1, ?_⟩
  rcases h.2 with hx | ⟨g, cap, cur, rfl, hbs, hgg, rest⟩
  · exact .inl hx
  · refine .inr ⟨g, cap, cur, rfl, hbs, ?_, rest⟩
    rw [hg.block g (Array.getElem?_eq_some_iff.1 hgg).1 (fun e => hn g rfl e.symm)]
    exact hgg

set_option maxRecDepth 100000 in
set_option maxHeartbeats 1600000 in
theorem entryBackBig (w : World) (ct cp cs : Int) (a a2 : Option Addr) (len cap len2 cap2 : Nat) (h1 : len ≤ cap) (h2 : cap ≤ 9223372036854775807) (h3 : len2 ≤ cap2) (h4 : cap2 ≤ 9223372036854775807) (hf : 400 < len ∨ 20000 < len2) :
    Calls Try.prog 13 #[.agg #[.int .i64 ct, .int .i64 cp, .int .i64 cs], .slice a len cap, .slice a2 len2 cap2] w fun e w' => e = .returned (.bool true) ∧ Below w.heap.size w w' := by
  by_cases hl : 400 < len
  · clear hf
    go_enter Try.func13, Try.ntmps13
    go_wp2_with fail
    refine (live32 _).mono ?_
    rintro e w2 ⟨rfl, hb2⟩
    go_wp2_with fail
    go_ret
    exact ⟨rfl, bel⟩
  · have hl2 : 20000 < len2 := by omega
    clear hf
    go_enter Try.func13, Try.ntmps13
    go_wp2_with fail
    refine (live32 _).mono ?_
    rintro e w2 ⟨rfl, hb2⟩
    go_wp2_with fail
    go_ret
    exact ⟨rfl, bel⟩

set_option maxRecDepth 100000 in
set_option maxHeartbeats 12800000 in
theorem entryBackFew (w : World) (ct cp cs : Int) (a a2 : Option Addr) (len cap len2 cap2 : Nat) (es : List En) (xs : List Nat) (hse : SeenE w a len cap es) (hrn : ∀ e ∈ es, rngAll e) (hs : Seen .u8 w a2 len2 cap2 xs) (hx8 : Fit 256 xs) (h1 : len ≤ 400) (h2 : len2 ≤ 20000) :
    Calls Try.prog 13 #[.agg #[.int .i64 ct, .int .i64 cp, .int .i64 cs], .slice a len cap, .slice a2 len2 cap2] w fun e w' => e = .returned (.bool true) ∧ Below w.heap.size w w' := by
  have hx := extCell
  have hel := hse.1
  have HSE := hid fun wz (h : Below w.heap.size w wz) => hse.below h
  have HS := hid fun wz (h : Below w.heap.size w wz) => hs.below h
  have HF := hid hx8
  have HRN := hid hrn
  have HB1 := hid (back1 es hrn (by omega))
  obtain ⟨b21, b22, b23⟩ := back2 xs hx8
  have HB2 := hid b21; have HB3 := hid b22
  have hk0 : BlkT 23 (w.alloc (.cells #[.int .i64 ct, .int .i64 cp, .int .i64 cs] 23)) w.heap.size #[.int .i64 ct, .int .i64 cp, .int .i64 cs] := blkT_new rfl
  have hcap : len ≤ cap ∧ cap ≤ 9223372036854775807 := ⟨hse.2.1, hse.2.2.1⟩
  clear hse hs hx8 hrn b21 b22
  go_enter Try.func13, Try.ntmps13
  go_wp2_with fail
  go_loopw [7, 8, 9] (fun al so i wr => ∃ j : Nat, j ≤ len ∧ i = .int .i64 (j : Int) ∧ Own 5 .u8 wr (w.heap.size + 1) al (bytesAll (es.take j)) ∧ OwnE wr (w.heap.size + 1) so (filt (es.take j)) ∧ Below w.heap.size w wr ∧ BlkT 23 wr w.heap.size #[.int .i64 ct, .int .i64 cp, .int .i64 cs]) (fun _ _ i _ => len - (intOf i).toNat)
  case atStart => exact ⟨0, by omega, rfl, Own.nil _ _ _ _, OwnE.nil _ _, bel, hk0⟩
  case round =>
    obtain ⟨j, hj, rfl, ho, hoe, hB, hkq⟩ := hrel
    obtain ⟨a1, cp1, hv⟩ := ho.anyForm
    subst hv
    obtain ⟨ae, cpe, hv⟩ := hoe.form
    subst hv
    by_cases hlt : j < len
    · obtain ⟨b, off, rfl⟩ := (HSE.out wr hB).some_of (by omega)
      have hje : j < es.length := by omega
      have hmem : es[j]?.getD zeroE ∈ es := by rw [List.getElem?_eq_getElem hje]; exact List.getElem_mem hje
      have HTK := hid (show es.take (j + 1) = es.take j ++ [es[j]?.getD zeroE] by rw [List.take_succ_eq_append_getElem hje, List.getElem?_eq_getElem hje]; rfl)
      have hbl : (bytesAll (es.take j)).length ≤ 16000 := by
        have g1 := flat_len (filt (es.take j)); have g2 := filt_len (es.take j)
        rw [List.length_take] at g2
        rw [bytesAll]; omega
      have hfl : (filt (es.take j)).length ≤ 400 := by
        have g2 := filt_len (es.take j)
        rw [List.length_take] at g2
        omega
      have hbe := bytesE_len (es[j]?.getD zeroE)
      have hrg := (HRN.out _ hmem).2
      have hrt := hid (fun h => @right_enc ct cp cs (es[j]?.getD zeroE) h)
      have FY := hidAll fun h => filt_yes (es.take j) (es[j]?.getD zeroE) h
      have FN := hidAll fun h => filt_no (es.take j) (es[j]?.getD zeroE) h
      have RT := hidAll fun w => enRight ct cp cs (es[j]?.getD zeroE).k (es[j]?.getD zeroE).t (es[j]?.getD zeroE).num (es[j]?.getD zeroE).ok (es[j]?.getD zeroE).oa (es[j]?.getD zeroE).ob (es[j]?.getD zeroE).n (es[j]?.getD zeroE).m w hrg
      have EN := hidAll fun w => enEncode (es[j]?.getD zeroE) w
      obtain ⟨e, he⟩ : ∃ e, es[j]?.getD zeroE = e := ⟨_, rfl⟩
      rw [he] at HTK hbe hrg hrt FY FN RT EN
      have HEQ := hid he
      clear hmem he
      have hrr : rightE ct cp cs ⟨e.k, e.t, e.num, e.ok, e.oa, e.ob, e.n, e.m⟩ = rightE ct cp cs e := rfl
      rw [hrr] at RT
      clear hrr
      obtain ⟨c0, c1, c2, c3, c4, c5, c6, c7⟩ := (HSE.out _ hB).at hlt _ HEQ.out
      have zl : b < wr.heap.size := (World.block_lt_of_cell? wr _ c0)
      go_wp2_with fail
      refine (EN.out _).mono ?_
      intro en w2 hp
      cases heb : encB e
      rotate_left
      · skip
        obtain ⟨xv, rfl, hxv, hb2⟩ := hp.yes heb
        obtain ⟨ax, cpx, hv⟩ := hxv.anyForm
        subst hv
        have FY := hid (FY.out heb)
        clear hp EN FN
        have ho := ho.kept hb2 (Nat.le_refl _)
        have hoe := hoe.kept hb2 (Nat.le_refl _)
        have hB : Below w.heap.size w w2 := hB.trans (hb2.mono hB.size)
        have hkq := blkT_call hb2 hkq
        have q0 : w2.cell? ⟨w.heap.size, 0, none⟩ = some (.int .i64 ct) := blkT_cell hkq rfl
        have q1 : w2.cell? ⟨w.heap.size, 1, none⟩ = some (.int .i64 cp) := blkT_cell hkq rfl
        have q2 : w2.cell? ⟨w.heap.size, 2, none⟩ = some (.int .i64 cs) := blkT_cell hkq rfl
        have zq : w.heap.size < w2.heap.size := blkT_lt hkq
        obtain ⟨c0, c1, c2, c3, c4, c5, c6, c7⟩ := (HSE.out _ hB).at hlt _ HEQ.out
        have zl : b < w2.heap.size := (World.block_lt_of_cell? w2 _ c0)
        clear hb2
        cases hrb : rightE ct cp cs e
        · rw [hrb] at RT
          clear hrt hrb
          go_wp2_with fail
          refine regionBelow (by kernel_rfl) (by kernel_rfl) ?_
          repeat (go_big_quiet_step ((go_at_call 62; exact quietBelow (RT.out _))))
          refine wpQuiet_nil ?_
          intro _ hw'
          obtain ⟨nq, hw''⟩ := hw'
          subst hw''
          have hn := nq.below
          obtain ⟨w3, hw3⟩ : ∃ x, x = nq.to := ⟨_, rfl⟩
          rw [← hw3] at hn ⊢
          clear hw3
          have hxv := hxv.kept hn (Nat.le_refl _)
          have ho := ho.kept hn (Nat.le_refl _)
          have hoe := hoe.kept hn (Nat.le_refl _)
          have hB : Below w.heap.size w w3 := hB.trans (hn.mono hB.size)
          have hkq := blkT_call hn hkq
          have q0 : w3.cell? ⟨w.heap.size, 0, none⟩ = some (.int .i64 ct) := blkT_cell hkq rfl
          have q1 : w3.cell? ⟨w.heap.size, 1, none⟩ = some (.int .i64 cp) := blkT_cell hkq rfl
          have q2 : w3.cell? ⟨w.heap.size, 2, none⟩ = some (.int .i64 cs) := blkT_cell hkq rfl
          have zq : w.heap.size < w3.heap.size := blkT_lt hkq
          obtain ⟨c0, c1, c2, c3, c4, c5, c6, c7⟩ := (HSE.out _ hB).at hlt _ HEQ.out
          have zl : b < w3.heap.size := (World.block_lt_of_cell? w3 _ c0)
          have hsv := hxv.seen
          go_upto_region 13 with (at_builtin; refine wpAppend rfl (.tmp 51) (.tmp 52) 33 5 rfl .u8 (.int .u8 0) 1 Try.underlying33 infoU8 rfl _ (w.heap.size + 1) _ (bytesAll (es.take j)) rfl ho _ _ _ (bytesE e) rfl hsv (by simp only [maxLen]; omega) (by omega) (by omega) ?_; intro v4 w4 ho4 hg4; have hBg : Below (w.heap.size + 1) w3 w4 := ((Below.refl _ _).grown hg4 (by omega) (by intro q hq; exact ho.block hq)); have hoe4 := hoe.grown hg4 (own_apart ho hoe (by decide)); have hB4 : Below w.heap.size w w4 := hB.trans (hBg.mono (by omega)); have hkq4 := blkT_below hBg (Nat.lt_succ_self _) hkq; obtain ⟨c0, c1, c2, c3, c4, c5, c6, c7⟩ := (HSE.out _ hB4).at hlt _ HEQ.out; have zl : b < w4.heap.size := (World.block_lt_of_cell? w4 _ c0); clear ho hoe hB hkq hg4 hBg hxv hsv)
          obtain ⟨a4, cp4, hv4⟩ := ho4.anyForm
          subst hv4
          go_wp2_with (at_builtin; refine wpAppendE rfl (.tmp 54) (.tmp 59) rfl _ (w.heap.size + 1) _ (filt (es.take j)) rfl (hoe4.kept ((Below.refl _ _).alloc (Nat.le_refl _) _) (Nat.le_refl _)) e w4.heap.size 1 rfl (blkT_new rfl) (by omega) (by have := blkT_lt hkq4; simp; omega) ?_; intro v5 w5 hoe5 hg5)
          have hoA := ho4.kept ((Below.refl _ _).alloc (Nat.le_refl _) (.cells (enL e).toArray 32)) (Nat.le_refl _)
          have hoB := hoe4.kept ((Below.refl _ _).alloc (Nat.le_refl _) (.cells (enL e).toArray 32)) (Nat.le_refl _)
          have ho5 := hoA.grownE hg5 (own_apart hoA hoB (by decide))
          have hBg5 : Below (w.heap.size + 1) w4 w5 := (((Below.refl _ _).alloc (by have := blkT_lt hkq4; omega) _).grown hg5 (by have := blkT_lt hkq4; simp; omega) (by intro q hq; exact hoe4.block hq))
          have hB5 : Below w.heap.size w w5 := hB4.trans (hBg5.mono (by omega))
          have hkq5 := blkT_below hBg5 (Nat.lt_succ_self _) hkq4
          go_roundw
          case rel => exact ⟨j + 1, by omega, by go_num, by rw [HTK.out, FY.out.2]; rw [List.length_append] at ho5; exact ho5, by rw [HTK.out, FY.out.1]; exact hoe5, hB5, hkq5⟩
          case measure => simp [intOf]; omega
        · rw [hrb] at RT
          clear hrt hrb
          go_wp2_with fail
          refine regionBelow (by kernel_rfl) (by kernel_rfl) ?_
          repeat (go_big_quiet_step ((go_at_call 62; exact quietBelow (RT.out _))))
          refine wpQuiet_nil ?_
          intro _ hw'
          obtain ⟨nq, hw''⟩ := hw'
          subst hw''
          have hn := nq.below
          obtain ⟨w3, hw3⟩ : ∃ x, x = nq.to := ⟨_, rfl⟩
          rw [← hw3] at hn ⊢
          clear hw3
          have hxv := hxv.kept hn (Nat.le_refl _)
          have ho := ho.kept hn (Nat.le_refl _)
          have hoe := hoe.kept hn (Nat.le_refl _)
          have hB : Below w.heap.size w w3 := hB.trans (hn.mono hB.size)
          have hkq := blkT_call hn hkq
          have q0 : w3.cell? ⟨w.heap.size, 0, none⟩ = some (.int .i64 ct) := blkT_cell hkq rfl
          have q1 : w3.cell? ⟨w.heap.size, 1, none⟩ = some (.int .i64 cp) := blkT_cell hkq rfl
          have q2 : w3.cell? ⟨w.heap.size, 2, none⟩ = some (.int .i64 cs) := blkT_cell hkq rfl
          have zq : w.heap.size < w3.heap.size := blkT_lt hkq
          obtain ⟨c0, c1, c2, c3, c4, c5, c6, c7⟩ := (HSE.out _ hB).at hlt _ HEQ.out
          have zl : b < w3.heap.size := (World.block_lt_of_cell? w3 _ c0)
          have hsv := hxv.seen
          go_upto_region 13 with (at_builtin; refine wpAppend rfl (.tmp 51) (.tmp 52) 33 5 rfl .u8 (.int .u8 0) 1 Try.underlying33 infoU8 rfl _ (w.heap.size + 1) _ (bytesAll (es.take j)) rfl ho _ _ _ (bytesE e) rfl hsv (by simp only [maxLen]; omega) (by omega) (by omega) ?_; intro v4 w4 ho4 hg4; have hBg : Below (w.heap.size + 1) w3 w4 := ((Below.refl _ _).grown hg4 (by omega) (by intro q hq; exact ho.block hq)); have hoe4 := hoe.grown hg4 (own_apart ho hoe (by decide)); have hB4 : Below w.heap.size w w4 := hB.trans (hBg.mono (by omega)); have hkq4 := blkT_below hBg (Nat.lt_succ_self _) hkq; obtain ⟨c0, c1, c2, c3, c4, c5, c6, c7⟩ := (HSE.out _ hB4).at hlt _ HEQ.out; have zl : b < w4.heap.size := (World.block_lt_of_cell? w4 _ c0); clear ho hoe hB hkq hg4 hBg hxv hsv)
          obtain ⟨a4, cp4, hv4⟩ := ho4.anyForm
          subst hv4
          go_wp2_with (at_builtin; refine wpAppendE rfl (.tmp 54) (.tmp 59) rfl _ (w.heap.size + 1) _ (filt (es.take j)) rfl (hoe4.kept ((Below.refl _ _).alloc (Nat.le_refl _) _) (Nat.le_refl _)) e w4.heap.size 1 rfl (blkT_new rfl) (by omega) (by have := blkT_lt hkq4; simp; omega) ?_; intro v5 w5 hoe5 hg5)
          have hoA := ho4.kept ((Below.refl _ _).alloc (Nat.le_refl _) (.cells (enL e).toArray 32)) (Nat.le_refl _)
          have hoB := hoe4.kept ((Below.refl _ _).alloc (Nat.le_refl _) (.cells (enL e).toArray 32)) (Nat.le_refl _)
          have ho5 := hoA.grownE hg5 (own_apart hoA hoB (by decide))
          have hBg5 : Below (w.heap.size + 1) w4 w5 := (((Below.refl _ _).alloc (by have := blkT_lt hkq4; omega) _).grown hg5 (by have := blkT_lt hkq4; simp; omega) (by intro q hq; exact hoe4.block hq))
          have hB5 : Below w.heap.size w w5 := hB4.trans (hBg5.mono (by omega))
          have hkq5 := blkT_below hBg5 (Nat.lt_succ_self _) hkq4
          go_roundw
          case rel => exact ⟨j + 1, by omega, by go_num, by rw [HTK.out, FY.out.2]; rw [List.length_append] at ho5; exact ho5, by rw [HTK.out, FY.out.1]; exact hoe5, hB5, hkq5⟩
          case measure => simp [intOf]; omega
      obtain ⟨rfl, hb2⟩ := hp.no heb
      have hrb : rightE ct cp cs e = false := by cases h : rightE ct cp cs e with | false => rfl | true => rw [hrt.out h] at heb; cases heb
      rw [hrb] at RT
      have FN := hid (FN.out heb)
      clear hp EN FY hrt hrb
      have ho := ho.kept hb2 (Nat.le_refl _)
      have hoe := hoe.kept hb2 (Nat.le_refl _)
      have hB : Below w.heap.size w w2 := hB.trans (hb2.mono hB.size)
      have hkq := blkT_call hb2 hkq
      have q0 : w2.cell? ⟨w.heap.size, 0, none⟩ = some (.int .i64 ct) := blkT_cell hkq rfl
      have q1 : w2.cell? ⟨w.heap.size, 1, none⟩ = some (.int .i64 cp) := blkT_cell hkq rfl
      have q2 : w2.cell? ⟨w.heap.size, 2, none⟩ = some (.int .i64 cs) := blkT_cell hkq rfl
      have zq : w.heap.size < w2.heap.size := blkT_lt hkq
      obtain ⟨c0, c1, c2, c3, c4, c5, c6, c7⟩ := (HSE.out _ hB).at hlt _ HEQ.out
      have zl : b < w2.heap.size := (World.block_lt_of_cell? w2 _ c0)
      clear hb2
      go_wp2_with fail
      refine regionBelow (by kernel_rfl) (by kernel_rfl) ?_
      repeat (go_big_quiet_step ((go_at_call 62; exact quietBelow (RT.out _))))
      refine wpQuiet_nil ?_
      intro _ hw'
      obtain ⟨nq, hw''⟩ := hw'
      subst hw''
      have hn := nq.below
      obtain ⟨w3, hw3⟩ : ∃ x, x = nq.to := ⟨_, rfl⟩
      rw [← hw3] at hn ⊢
      clear hw3
      have ho := ho.kept hn (Nat.le_refl _)
      have hoe := hoe.kept hn (Nat.le_refl _)
      have hB : Below w.heap.size w w3 := hB.trans (hn.mono hB.size)
      have hkq := blkT_call hn hkq
      have q0 : w3.cell? ⟨w.heap.size, 0, none⟩ = some (.int .i64 ct) := blkT_cell hkq rfl
      have q1 : w3.cell? ⟨w.heap.size, 1, none⟩ = some (.int .i64 cp) := blkT_cell hkq rfl
      have q2 : w3.cell? ⟨w.heap.size, 2, none⟩ = some (.int .i64 cs) := blkT_cell hkq rfl
      have zq : w.heap.size < w3.heap.size := blkT_lt hkq
      obtain ⟨c0, c1, c2, c3, c4, c5, c6, c7⟩ := (HSE.out _ hB).at hlt _ HEQ.out
      have zl : b < w3.heap.size := (World.block_lt_of_cell? w3 _ c0)
      go_wp2_with fail
      go_roundw
      case rel => exact ⟨j + 1, by omega, by go_num, by rw [HTK.out, FN.out.2]; exact ho, by rw [HTK.out, FN.out.1]; exact hoe, hB, hkq⟩
      case measure => simp [intOf]; omega
    · obtain rfl : j = len := by omega
      have htl : es.take j = es := List.take_of_length_le (by omega)
      rw [htl] at ho hoe
      have HD := HB1.out
      have hfit : Fit 256 (bytesAll es) := flat_fit (filt es) (fun e he => (List.mem_filter.1 he).2)
      rw [htl]
      go_wp2_with fail
      refine (enDecode _ a1 _ cp1 (bytesAll es) ho.seen hfit).mono ?_
      rintro e w2 ⟨v2, rfl, ho2, hb2⟩
      rw [HD] at ho2
      obtain ⟨a5, cp5, hv⟩ := ho2.form
      subst hv
      have hoe2 := hoe.kept hb2 (Nat.le_refl _)
      have hB2 : Below w.heap.size w w2 := hB.trans (hb2.mono hB.size)
      clear hb2 ho hoe hB hkq HSE HRN HB1 HD hfit htl
      go_wp2_with fail
      refine (refSame32 _ a5 ae _ cp5 _ cpe (filt es) (filt es) ho2.seen hoe2.seen).mono ?_
      rw [decide_eq_true rfl]
      rintro e w3 ⟨rfl, n3, rfl⟩
      have hB3 : Below w.heap.size w (w2.drewN n3) := belowDrewN hB2 n3
      clear ho2 hoe2
      generalize w2.drewN n3 = w3 at hB3 ⊢
      go_wp2_with fail
      refine (enDecode _ a2 len2 cap2 xs (HS.out _ hB3) HF.out).mono ?_
      rintro e w4 ⟨v4, rfl, ho4, hb4⟩
      obtain ⟨a6, cp6, hv⟩ := ho4.form
      subst hv
      have hB4 : Below w.heap.size w w4 := hB3.trans (hb4.mono hB3.size)
      have hBq : w3.heap.size ≤ w4.heap.size := hb4.size
      have hz4 : w.heap.size ≤ w3.heap.size := hB3.size
      have ho4 := ho4.down (base' := w.heap.size) hz4
      have HO4 := hid fun wz (h : Below w4.heap.size w4 wz) => ho4.kept h (Nat.le_refl _)
      clear hb4
      generalize decL 400 xs = D at HB2 HB3 b23 ho4 HO4 ⊢
      obtain ⟨m, hm⟩ : ∃ m, m = D.length := ⟨_, rfl⟩
      have hm4 : m ≤ 400 := by omega
      rw [← hm] at ho4 HO4 ⊢
      have HM := hid hm
      have hz5 : w.heap.size ≤ w4.heap.size := hB4.size
      clear b23 hm hB3 hz4 hBq HS
      go_wp2_with fail
      go_loopw [13, 14] (fun ag i wr => ∃ j : Nat, j ≤ m ∧ i = .int .i64 (j : Int) ∧ Own 5 .u8 wr w4.heap.size ag (bytesL (D.take j)) ∧ Below w4.heap.size w4 wr) (fun _ i _ => m - (intOf i).toNat)
      case atStart => exact ⟨0, by omega, rfl, Own.nil _ _ _ _, Below.refl _ _⟩
      case round =>
        obtain ⟨j2, hj2, rfl, hg, hBr⟩ := hrel
        obtain ⟨ag, cg, hv⟩ := hg.anyForm
        subst hv
        by_cases hlt2 : j2 < m
        · obtain ⟨b, off, rfl⟩ := ((HO4.out wr hBr).seen).some_of (by omega)
          have hje : j2 < D.length := by rw [← HM.out]; exact hlt2
          have hmem : D[j2]?.getD zeroE ∈ D := by rw [List.getElem?_eq_getElem hje]; exact List.getElem_mem hje
          have heb := HB2.out _ hmem
          have HTK := hid (show bytesL (D.take (j2 + 1)) = bytesL (D.take j2) ++ bytesE (D[j2]?.getD zeroE) by unfold bytesL; rw [List.take_succ_eq_append_getElem hje, List.flatMap_append, List.getElem?_eq_getElem hje]; simp only [List.flatMap_cons, List.flatMap_nil, List.append_nil, Option.getD_some])
          have hbl : (bytesL (D.take j2)).length ≤ 16000 := by
            rw [bytesL]
            have g1 := flat_len (D.take j2)
            rw [List.length_take] at g1
            omega
          have hbe := bytesE_len (D[j2]?.getD zeroE)
          have EN := hidAll fun w => enEncode (D[j2]?.getD zeroE) w
          obtain ⟨e, he⟩ : ∃ e, D[j2]?.getD zeroE = e := ⟨_, rfl⟩
          rw [he] at HTK hbe EN heb
          have HEB := hid heb
          obtain ⟨c0, c1, c2, c3, c4, c5, c6, c7⟩ := ((HO4.out wr hBr).seen).at hlt2 _ he
          clear hmem hje he heb
          go_wp2_with fail
          refine (EN.out _).mono ?_
          intro en w5 hp
          obtain ⟨xv, rfl, hxv, hb5⟩ := hp.yes HEB.out
          obtain ⟨ax, cpx, hv⟩ := hxv.anyForm
          subst hv
          have hg := hg.kept hb5 (Nat.le_refl _)
          have hBr5 : Below w4.heap.size w4 w5 := hBr.trans (hb5.mono hBr.size)
          have hwz : w4.heap.size ≤ w5.heap.size := hBr5.size
          have hsv := hxv.seen
          clear hp EN hxv hb5 hBr c0 c1 c2 c3 c4 c5 c6 c7
          go_wp2_with (at_builtin; refine wpAppend rfl (.tmp 84) (.tmp 85) 33 5 rfl .u8 (.int .u8 0) 1 Try.underlying33 infoU8 rfl _ w4.heap.size _ (bytesL (D.take j2)) rfl hg _ _ _ (bytesE e) rfl hsv (by simp only [maxLen]; omega) (by omega) (by omega) ?_; intro v6 w6 ho6 hg6; have hBr6 : Below w4.heap.size w4 w6 := hBr5.grown hg6 hwz (by intro q hq; exact hg.block hq); clear hg hsv hg6 hBr5 hwz)
          rw [← HTK.out] at ho6
          go_roundw
          case rel => exact ⟨j2 + 1, by omega, by go_num, ho6, hBr6⟩
          case measure => simp [intOf]; omega
        · obtain rfl : j2 = m := by omega
          have htl : D.take j2 = D := List.take_of_length_le (by rw [HM.out]; exact Nat.le_refl _)
          rw [htl] at hg
          have hfit2 : Fit 256 (bytesL D) := flat_fit D HB2.out
          have hfl2 : (bytesL D).length ≤ 16000 := by
            rw [bytesL]
            have g1 := flat_len D
            rw [← HM.out] at g1
            omega
          rw [htl]
          have HFT := hid hfit2
          have hB5 : Below w.heap.size w wr := hB4.trans (hBr.mono hz5)
          have DEC := hid (enDecode wr ag _ cg (bytesL D) hg.seen hfit2)
          have hk6 := HO4.out wr hBr
          clear htl hfit2 HB2 hg hB4
          go_wp2_with fail
          refine DEC.out.mono ?_
          rintro e w7 ⟨v7, rfl, ho7, hb7⟩
          rw [HB3.out] at ho7
          obtain ⟨a7, cp7, hv⟩ := ho7.form
          subst hv
          have hk7 := hk6.kept hb7 (Nat.le_refl _)
          have hB7 : Below w.heap.size w w7 := hB5.trans (hb7.mono hB5.size)
          clear hb7 hB5 hk6 DEC HB3
          rw [← HM.out] at ho7 ⊢
          go_wp2_with fail
          refine (refSame32 _ a7 a6 _ cp7 _ cp6 D D ho7.seen hk7.seen).mono ?_
          rw [decide_eq_true rfl]
          rintro e w8 ⟨rfl, n8, rfl⟩
          have hB8 : Below w.heap.size w (w7.drewN n8) := belowDrewN hB7 n8
          clear ho7 hk7
          generalize w7.drewN n8 = w8 at hB8 ⊢
          go_wp2_with fail
          refine (live32 _).mono ?_
          rintro e w9 ⟨rfl, hb9⟩
          go_wp2_with fail
          go_ret
          exact ⟨rfl, hB8.trans (hb9.mono hB8.size)⟩

theorem lawEntryBack (w : World) (ct cp cs : Int) (a : Option Addr) (len cap : Nat) (es : List En) (a2 : Option Addr) (len2 cap2 : Nat) (xs : List Nat)
    (_ : -9223372036854775808 ≤ ct) (_ : ct ≤ 9223372036854775807) (_ : -9223372036854775808 ≤ cp) (_ : cp ≤ 9223372036854775807) (_ : -9223372036854775808 ≤ cs) (_ : cs ≤ 9223372036854775807) (hse : SeenE w a len cap es) (hrn : ∀ e ∈ es, rngAll e) (hs : Seen .u8 w a2 len2 cap2 xs) (hx : Fit 256 xs) :
    Calls Try.prog 13 #[.agg #[.int .i64 ct, .int .i64 cp, .int .i64 cs], .slice a len cap, .slice a2 len2 cap2] w fun e w' => e = .returned (.bool true) ∧ Below w.heap.size w w' := by
  by_cases hf : 400 < len ∨ 20000 < len2
  · exact entryBackBig w ct cp cs a a2 len cap len2 cap2 hse.2.1 hse.2.2.1 hs.2.1 hs.2.2.1 hf
  · exact entryBackFew w ct cp cs a a2 len cap len2 cap2 es xs hse hrn hs hx (by omega) (by omega)
end Go.Proofs.Ytpeeaapheohehaa
