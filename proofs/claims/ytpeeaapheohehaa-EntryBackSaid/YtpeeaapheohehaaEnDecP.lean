/- Fields of entries read in turn, in plain Lean; rows behind stores into other blocks; the walk of package entry's length. -/
import Derived.Test.YtpeeaapheohehaaEnTake
import Derived.Test.YtpeeaapheohehaaEnEnc
namespace Go.Proofs.Ytpeeaapheohehaa
open Go.RowKit
set_option linter.unusedVariables false
set_option linter.unusedSimpArgs false

def totW (fs : List Nat) : Nat := (fs.map wdN).sum
theorem totW_snoc (l : List Nat) (f : Nat) : totW (l ++ [f]) = totW l + wdN f := by simp [totW]
theorem totW_append (l m : List Nat) : totW (l ++ m) = totW l + totW m := by simp [totW]
theorem totW_take (l : List Nat) (j : Nat) : totW (l.take j) ≤ totW l := by
  have h := totW_append (l.take j) (l.drop j)
  rw [List.take_append_drop] at h
  omega
theorem totW_uses (x : Nat) (h : ¬ (x < 1 ∨ 6 < x)) : totW (usesL (x : Int)) = needN x := by
  obtain rfl | rfl | rfl | rfl | rfl | rfl : x = 1 ∨ x = 2 ∨ x = 3 ∨ x = 4 ∨ x = 5 ∨ x = 6 := by omega
  all_goals rfl
def dvS (ys : List Nat) (s : Nat × (Nat → Int)) (f : Nat) : Nat × (Nat → Int) := (s.1 + wdN f, fun i => if i = f then wrap64 (unbe ((ys.drop s.1).take (wdN f))) else s.2 i)
/-- Fields read in turn. -/
def dv (l ys : List Nat) : Nat × (Nat → Int) := l.foldl (dvS ys) (0, fun _ => 0)
theorem dv_snoc (l ys : List Nat) (f : Nat) : dv (l ++ [f]) ys = dvS ys (dv l ys) f := by simp [dv]
theorem dv_fst (ys : List Nat) : ∀ (l : List Nat) (s : Nat × (Nat → Int)), (l.foldl (dvS ys) s).1 = s.1 + totW l := by
  intro l
  induction l with
  | nil => intro s; simp [totW]
  | cons f l ih => intro s; rw [List.foldl_cons, ih]; simp [totW, dvS]; omega
theorem dv_next (l ys : List Nat) (f : Nat) : (fun i => if i = f then wrap64 (unbe ((ys.drop (totW l)).take (wdN f))) else (dv l ys).2 i) = (dv (l ++ [f]) ys).2 := by
  rw [dv_snoc, dvS]
  have h := dv_fst ys l (0, fun _ => 0)
  rw [Nat.zero_add] at h
  rw [dv, h]
theorem wrapSmall {n : Nat} (h : n < 9223372036854775808) : wrap64 (n : Int) = n := by unfold wrap64; omega
theorem dv_one (x : Nat) (ys : List Nat) (h : ¬ (x < 1 ∨ 6 < x)) (hf : Fit 256 ys) : (⟨x, (dv (usesL (x : Int)) ys).2 0, (dv (usesL (x : Int)) ys).2 1, (dv (usesL (x : Int)) ys).2 2, (dv (usesL (x : Int)) ys).2 3, (dv (usesL (x : Int)) ys).2 4, (dv (usesL (x : Int)) ys).2 5, (dv (usesL (x : Int)) ys).2 6⟩ : En) = oneE x ys := by
  have p := unbe_take hf
  have p1 := p 0 1; have p2 := p 1 4; have p3 := p 5 1; have p4 := p 0 2; have p5 := p 2 1; have p6 := p 1 2
  rw [List.drop_zero] at p1 p4
  simp only [Nat.reducePow] at p1 p2 p3 p4 p5 p6
  have q1 := wrapSmall (Nat.lt_trans p1 (by decide)); have q2 := wrapSmall (Nat.lt_trans p2 (by decide)); have q3 := wrapSmall (Nat.lt_trans p3 (by decide))
  have q4 := wrapSmall (Nat.lt_trans p4 (by decide)); have q5 := wrapSmall (Nat.lt_trans p5 (by decide)); have q6 := wrapSmall (Nat.lt_trans p6 (by decide))
  obtain rfl | rfl | rfl | rfl | rfl | rfl : x = 1 ∨ x = 2 ∨ x = 3 ∨ x = 4 ∨ x = 5 ∨ x = 6 := by omega
  all_goals
    simp [dv, usesL, dvS, wdN, oneE]
    try simp only [List.drop_one] at q2 q6
    try first | exact ⟨q1, q2, q3⟩ | exact ⟨q1, q6⟩ | exact ⟨q4, q5⟩ | exact q4 | exact ⟨q1, q2⟩

/-! ### rows behind stores into other blocks -/
theorem Seen.farSlice {k : IntKind} {w : World} {a a2 : Option Addr} {len cap g l2 c2 : Nat} {xs : List Nat} {T : TypeId} (h : Seen k w a len cap xs) (hg : BlkT T w g #[.slice a2 l2 c2]) (v : Value) : Seen k (w.setCell ⟨g, 0, none⟩ v) a len cap xs := by
  obtain ⟨h1, h2, h3, h4⟩ := h
  refine ⟨h1, h2, h3, ?_⟩
  rcases h4 with h4 | ⟨b, off, ha, hc⟩
  · exact .inl h4
  · refine .inr ⟨b, off, ha, fun i hi => ?_⟩
    have hne : g ≠ b := by
      intro e
      subst e
      have h5 := hc i hi
      unfold BlkT at hg
      simp only [World.cell?, hg] at h5
      generalize off + i = q at h5
      cases q with
      | zero => simp at h5
      | succ q => simp at h5
    rw [World.cell?_setCell_far _ _ _ _ hne]
    exact hc i hi
theorem Seen.farA7 {w : World} {a : Option Addr} {len cap g o : Nat} {xs : List Nat} {x : Nat → Int} {T : TypeId} (h : Seen .u8 w a len cap xs) (hg : BlkT T w g (A7 x)) (v : Value) : Seen .u8 (w.setCell ⟨g, o, none⟩ v) a len cap xs := by
  obtain ⟨h1, h2, h3, h4⟩ := h
  refine ⟨h1, h2, h3, ?_⟩
  rcases h4 with h4 | ⟨b, off, ha, hc⟩
  · exact .inl h4
  · refine .inr ⟨b, off, ha, fun i hi => ?_⟩
    have hne : g ≠ b := by
      intro e
      subst e
      have h5 := hc i hi
      rcases Nat.lt_or_ge (off + i) 7 with hq | hq
      · rw [blkT_cell hg (A7_get x _ hq)] at h5
        cases h5
      · have h6 : w.cell? ⟨g, off + i, none⟩ = (A7 x)[off + i]? := by
          unfold BlkT at hg
          simp only [World.cell?, hg]
          rfl
        rw [h6, Array.getElem?_eq_none (by simpa [A7] using hq)] at h5
        cases h5
    rw [World.cell?_setCell_far _ _ _ _ hne]
    exact hc i hi
theorem Own.farT {e T : TypeId} {k : IntKind} {w : World} {base g : Nat} {u : Value} {xs : List Nat} {A : Array Value} (h : Own e k w base u xs) (hg : BlkT T w g A) (hT : T ≠ e) (o : Nat) (v : Value) : Own e k (w.setCell ⟨g, o, none⟩ v) base u xs := by
  refine ⟨h.1, ?_⟩
  rcases h.2 with hn | ⟨g', cap', cur, hv, hbs, hgg, rest⟩
  · exact .inl hn
  · refine .inr ⟨g', cap', cur, hv, hbs, ?_, rest⟩
    rw [← hgg]
    refine Below.heap_setCell w ⟨g, o, none⟩ v g' ?_
    show g' ≠ g
    intro e'
    subst e'
    unfold BlkT at hg
    rw [hg] at hgg
    cases hgg
    exact hT rfl
theorem OwnE.farT {T : TypeId} {w : World} {base g : Nat} {u : Value} {es : List En} {A : Array Value} (h : OwnE w base u es) (hg : BlkT T w g A) (hT : T ≠ 32) (o : Nat) (v : Value) : OwnE (w.setCell ⟨g, o, none⟩ v) base u es := by
  refine ⟨h.1, ?_⟩
  rcases h.2 with hn | ⟨g', cap', cur, hv, hbs, hgg, rest⟩
  · exact .inl hn
  · refine .inr ⟨g', cap', cur, hv, hbs, ?_, rest⟩
    rw [← hgg]
    refine Below.heap_setCell w ⟨g, o, none⟩ v g' ?_
    show g' ≠ g
    intro e'
    subst e'
    unfold BlkT at hg
    rw [hg] at hgg
    cases hgg
    exact hT rfl
theorem blkT_one {T : TypeId} {W : World} {g : Nat} {v0 v : Value} (k : BlkT T W g #[v0]) : BlkT T (W.setCell ⟨g, 0, none⟩ v) g #[v] := by
  have h := blkT_hit (o := 0) (v := v) k
  simpa using h

set_option maxRecDepth 100000 in
set_option maxHeartbeats 3200000 in
theorem enLength (x : Nat) (w : World) (h : ¬ (x < 1 ∨ 6 < x)) :
    Calls Try.prog 79 #[.int .i64 x] w fun e w' => e = .returned (.int .i64 (needN x)) ∧ Below w.heap.size w w' := by
  have TU := totW_uses x h
  have UL := hid (usesL_lt (x : Int))
  have LN := usesL_len (x : Int)
  have FL := hidAll fun w => enFields (x : Int) w
  have TT := hidAll fun j => totW_take (usesL (x : Int)) j
  have NL := needN_le x
  clear h
  generalize usesL (x : Int) = fs at UL FL LN TU TT
  rw [← TU] at NL ⊢
  clear TU
  go_enter Try.func79, Try.ntmps79
  go_wp2_with fail
  refine (FL.out _).mono ?_
  rintro e w1 ⟨v1, rfl, ho1, hb1⟩
  obtain ⟨a1, cap1, hv⟩ := ho1.anyForm
  subst hv
  clear FL
  go_wp2_with fail
  go_loopw [3, 5, 9] (fun n fl i wr => ∃ j : Nat, j ≤ fs.length ∧ i = .int .i64 (j : Int) ∧ n = .int .i64 ((totW (fs.take j) : Nat) : Int) ∧ Own 3 .i64 wr w.heap.size (.slice a1 fs.length cap1) fs ∧ Below w.heap.size w wr) (fun _ _ i _ => fs.length - (intOf i).toNat)
  case atStart => exact ⟨0, by omega, rfl, rfl, ho1, hb1⟩
  case round =>
    obtain ⟨j, hj, rfl, rfl, ho, hB⟩ := hrel
    by_cases hlt : j < fs.length
    · have hf : fs[j] < 7 := UL.out _ (List.getElem_mem hlt)
      have htk : fs.take (j + 1) = fs.take j ++ [fs[j]] := List.take_succ_eq_append_getElem hlt
      obtain ⟨g, cap, hv, hgb, hgl, hcap⟩ := ho1.form (by omega)
      cases hv
      have cf := ho.cell rfl j hlt
      rw [List.getElem?_eq_getElem hlt, Option.getD_some] at cf
      have ts := totW_snoc (fs.take j) fs[j]
      have tb := TT.out (j + 1)
      rw [← htk] at ts
      rw [htk, totW_snoc] at tb
      generalize fs[j] = f at hf htk cf ts tb
      generalize totW (fs.take j) = U at ts tb ⊢
      generalize totW fs = N at tb NL
      have TS := hid ts
      clear htk ts
      obtain rfl | rfl | rfl | rfl | rfl | rfl | rfl : f = 0 ∨ f = 1 ∨ f = 2 ∨ f = 3 ∨ f = 4 ∨ f = 5 ∨ f = 6 := by omega
      · have cf : wr.cell? ⟨g, j, none⟩ = some (.int .i64 0) := cf
        have IX := wideAt0
        have TS := hid (show totW (fs.take (j + 1)) = U + 1 from TS.out)
        have tb : U + 1 ≤ N := tb
        go_wp2_with fail
        refine (enWide _).mono ?_
        rintro e w2 ⟨rfl, hb2⟩
        have ho2 := ho.kept hb2 (Nat.le_refl _)
        have hB2 : Below w.heap.size w w2 := hB.trans (hb2.mono hB.size)
        clear hb2
        go_wp2_with fail
        go_roundw
        case rel => exact ⟨j + 1, by omega, by go_num, by rw [TS.out]; go_num, ho2, hB2⟩
        case measure => simp [intOf]; omega
      · have cf : wr.cell? ⟨g, j, none⟩ = some (.int .i64 1) := cf
        have IX := wideAt1
        have TS := hid (show totW (fs.take (j + 1)) = U + 4 from TS.out)
        have tb : U + 4 ≤ N := tb
        go_wp2_with fail
        refine (enWide _).mono ?_
        rintro e w2 ⟨rfl, hb2⟩
        have ho2 := ho.kept hb2 (Nat.le_refl _)
        have hB2 : Below w.heap.size w w2 := hB.trans (hb2.mono hB.size)
        clear hb2
        go_wp2_with fail
        go_roundw
        case rel => exact ⟨j + 1, by omega, by go_num, by rw [TS.out]; go_num, ho2, hB2⟩
        case measure => simp [intOf]; omega
      · have cf : wr.cell? ⟨g, j, none⟩ = some (.int .i64 2) := cf
        have IX := wideAt2
        have TS := hid (show totW (fs.take (j + 1)) = U + 1 from TS.out)
        have tb : U + 1 ≤ N := tb
        go_wp2_with fail
        refine (enWide _).mono ?_
        rintro e w2 ⟨rfl, hb2⟩
        have ho2 := ho.kept hb2 (Nat.le_refl _)
        have hB2 : Below w.heap.size w w2 := hB.trans (hb2.mono hB.size)
        clear hb2
        go_wp2_with fail
        go_roundw
        case rel => exact ⟨j + 1, by omega, by go_num, by rw [TS.out]; go_num, ho2, hB2⟩
        case measure => simp [intOf]; omega
      · have cf : wr.cell? ⟨g, j, none⟩ = some (.int .i64 3) := cf
        have IX := wideAt3
        have TS := hid (show totW (fs.take (j + 1)) = U + 8 from TS.out)
        have tb : U + 8 ≤ N := tb
        go_wp2_with fail
        refine (enWide _).mono ?_
        rintro e w2 ⟨rfl, hb2⟩
        have ho2 := ho.kept hb2 (Nat.le_refl _)
        have hB2 : Below w.heap.size w w2 := hB.trans (hb2.mono hB.size)
        clear hb2
        go_wp2_with fail
        go_roundw
        case rel => exact ⟨j + 1, by omega, by go_num, by rw [TS.out]; go_num, ho2, hB2⟩
        case measure => simp [intOf]; omega
      · have cf : wr.cell? ⟨g, j, none⟩ = some (.int .i64 4) := cf
        have IX := wideAt4
        have TS := hid (show totW (fs.take (j + 1)) = U + 8 from TS.out)
        have tb : U + 8 ≤ N := tb
        go_wp2_with fail
        refine (enWide _).mono ?_
        rintro e w2 ⟨rfl, hb2⟩
        have ho2 := ho.kept hb2 (Nat.le_refl _)
        have hB2 : Below w.heap.size w w2 := hB.trans (hb2.mono hB.size)
        clear hb2
        go_wp2_with fail
        go_roundw
        case rel => exact ⟨j + 1, by omega, by go_num, by rw [TS.out]; go_num, ho2, hB2⟩
        case measure => simp [intOf]; omega
      · have cf : wr.cell? ⟨g, j, none⟩ = some (.int .i64 5) := cf
        have IX := wideAt5
        have TS := hid (show totW (fs.take (j + 1)) = U + 2 from TS.out)
        have tb : U + 2 ≤ N := tb
        go_wp2_with fail
        refine (enWide _).mono ?_
        rintro e w2 ⟨rfl, hb2⟩
        have ho2 := ho.kept hb2 (Nat.le_refl _)
        have hB2 : Below w.heap.size w w2 := hB.trans (hb2.mono hB.size)
        clear hb2
        go_wp2_with fail
        go_roundw
        case rel => exact ⟨j + 1, by omega, by go_num, by rw [TS.out]; go_num, ho2, hB2⟩
        case measure => simp [intOf]; omega
      · have cf : wr.cell? ⟨g, j, none⟩ = some (.int .i64 6) := cf
        have IX := wideAt6
        have TS := hid (show totW (fs.take (j + 1)) = U + 1 from TS.out)
        have tb : U + 1 ≤ N := tb
        go_wp2_with fail
        refine (enWide _).mono ?_
        rintro e w2 ⟨rfl, hb2⟩
        have ho2 := ho.kept hb2 (Nat.le_refl _)
        have hB2 : Below w.heap.size w w2 := hB.trans (hb2.mono hB.size)
        clear hb2
        go_wp2_with fail
        go_roundw
        case rel => exact ⟨j + 1, by omega, by go_num, by rw [TS.out]; go_num, ho2, hB2⟩
        case measure => simp [intOf]; omega
    · obtain rfl : j = fs.length := by omega
      rw [List.take_length]
      go_wp2_with fail
      go_ret
      exact ⟨rfl, hB⟩
end Go.Proofs.Ytpeeaapheohehaa
