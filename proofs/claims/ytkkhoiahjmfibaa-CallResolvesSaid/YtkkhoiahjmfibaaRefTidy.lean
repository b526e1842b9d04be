/- The walk of the reference's Tidy, of layer 27. -/
import Derived.Test.YtkkhoiahjmfibaaRefLast
import Derived.Test.YtkkhoiahjmfibaaRedoOnce
namespace Go.Proofs.Ytkkhoiahjmfibaa
open Go.RowKit
set_option linter.unusedVariables false
set_option linter.unusedSimpArgs false

theorem pairCells_get (es : List Nat) : ∀ j, j < es.length → (pairCells es)[j * 2]? = some (.int .i64 ((es[j]?.getD 0 : Nat) / 4294967296 : Int)) ∧ (pairCells es)[j * 2 + 1]? = some (.int .u32 ((es[j]?.getD 0 : Nat) % 4294967296 : Int)) := by
  induction es with
  | nil => intro j hj; simp at hj
  | cons e es ih =>
    intro j hj
    have hp : pairCells (e :: es) = .int .i64 ((e : Int) / 4294967296) :: .int .u32 ((e : Int) % 4294967296) :: pairCells es := rfl
    rw [hp]
    cases j with
    | zero => exact ⟨rfl, rfl⟩
    | succ j =>
      have := ih j (by simpa using hj)
      rw [show (j + 1) * 2 = j * 2 + 1 + 1 by omega, List.getElem?_cons_succ, List.getElem?_cons_succ, List.getElem?_cons_succ, List.getElem?_cons_succ, List.getElem?_cons_succ]
      exact this
/-- A row of pairs that is seen, each what an entry's word is. -/
def SeenE (w : World) (a : Option Addr) (n : Nat) (es : List Nat) : Prop :=
  es.length = n ∧ (n = 0 ∨ ∃ b, a = some ⟨b, 0, none⟩ ∧ ∀ j, j < n → w.cell? ⟨b, j * 2, none⟩ = some (.int .i64 ((es[j]?.getD 0 : Nat) / 4294967296 : Int)) ∧ w.cell? ⟨b, j * 2 + 1, none⟩ = some (.int .u32 ((es[j]?.getD 0 : Nat) % 4294967296 : Int)))
theorem OwnP.seen {w : World} {base : Nat} {a : Option Addr} {n cap : Nat} {es : List Nat} (h : OwnP w base (.slice a n cap) es) : SeenE w a n es := by
  have h' := h
  rcases h.2 with ⟨hv, hn⟩ | ⟨g, cap', cur, hv, hbs, rest⟩
  · cases hv; exact ⟨hn, .inl rfl⟩
  · cases hv
    refine ⟨rfl, .inr ⟨g, rfl, fun j hj => ?_⟩⟩
    obtain ⟨e1, e2⟩ := pairCells_get es j hj
    rw [← e1, ← e2]
    exact ⟨World.ownsRow.cellAt h' (j * 2) (by omega), World.ownsRow.cellAt h' (j * 2 + 1) (by omega)⟩
theorem LogPost.form {w w' : World} {t p u : Int} {ws : List Nat} {g : Bool} {e : Ending} (h : LogPost w t p u ws g e w') :
    ∃ v, e = .returned (.tuple #[.agg #[.int .u32 (if (g && logB t p u ws) = true then (noteX t p u ws : Int) / 4294967296 else 0), .bool (if (g && logB t p u ws) = true then ((noteX t p u ws : Int) / 2147483648 % 2 == 1) else false), .int .i64 (if (g && logB t p u ws) = true then (noteX t p u ws : Int) % 2147483648 else 0)], v, .bool (g && logB t p u ws)]) ∧ OwnP w' w.heap.size v (if (g && logB t p u ws) = true then logXs t p u ws else []) ∧ Below w.heap.size w w' := by
  rcases h with ⟨h, v, he, ho, hb⟩ | ⟨h, he, hb⟩
  · refine ⟨v, ?_, ?_, hb⟩
    · rw [he, h]; rfl
    · rw [if_pos h]; exact ho
  · refine ⟨.slice none 0 0, ?_, ?_, hb⟩
    · rw [he, h]; rfl
    · rw [h]; exact OwnP.nil _ _
theorem OptPost.form {T : TypeId} {k : IntKind} {w w' : World} {o : Option (List Nat)} {e : Ending} (h : OptPost T k w o e w') :
    ∃ a m cap, e = .returned (.tuple #[.slice a m cap, .bool o.isSome]) ∧ Own T k w' w.heap.size (.slice a m cap) (o.getD []) ∧ Below w.heap.size w w' := by
  rcases h with ⟨r, rfl, a, m, c, he, ho, hb⟩ | ⟨rfl, he, hb⟩
  · exact ⟨a, m, c, he, ho, hb⟩
  · exact ⟨none, 0, 0, he, Own.nil _ _ _ _, hb⟩
theorem todo_ents {t p : Int} {ws : List Nat} (h : settledO t p ws ≠ none) : entsB t p (todoX t p ws) = true := by
  unfold todoX
  by_cases ho : openX (noteX t p (tipU ws) ws) (tipS ws) = true
  · rw [if_pos ho]
    cases hE : entsB t p (logXs t p (tipU ws) ws)
    · refine absurd ?_ h
      unfold settledO
      split
      · first | rw [if_pos ho, if_neg (by rw [hE]; decide)] | rw [if_neg (by rw [hE]; decide)]
      · rfl
    · rfl
  · rw [if_neg ho]; rfl
theorem tidy_shut {t p : Int} {ws : List Nat} (h : settledO t p ws ≠ none) (ho : openX (noteX t p (tipU ws) ws) (tipS ws) = false) : tidyO t p ws = some ws ∧ todoX t p ws = [] := by
  have hs : settledO t p ws = some (ws, -1) := by
    unfold settledO at h ⊢
    split
    · rw [if_neg (by rw [ho]; decide)]
    · rename_i hh; rw [if_neg hh] at h; exact absurd rfl h
  refine ⟨?_, by rw [todoX, if_neg (by rw [ho]; decide)]⟩
  rw [tidyO, hs]; rfl
theorem tidy_open {t p s : Int} {len : Nat} {ws : List Nat} (hok : okW t p s len) (hl : ws.length = len) (hn : (tipU ws : Int) ≤ t) (h : settledO t p ws ≠ none) (ho : openX (noteX t p (tipU ws) ws) (tipS ws) = true) :
    tidyO t p ws = some ((applyX (tipS ws) (todoX t p ws) ws).set (noteI t p (tipU ws)) (tipS ws * 4294967296 + noteX t p (tipU ws) ws % 2147483648)) := by
  have hE := todo_ents h
  have ht : todoX t p ws = logXs t p (tipU ws) ws := by rw [todoX, if_pos ho]
  have hs : settledO t p ws = some (applyX (tipS ws) (todoX t p ws) ws, ((noteI t p (tipU ws) : Nat) : Int)) := by
    rw [ht] at hE ⊢
    unfold settledO at h ⊢
    split
    · first | rw [if_pos ho, if_pos hE] | rw [if_pos hE] | rfl
    · rename_i hh; rw [if_neg hh] at h; exact absurd rfl h
  have hcn := cells_note (u := tipU ws) hok hn
  have e : (applyX (tipS ws) (todoX t p ws) ws)[noteI t p (tipU ws)]?.getD 0 = noteX t p (tipU ws) ws :=
    applyX_other _ _ _ _ (fun e he => by have := entsB_mem hE e he; omega)
  rw [tidyO, hs]
  simp only [Option.map_some]
  rw [if_pos (by omega), Int.toNat_natCast, e]
  unfold openX at ho
  simp only [Bool.and_eq_true, decide_eq_true_eq, beq_iff_eq] at ho
  rw [closeX, if_pos ho.1.1, ho.2]

theorem cellFar2 {W : World} {g o b j : Nat} {v u : Value} (h : W.cell? ⟨b, j, none⟩ = some u) (hne : g ≠ b) : (W.setCell ⟨g, o, none⟩ v).cell? ⟨b, j, none⟩ = some u := by
  rw [World.cell?_setCell_far _ _ _ _ hne]; exact h
theorem SeenE.below {w w' : World} {a : Option Addr} {n : Nat} {es : List Nat} (h : SeenE w a n es) (hb : Below w.heap.size w w') : SeenE w' a n es := by
  obtain ⟨h1, h2⟩ := h
  refine ⟨h1, ?_⟩
  rcases h2 with h2 | ⟨b, rfl, hc⟩
  · exact .inl h2
  · refine .inr ⟨b, rfl, fun j hj => ?_⟩
    obtain ⟨c0, c1⟩ := hc j hj
    exact ⟨(hb.cell (p := ⟨b, j * 2, none⟩) (World.block_lt_of_cell? w _ c0)).trans c0, (hb.cell (p := ⟨b, j * 2 + 1, none⟩) (World.block_lt_of_cell? w _ c1)).trans c1⟩
theorem SeenE.far {w : World} {a : Option Addr} {n : Nat} {es : List Nat} {g o : Nat} {v : Value} (h : SeenE w a n es) (hne : ∀ b, a = some ⟨b, 0, none⟩ → 0 < n → g ≠ b) : SeenE (w.setCell ⟨g, o, none⟩ v) a n es := by
  obtain ⟨h1, h2⟩ := h
  refine ⟨h1, ?_⟩
  rcases h2 with h2 | ⟨b, rfl, hc⟩
  · exact .inl h2
  · refine .inr ⟨b, rfl, fun j hj => ?_⟩
    obtain ⟨c0, c1⟩ := hc j hj
    have hn := hne b rfl (by omega)
    exact ⟨by rw [World.cell?_setCell_far _ _ _ _ hn]; exact c0, by rw [World.cell?_setCell_far _ _ _ _ hn]; exact c1⟩

theorem refTidyNo (t p s : Int) (w : World) (a : Option Addr) (len cap : Nat) (h : ¬ okW t p s len) :
    Calls Try.prog 34 #[.agg #[.int .i64 t, .int .i64 p, .int .i64 s], .slice a len cap] w (OptPost 46 .u64 w none) := by
  have HO := hid h
  clear h
  go_enter Try.func34, Try.ntmps34
  go_wp2_with fail
  refine (refLast27No t p s _ a len cap HO.out).mono ?_
  rintro e w1 ⟨rfl, hb1⟩
  go_wp2_with fail
  go_ret2
  exact .inr ⟨rfl, rfl, bel⟩

set_option maxRecDepth 100000 in
set_option maxHeartbeats 6400000 in
theorem refTidyYes (t p s : Int) (w : World) (a : Option Addr) (len cap : Nat) (ws : List Nat) (hs : Seen .u64 w a len cap ws) (hf : Fit 18446744073709551616 ws) (ho : okW t p s len) :
    Calls Try.prog 34 #[.agg #[.int .i64 t, .int .i64 p, .int .i64 s], .slice a len cap] w (OptPost 46 .u64 w (tidyO t p ws)) := by
  have hlc := hs.2.1
  have hlm : cap ≤ maxLen := hs.2.2.1
  obtain ⟨ew, hl1, hl2⟩ := okW_words ho
  have HS := hid hs
  have HF := hid hf
  have HO := hid ho
  clear hs hf ho ew
  go_enter Try.func34, Try.ntmps34
  go_wp2_with fail
  refine (refLast27 t p s _ a len cap ws (HS.out.below bel) HF.out HO.out).mono ?_
  rintro e w1 (⟨hne, hn, v, rfl, hov, hb1⟩ | ⟨hno, x1, x2, x3, rfl, hb1⟩)
  rotate_left
  · have NO := hid (show tidyO t p ws = none by rw [tidyO, hno]; rfl)
    have hB1 : Below w.heap.size w w1 := bel
    clear hno hb1
    go_wp2_with fail
    go_ret2
    exact .inr ⟨NO.out, rfl, hB1⟩
  have z1 : w.heap.size < w1.heap.size := by have := hb1.size; simp at this; omega
  have hB1 : Below w.heap.size w w1 := bel
  have q0 : w1.cell? ⟨w.heap.size, 0, none⟩ = some (.int .i64 t) := (hb1.cell (p := ⟨w.heap.size, 0, none⟩) (by simp)).trans (cellNew rfl rfl)
  have q1 : w1.cell? ⟨w.heap.size, 1, none⟩ = some (.int .i64 p) := (hb1.cell (p := ⟨w.heap.size, 1, none⟩) (by simp)).trans (cellNew rfl rfl)
  have q2 : w1.cell? ⟨w.heap.size, 2, none⟩ = some (.int .i64 s) := (hb1.cell (p := ⟨w.heap.size, 2, none⟩) (by simp)).trans (cellNew rfl rfl)
  clear hb1
  have hents := todo_ents hne
  have NE := hid hne
  have HN := hid hn
  obtain ⟨a1, cap1, hv⟩ := hov.form
  subst hv
  have hse := hov.seen
  have hbl : ∀ b, a1 = some ⟨b, 0, none⟩ → 0 < (todoX t p ws).length → b < w1.heap.size := fun b hb h0 => by
    rcases hse.2 with h | ⟨b', hb', hc⟩
    · omega
    · rw [hb] at hb'; cases hb'
      exact World.block_lt_of_cell? w1 _ (hc 0 h0).1
  have hnb : (todoX t p ws).length ≤ 8400 := by
    unfold todoX
    split
    · have : (logXs t p (tipU ws) ws).length ≤ ws.length := by rw [logXs, List.length_take, List.length_drop]; omega
      have := HS.out.1
      omega
    · simp
  have hS0 : tipS ws < 4294967296 := by have := HF.out.getD (by omega) 8; unfold tipS; omega
  have CE := hidAll fun (k : Nat) (hk : k < (todoX t p ws).length) => (show 16 + ((todoX t p ws)[k]?.getD 0) / 4294967296 < len from by
    have := entsB_mem hents _ (List.getElem_mem hk)
    rw [List.getElem?_eq_getElem hk]
    have hcn := cells_note (u := tipU ws) HO.out hn
    obtain ⟨_, _, i3, _⟩ := noteI_bd (u := (tipU ws : Int)) HO.out (by omega) hn
    simp only [Option.getD_some]
    omega)
  have AT := hidAll fun (k : Nat) (hk : k < (todoX t p ws).length) => applyX_take (tipS ws) (todoX t p ws) ws k hk
  have TK := hid (show applyX (tipS ws) ((todoX t p ws).take (todoX t p ws).length) ws = applyX (tipS ws) (todoX t p ws) ws by rw [List.take_length])
  obtain ⟨i1, i2, i3, i4⟩ := noteI_bd (u := (tipU ws : Int)) HO.out (by omega) hn
  have NW := hid (show noteW t p s (tipU ws : Int) = ((noteI t p (tipU ws) : Nat) : Int) by rw [noteW, if_pos ⟨HO.out.1, by omega, hn⟩, i1])
  have NI := hid i3
  have TOP := hid (tidy_open HO.out HS.out.1 hn hne)
  have TSH := hid (tidy_shut (t := t) (p := p) (ws := ws) hne)
  clear hov hne hn hents i1 i2 i3 i4
  generalize hes : todoX t p ws = es at *
  have HES := hid hes
  clear hes
  generalize hn : es.length = n at *
  have HNL := hid hn
  clear hn
  generalize hS : tipS ws = S at *
  have HSS := hid hS
  clear hS
  go_wp2_with (at_builtin; refine wpAppend rfl (.tmp 24) (.tmp 25) 24 46 rfl .u64 (.int .u64 0) 8 Try.underlying24 infoU64 rfl _ w1.heap.size _ [] rfl (Own.built _ _ _ _ [] _ 0 (Nat.le_refl _) rfl (by decide) rfl) _ _ _ ws rfl ((HS.out.below hB1).below ((Below.refl _ _).alloc (Nat.le_refl _) _)) (by simp [maxLen]; omega) (by simp; omega) (by simp) ?_; intro v' w3 hown3 hgrow3; have hb3' : Below w1.heap.size w1 w3 := ((Below.refl _ _).alloc (Nat.le_refl _) _).grown hgrow3 (by simp) (by intro k hk; cases hk; exact Nat.le_refl _); clear hgrow3; rw [List.nil_append] at hown3; obtain ⟨g3, cap3, hv3, hg3, hg3', _⟩ := hown3.form (by rw [HS.out.1]; omega); rw [HS.out.1] at hv3; subst hv3; have hB3 : Below w.heap.size w w3 := hB1.trans (hb3'.mono (by omega)); have z3 : w.heap.size < w3.heap.size := (by omega); have hse3 := hse.below hb3'; have q0 := (hb3'.cell (p := ⟨w.heap.size, 0, none⟩) z1).trans q0; have q1 := (hb3'.cell (p := ⟨w.heap.size, 1, none⟩) z1).trans q1; have q2 := (hb3'.cell (p := ⟨w.heap.size, 2, none⟩) z1).trans q2; clear hb3' hB1 hse)
  have hne : ∀ b, a1 = some ⟨b, 0, none⟩ → 0 < n → g3 ≠ b := fun b hb h0 => by have := hbl b hb h0; omega
  have HNE := hid hne
  clear hne hbl
  go_wp2_with fail
  go_loopw [11] (fun i wr => ∃ k : Nat, k ≤ n ∧ i = .int .i64 k ∧ Own 46 .u64 wr w1.heap.size (.slice (some ⟨g3, 0, none⟩) len cap3) (applyX S (es.take k) ws) ∧ SeenE wr a1 n es ∧ (wr.cell? ⟨w.heap.size, 0, none⟩ = some (.int .i64 t) ∧ wr.cell? ⟨w.heap.size, 1, none⟩ = some (.int .i64 p) ∧ wr.cell? ⟨w.heap.size, 2, none⟩ = some (.int .i64 s)) ∧ Below w.heap.size w wr ∧ g3 < wr.heap.size ∧ w.heap.size < wr.heap.size) (fun i _ => n - (intOf i).toNat)
  case atStart => exact ⟨0, by omega, rfl, hown3, hse3, ⟨q0, q1, q2⟩, hB3, hg3', z3⟩
  case round =>
    clear hown3 hse3 q0 q1 q2 hB3 hg3' z3
    obtain ⟨k, hk, rfl, hO, hE, ⟨q0, q1, q2⟩, hB, hgr, zr⟩ := hrel
    have ll := hid ((applyX_length S (es.take k) ws).trans HS.out.1)
    by_cases hlt : k < n
    · obtain ⟨_, h4⟩ := id hE
      rcases h4 with h4 | ⟨b1, rfl, hcr⟩
      · omega
      obtain ⟨ce0, ce1⟩ := hcr k hlt
      have hcl := CE.out k hlt
      have hng : ¬ g3 = b1 := HNE.out b1 rfl (by omega)
      have st := hid (AT.out k hlt)
      have pu := hid (show putX S (applyX S (es.take k) ws) (es[k]?.getD 0) = if stampAt (applyX S (es.take k) ws) ((es[k]?.getD 0) / 4294967296) < S then (applyX S (es.take k) ws).set (16 + (es[k]?.getD 0) / 4294967296) (S * 4294967296 + (es[k]?.getD 0) % 4294967296) else (applyX S (es.take k) ws) from rfl)
      have hfc : (applyX S (es.take k) ws)[16 + (es[k]?.getD 0) / 4294967296]?.getD 0 < 18446744073709551616 := (applyX_fit hS0 (es.take k) HF.out).getD (by omega) _
      clear hcr
      generalize es[k]?.getD 0 = e at ce0 ce1 hcl st pu hfc
      have hcy := hO.cell ll.out (16 + e / 4294967296) (by omega)
      have hfy := hO.unfrozen ll.out (16 + e / 4294967296)
      have sa := hid (show stampAt (applyX S (es.take k) ws) (e / 4294967296) = ((applyX S (es.take k) ws)[16 + e / 4294967296]?.getD 0) / 4294967296 from rfl)
      generalize hcu : applyX S (es.take k) ws = cur at hO ll pu hfc hcy sa
      have HCU := hid hcu
      clear hcu
      generalize cur[16 + e / 4294967296]?.getD 0 = y at hfc hcy sa
      obtain ⟨ci, hci⟩ : ∃ ci, ci = e / 4294967296 := ⟨_, rfl⟩
      have hce : (e : Int) / 4294967296 = (ci : Int) := by omega
      rw [hce] at ce0
      rw [← hci] at hcl pu hcy hfy sa
      obtain ⟨vi, hvi⟩ : ∃ vi, vi = e % 4294967296 := ⟨_, rfl⟩
      have hve : (e : Int) % 4294967296 = (vi : Int) := by omega
      have hv0 : vi < 4294967296 := by omega
      rw [hve] at ce1
      rw [← hvi] at pu
      have k0 : (0 : Int) ≤ (k : Int) := by omega
      have k1 : (k : Int) < (n : Int) := by omega
      have i0 : (0 : Int) ≤ 16 + (ci : Int) := by omega
      have i1 : 16 + (ci : Int) < (len : Int) := by omega
      have tn : (16 + (ci : Int)).toNat = 16 + ci := by omega
      have wp : IntKind.i64.wrap (16 + (ci : Int)) = 16 + (ci : Int) := IntWalk.i64_in _ (by omega)
      clear hce hve hci hvi
      have ng0 : ¬ g3 = w.heap.size := by omega
      have hOB := hO.stored ll.out (16 + ci) (S * 4294967296 + vi)
      have hcast : ((S * 4294967296 + vi : Nat) : Int) = (S : Int) * 4294967296 + (vi : Int) := by omega
      rw [hcast] at hOB
      have zb1 : b1 < wr.heap.size := World.block_lt_of_cell? wr _ ce0
      by_cases hst : y / 4294967296 < S
      · have d : decide ((y : Int) / 4294967296 < (S : Int)) = true := by simp; omega
        have PU := hid (show putX S cur e = cur.set (16 + ci) (S * 4294967296 + vi) by rw [pu.out, if_pos (by rw [sa.out]; exact hst)])
        go_wp2_with fail
        refine (refHi y _ (by omega) (by omega)).mono ?_
        rintro e _ ⟨rfl, rfl⟩
        go_wp2_with fail
        go_region_held3 (fun w' => ((w'.cell? ⟨w.heap.size, 0, none⟩ = some (.int .i64 t) ∧ w'.cell? ⟨w.heap.size, 1, none⟩ = some (.int .i64 p) ∧ w'.cell? ⟨w.heap.size, 2, none⟩ = some (.int .i64 s)) ∧ w.heap.size < w'.heap.size) ∧ (w'.cell? ⟨b1, k * 2, none⟩ = some (.int .i64 (ci : Int)) ∧ w'.cell? ⟨b1, k * 2 + 1, none⟩ = some (.int .u32 (vi : Int))))
          (((go_split_ands); (try dsimp only); (repeat' apply And.intro); (all_goals first | assumption | omega | (simp; omega) | go_keep)))
          (first | (go_at_call 52; refine (refJoin (S : Int) (vi : Int) _ (by omega) (by omega) (by omega) (by omega)).mono ?_; rintro e _ ⟨rfl, rfl⟩))
        go_wp2_with fail
        go_roundw
        case rel => exact ⟨k + 1, by omega, by go_num, by (rw [st.out, HCU.out, PU.out]; exact hOB.kept ((Below.refl _ _).drew) (Nat.le_refl _)), (hE.far (fun b hb _ => by cases hb; exact hng)).below ((Below.refl _ _).drew), ⟨cellFar2 q0 ng0, cellFar2 q1 ng0, cellFar2 q2 ng0⟩, (hB.setCell (p := ⟨g3, 16 + ci, none⟩) (by show w.heap.size ≤ g3; omega) _).drew, by simpa using hgr, by simpa using zr⟩
        case measure => simp [intOf]; omega
      · have d : decide ((y : Int) / 4294967296 < (S : Int)) = false := by simp; omega
        have PU := hid (show putX S cur e = cur by rw [pu.out, if_neg (by rw [sa.out]; exact hst)])
        go_wp2_with fail
        refine (refHi y _ (by omega) (by omega)).mono ?_
        rintro e _ ⟨rfl, rfl⟩
        go_wp2_with fail
        go_roundw
        case rel => exact ⟨k + 1, by omega, by go_num, by rw [st.out, HCU.out, PU.out]; exact hO, hE, ⟨q0, q1, q2⟩, hB, hgr, zr⟩
        case measure => simp [intOf]; omega
    · obtain rfl : k = n := by omega
      have hO2 : Own 46 .u64 wr w1.heap.size (.slice (some ⟨g3, 0, none⟩) len cap3) (applyX S es ws) := by have h := hO; rw [TK.out] at h; exact h
      have ll2 := hid ((applyX_length S es ws).trans HS.out.1)
      obtain ⟨_, _, _, h4⟩ := HS.out.below hB
      rcases h4 with ⟨h4, _⟩ | ⟨b0, off, rfl, hcr⟩
      · omega
      have cx := hcr (noteI t p (tipU ws)) NI.out
      have hx : ws[noteI t p (tipU ws)]?.getD 0 < 18446744073709551616 := HF.out.getD (by omega) _
      have hb0 : b0 < wr.heap.size := World.block_lt_of_cell? wr _ cx
      have hni := NI.out
      have TO := hid TOP.out
      have TS := hid TSH.out
      change wr.cell? ⟨b0, off + noteI t p (tipU ws), none⟩ = some (.int .u64 ((noteX t p (tipU ws) ws : Nat) : Int)) at cx
      change noteX t p (tipU ws) ws < _ at hx
      clear hcr hO hE HNE AT CE
      generalize noteX t p (tipU ws) ws = nx at cx hx TO TS
      generalize noteI t p (tipU ws) = ni at cx hni TO NW
      obtain ⟨wo, rfl⟩ : ∃ x : World, x = wr := ⟨_, rfl⟩
      by_cases hcnt : (nx : Int) % 2147483648 ≤ 96
      · by_cases hopb : (nx : Int) / 2147483648 % 2 = 1
        · have OV := hid (ofNote_open hcnt hopb)
          by_cases hstm : nx / 4294967296 = S
          · have hop : openX nx S = true := by
              unfold openX
              simp only [Bool.and_eq_true, decide_eq_true_eq, beq_iff_eq]
              exact ⟨⟨by omega, by omega⟩, hstm⟩
            have TT := hid (TO.out hop)
            have dst : ((nx : Int) / 4294967296 == (S : Int)) = true := by rw [beq_iff_eq]; omega
            have NVV := hid (show noteV ((nx : Int) / 4294967296) ((nx : Int) % 2147483648) false = .tuple #[.int .u64 ((S * 4294967296 + nx % 2147483648 : Nat) : Int), .bool true] by
              rw [noteV, if_pos ⟨by omega, by omega⟩, show (nx : Int) / 4294967296 = (S : Int) by omega]; simp)
            clear hop
            go_wp2_with fail
            refine (refNoteW t p s _ _).mono ?_
            rw [NW.out]
            rintro e wA ⟨rfl, hbA⟩
            have zA : w.heap.size < wA.heap.size := by have := hbA.size; omega
            have hBA : Below w.heap.size w wA := hB.trans (hbA.mono (by omega))
            have hOA := hO2.kept hbA (Nat.le_refl _)
            have cxA := (hbA.cell (p := ⟨b0, off + ni, none⟩) hb0).trans cx
            have zgA : g3 < wA.heap.size := by have := hbA.size; omega
            have q0 := (hbA.cell (p := ⟨w.heap.size, 0, none⟩) zr).trans q0
            have q1 := (hbA.cell (p := ⟨w.heap.size, 1, none⟩) zr).trans q1
            have q2 := (hbA.cell (p := ⟨w.heap.size, 2, none⟩) zr).trans q2
            clear hbA hO2 hB cx
            go_wp2_with fail
            refine (refOfNote nx _ (by omega) (by omega)).mono ?_
            rw [OV.out]
            rintro e wC ⟨rfl, hbC⟩
            have zC : w.heap.size < wC.heap.size := by have := hbC.size; omega
            have hBC : Below w.heap.size w wC := hBA.trans (hbC.mono (by omega))
            have hOC := hOA.kept hbC (Nat.le_refl _)
            have zgC : g3 < wC.heap.size := by have := hbC.size; omega
            have q0 := (hbC.cell (p := ⟨w.heap.size, 0, none⟩) zA).trans q0
            have q1 := (hbC.cell (p := ⟨w.heap.size, 1, none⟩) zA).trans q1
            have q2 := (hbC.cell (p := ⟨w.heap.size, 2, none⟩) zA).trans q2
            clear hbC hOA hBA cxA
            obtain ⟨nA, hnA⟩ : ∃ x, x = (nx : Int) / 4294967296 := ⟨_, rfl⟩
            have nA0 : 0 ≤ nA := by omega
            have nA1 : nA < 4294967296 := by omega
            obtain ⟨nC, hnC⟩ : ∃ x, x = (nx : Int) % 2147483648 := ⟨_, rfl⟩
            rw [← hnA, ← hnC] at NVV
            go_upto_region 13 with (fail)
            rw [← hnA, ← hnC]
            obtain ⟨wD, hwD⟩ : ∃ x : World, x = wC.alloc (.cells #[.int .u32 nA, .bool false, .int .i64 nC] 32) := ⟨_, rfl⟩
            rw [← hwD]
            have n0 : wD.cell? ⟨wC.heap.size, 0, none⟩ = some (.int .u32 nA) := by rw [hwD]; exact cellNew rfl rfl
            have n1 : wD.cell? ⟨wC.heap.size, 1, none⟩ = some (.bool false) := by rw [hwD]; exact cellNew rfl rfl
            have n2 : wD.cell? ⟨wC.heap.size, 2, none⟩ = some (.int .i64 nC) := by rw [hwD]; exact cellNew rfl rfl
            have q0 : wD.cell? ⟨w.heap.size, 0, none⟩ = some (.int .i64 t) := by rw [hwD]; exact cellOld zC q0
            have q1 : wD.cell? ⟨w.heap.size, 1, none⟩ = some (.int .i64 p) := by rw [hwD]; exact cellOld zC q1
            have q2 : wD.cell? ⟨w.heap.size, 2, none⟩ = some (.int .i64 s) := by rw [hwD]; exact cellOld zC q2
            have hOD := hOC.kept (B := wC.heap.size) (w' := wD) (by rw [hwD]; exact (Below.refl _ _).alloc (Nat.le_refl _) _) (Nat.le_refl _)
            have hBD : Below w.heap.size w wD := by rw [hwD]; exact hBC.alloc (by omega) _
            have zD : w.heap.size < wD.heap.size := by rw [hwD]; simp; omega
            have zcD : wC.heap.size < wD.heap.size := by rw [hwD]; simp
            have zgD : g3 < wD.heap.size := by omega
            have ng0 : ¬ g3 = w.heap.size := by omega
            have ng1 : ¬ g3 = wC.heap.size := by omega
            have cyv := hOD.cell ll2.out ni (by omega)
            have fyv := hOD.unfrozen ll2.out ni
            generalize (applyX S es ws)[ni]?.getD 0 = yv at cyv
            have i0 : (0 : Int) ≤ (ni : Int) := by omega
            have i1 : (ni : Int) < (len : Int) := by omega
            have zdd : wD.drew.heap.size = wD.heap.size := rfl
            clear hwD hOC hBC OV dst hnA hnC
            generalize hVL : S * 4294967296 + nx % 2147483648 = VL at NVV TT
            go_region_held3 (fun w' => (w'.cell? ⟨w.heap.size, 0, none⟩ = some (.int .i64 t) ∧ w'.cell? ⟨w.heap.size, 1, none⟩ = some (.int .i64 p) ∧ w'.cell? ⟨w.heap.size, 2, none⟩ = some (.int .i64 s)) ∧ (w'.cell? ⟨wC.heap.size, 0, none⟩ = some (.int .u32 nA) ∧ w'.cell? ⟨wC.heap.size, 1, none⟩ = some (.bool false) ∧ w'.cell? ⟨wC.heap.size, 2, none⟩ = some (.int .i64 nC)) ∧ w.heap.size < w'.heap.size ∧ wC.heap.size < w'.heap.size ∧ g3 < w'.heap.size)
              (((go_split_ands); (try dsimp only); (repeat' apply And.intro); (all_goals first | assumption | omega | (simp; omega) | go_keep)))
              (first
                | (go_at_call 45; refine (refNoteW t p s _ _).mono ?_; rw [NW.out]; rintro e wx ⟨rfl, hbwx⟩; (try go_split_ands); obtain ⟨hcwx, hfwx, hzwx⟩ := after hbwx; have zwx : w.heap.size < wx.heap.size := (by omega); have zcwx : wC.heap.size < wx.heap.size := (by omega); have zgwx : g3 < wx.heap.size := (by omega); have wxy0 : wx.cell? ⟨w.heap.size, 0, none⟩ = some (.int .i64 t) := (hcwx _ _ (by first | assumption | omega)).trans (by first | assumption | go_keep); have wxy1 : wx.cell? ⟨w.heap.size, 1, none⟩ = some (.int .i64 p) := (hcwx _ _ (by first | assumption | omega)).trans (by first | assumption | go_keep); have wxy2 : wx.cell? ⟨w.heap.size, 2, none⟩ = some (.int .i64 s) := (hcwx _ _ (by first | assumption | omega)).trans (by first | assumption | go_keep); have wxy3 : wx.cell? ⟨wC.heap.size, 0, none⟩ = some (.int .u32 nA) := (hcwx _ _ (by first | assumption | omega)).trans (by first | assumption | go_keep); have wxy4 : wx.cell? ⟨wC.heap.size, 1, none⟩ = some (.bool false) := (hcwx _ _ (by first | assumption | omega)).trans (by first | assumption | go_keep); have wxy5 : wx.cell? ⟨wC.heap.size, 2, none⟩ = some (.int .i64 nC) := (hcwx _ _ (by first | assumption | omega)).trans (by first | assumption | go_keep); have wxc : wx.cell? ⟨g3, ni, none⟩ = some (.int .u64 (yv : Int)) := (hcwx _ _ (by first | assumption | omega)).trans (by first | assumption | go_keep); have wxf : wx.frozen? ⟨g3, ni, none⟩ = false := (hfwx _ _ (by first | assumption | omega)).trans (by first | assumption | go_keep))
                | (go_at_call 53; refine (refNote nA nC false _ nA0 nA1).mono ?_; rw [NVV.out]; rintro e wy ⟨rfl, hbwy⟩; (try go_split_ands); obtain ⟨hcwy, hfwy, hzwy⟩ := after hbwy; have zwy : w.heap.size < wy.heap.size := (by omega); have zcwy : wC.heap.size < wy.heap.size := (by omega); have zgwy : g3 < wy.heap.size := (by omega); have wyy0 : wy.cell? ⟨w.heap.size, 0, none⟩ = some (.int .i64 t) := (hcwy _ _ (by first | assumption | omega)).trans (by first | assumption | go_keep); have wyy1 : wy.cell? ⟨w.heap.size, 1, none⟩ = some (.int .i64 p) := (hcwy _ _ (by first | assumption | omega)).trans (by first | assumption | go_keep); have wyy2 : wy.cell? ⟨w.heap.size, 2, none⟩ = some (.int .i64 s) := (hcwy _ _ (by first | assumption | omega)).trans (by first | assumption | go_keep); have wyy3 : wy.cell? ⟨wC.heap.size, 0, none⟩ = some (.int .u32 nA) := (hcwy _ _ (by first | assumption | omega)).trans (by first | assumption | go_keep); have wyy4 : wy.cell? ⟨wC.heap.size, 1, none⟩ = some (.bool false) := (hcwy _ _ (by first | assumption | omega)).trans (by first | assumption | go_keep); have wyy5 : wy.cell? ⟨wC.heap.size, 2, none⟩ = some (.int .i64 nC) := (hcwy _ _ (by first | assumption | omega)).trans (by first | assumption | go_keep); have wyc : wy.cell? ⟨g3, ni, none⟩ = some (.int .u64 (yv : Int)) := (hcwy _ _ (by first | assumption | omega)).trans (by first | assumption | go_keep); have wyf : wy.frozen? ⟨g3, ni, none⟩ = false := (hfwy _ _ (by first | assumption | omega)).trans (by first | assumption | go_keep)))
            all_goals
              have hOY := (hOD.kept (B := wD.heap.size) (w' := wy) bel (Nat.le_refl _)).stored ll2.out ni VL
              have hBY : Below w.heap.size w wy := hBD.trans (Below.mono (B := wD.heap.size) bel (by omega))
              clear hbwx hbwy hOD hBD
              go_wp2_with fail
              go_ret2
              exact .inl ⟨_, TT.out, _, _, _, rfl, hOY.rebase (by omega), hBY.setCell (by show w.heap.size ≤ g3; omega) _⟩
          · have hop : openX nx S = false := by
              cases h : openX nx S
              · rfl
              · unfold openX at h; simp only [Bool.and_eq_true, decide_eq_true_eq, beq_iff_eq] at h; exact absurd h.2 hstm
            have dst : ((nx : Int) / 4294967296 == (S : Int)) = false := by rw [beq_eq_false_iff_ne]; omega
            obtain ⟨ts1, ts2⟩ := TS.out hop
            have TT := hid ts1
            have hes : applyX S es ws = ws := by rw [ts2]; rfl
            rw [hes] at hO2
            clear ts1 ts2 hes hop
            go_wp2_with fail
            refine (refNoteW t p s _ _).mono ?_
            rw [NW.out]
            rintro e wA ⟨rfl, hbA⟩
            have zA : w.heap.size < wA.heap.size := by have := hbA.size; omega
            have hBA : Below w.heap.size w wA := hB.trans (hbA.mono (by omega))
            have hOA := hO2.kept hbA (Nat.le_refl _)
            have cxA := (hbA.cell (p := ⟨b0, off + ni, none⟩) hb0).trans cx
            have zgA : g3 < wA.heap.size := by have := hbA.size; omega
            have q0 := (hbA.cell (p := ⟨w.heap.size, 0, none⟩) zr).trans q0
            have q1 := (hbA.cell (p := ⟨w.heap.size, 1, none⟩) zr).trans q1
            have q2 := (hbA.cell (p := ⟨w.heap.size, 2, none⟩) zr).trans q2
            clear hbA hO2 hB cx
            go_wp2_with fail
            refine (refOfNote nx _ (by omega) (by omega)).mono ?_
            rw [OV.out]
            rintro e wC ⟨rfl, hbC⟩
            have zC : w.heap.size < wC.heap.size := by have := hbC.size; omega
            have hBC : Below w.heap.size w wC := hBA.trans (hbC.mono (by omega))
            have hOC := hOA.kept hbC (Nat.le_refl _)
            have zgC : g3 < wC.heap.size := by have := hbC.size; omega
            have q0 := (hbC.cell (p := ⟨w.heap.size, 0, none⟩) zA).trans q0
            have q1 := (hbC.cell (p := ⟨w.heap.size, 1, none⟩) zA).trans q1
            have q2 := (hbC.cell (p := ⟨w.heap.size, 2, none⟩) zA).trans q2
            clear hbC hOA hBA cxA
            go_wp2_with fail
            go_ret2
            exact .inl ⟨_, TT.out, _, _, _, rfl, (hOC.kept (B := wC.heap.size) ((Below.refl _ _).alloc (Nat.le_refl _) _) (Nat.le_refl _)).rebase (by omega), bel⟩
        · have hop0 : (nx : Int) / 2147483648 % 2 = 0 := by omega
          have OV := hid (ofNote_shut hcnt hop0)
          have hop : openX nx S = false := by
            cases h : openX nx S
            · rfl
            · unfold openX at h; simp only [Bool.and_eq_true, decide_eq_true_eq, beq_iff_eq] at h; omega
          obtain ⟨ts1, ts2⟩ := TS.out hop
          have TT := hid ts1
          have hes : applyX S es ws = ws := by rw [ts2]; rfl
          rw [hes] at hO2
          clear ts1 ts2 hes hop
          go_wp2_with fail
          refine (refNoteW t p s _ _).mono ?_
          rw [NW.out]
          rintro e wA ⟨rfl, hbA⟩
          have zA : w.heap.size < wA.heap.size := by have := hbA.size; omega
          have hBA : Below w.heap.size w wA := hB.trans (hbA.mono (by omega))
          have hOA := hO2.kept hbA (Nat.le_refl _)
          have cxA := (hbA.cell (p := ⟨b0, off + ni, none⟩) hb0).trans cx
          have zgA : g3 < wA.heap.size := by have := hbA.size; omega
          have q0 := (hbA.cell (p := ⟨w.heap.size, 0, none⟩) zr).trans q0
          have q1 := (hbA.cell (p := ⟨w.heap.size, 1, none⟩) zr).trans q1
          have q2 := (hbA.cell (p := ⟨w.heap.size, 2, none⟩) zr).trans q2
          clear hbA hO2 hB cx
          go_wp2_with fail
          refine (refOfNote nx _ (by omega) (by omega)).mono ?_
          rw [OV.out]
          rintro e wC ⟨rfl, hbC⟩
          have zC : w.heap.size < wC.heap.size := by have := hbC.size; omega
          have hBC : Below w.heap.size w wC := hBA.trans (hbC.mono (by omega))
          have hOC := hOA.kept hbC (Nat.le_refl _)
          have zgC : g3 < wC.heap.size := by have := hbC.size; omega
          have q0 := (hbC.cell (p := ⟨w.heap.size, 0, none⟩) zA).trans q0
          have q1 := (hbC.cell (p := ⟨w.heap.size, 1, none⟩) zA).trans q1
          have q2 := (hbC.cell (p := ⟨w.heap.size, 2, none⟩) zA).trans q2
          clear hbC hOA hBA cxA
          go_wp2_with fail
          go_ret2
          exact .inl ⟨_, TT.out, _, _, _, rfl, (hOC.kept (B := wC.heap.size) ((Below.refl _ _).alloc (Nat.le_refl _) _) (Nat.le_refl _)).rebase (by omega), bel⟩
      · have OV := hid (ofNote_no hcnt)
        have hop : openX nx S = false := by
          cases h : openX nx S
          · rfl
          · unfold openX at h; simp only [Bool.and_eq_true, decide_eq_true_eq, beq_iff_eq] at h; omega
        obtain ⟨ts1, ts2⟩ := TS.out hop
        have TT := hid ts1
        have hes : applyX S es ws = ws := by rw [ts2]; rfl
        rw [hes] at hO2
        clear ts1 ts2 hes hop
        go_wp2_with fail
        refine (refNoteW t p s _ _).mono ?_
        rw [NW.out]
        rintro e wA ⟨rfl, hbA⟩
        have zA : w.heap.size < wA.heap.size := by have := hbA.size; omega
        have hBA : Below w.heap.size w wA := hB.trans (hbA.mono (by omega))
        have hOA := hO2.kept hbA (Nat.le_refl _)
        have cxA := (hbA.cell (p := ⟨b0, off + ni, none⟩) hb0).trans cx
        have zgA : g3 < wA.heap.size := by have := hbA.size; omega
        have q0 := (hbA.cell (p := ⟨w.heap.size, 0, none⟩) zr).trans q0
        have q1 := (hbA.cell (p := ⟨w.heap.size, 1, none⟩) zr).trans q1
        have q2 := (hbA.cell (p := ⟨w.heap.size, 2, none⟩) zr).trans q2
        clear hbA hO2 hB cx
        go_wp2_with fail
        refine (refOfNote nx _ (by omega) (by omega)).mono ?_
        rw [OV.out]
        rintro e wC ⟨rfl, hbC⟩
        have zC : w.heap.size < wC.heap.size := by have := hbC.size; omega
        have hBC : Below w.heap.size w wC := hBA.trans (hbC.mono (by omega))
        have hOC := hOA.kept hbC (Nat.le_refl _)
        have zgC : g3 < wC.heap.size := by have := hbC.size; omega
        have q0 := (hbC.cell (p := ⟨w.heap.size, 0, none⟩) zA).trans q0
        have q1 := (hbC.cell (p := ⟨w.heap.size, 1, none⟩) zA).trans q1
        have q2 := (hbC.cell (p := ⟨w.heap.size, 2, none⟩) zA).trans q2
        clear hbC hOA hBA cxA
        go_wp2_with fail
        go_ret2
        exact .inl ⟨_, TT.out, _, _, _, rfl, (hOC.kept (B := wC.heap.size) ((Below.refl _ _).alloc (Nat.le_refl _) _) (Nat.le_refl _)).rebase (by omega), bel⟩
end Go.Proofs.Ytkkhoiahjmfibaa
