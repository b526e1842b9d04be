/- The walks of package redo, and of the reference: are words those of a configuration, is there a maker? -/
import Derived.Test.YtkkhoiahjmfibaaMark2
import Derived.Test.YtkkhoiahjmfibaaPlaceRef
import Derived.Test.YtkkhoiahjmfibaaMake
namespace Go.Proofs.Ytkkhoiahjmfibaa
open Go.RowKit
set_option linter.unusedVariables false
set_option linter.unusedSimpArgs false

/-- Are so many words those of a configuration? -/
def okW (t p s : Int) (len : Nat) : Prop := rightC t p s = true ∧ (len : Int) = makersN t p + 120 * (t + 1)
theorem okW_words {t p s : Int} {len : Nat} (h : okW t p s len) : wordsC t p s = (len : Int) ∧ 320 ≤ len ∧ len ≤ 8400 := by
  obtain ⟨hr, hl⟩ := h
  obtain ⟨⟨h1, h2⟩, ⟨h3, h4⟩, h5, h6⟩ := rightC_of hr
  have mb := makers_bd ⟨⟨h1, h2⟩, h3, h4⟩
  exact ⟨by rw [wordsC, hr, hl]; rfl, by omega, by omega⟩
theorem okW_no {t p s : Int} {len : Nat} (h : ¬ okW t p s len) : wordsC t p s = 0 ∨ (0 < wordsC t p s ∧ wordsC t p s ≠ (len : Int)) := by
  by_cases hr : rightC t p s = true
  · obtain ⟨⟨h1, h2⟩, ⟨h3, h4⟩, h5, h6⟩ := rightC_of hr
    have mb := makers_bd ⟨⟨h1, h2⟩, h3, h4⟩
    have e : wordsC t p s = makersN t p + 120 * (t + 1) := by rw [wordsC, hr]; rfl
    exact .inr ⟨by omega, fun he => h ⟨hr, by omega⟩⟩
  · exact .inl (by rw [wordsC, if_neg hr])

theorem redoRightYes (t p s : Int) (w : World) (a : Option Addr) (len cap : Nat) (h : okW t p s len) :
    Calls Try.prog 37 #[.agg #[.int .i64 t, .int .i64 p, .int .i64 s], .slice a len cap] w fun e w' => e = .returned (.bool true) ∧ Below w.heap.size w w' := by
  obtain ⟨e, l1, l2⟩ := okW_words h
  have E := hid e; clear e h
  go_enter Try.func37, Try.ntmps37
  go_wp2_with fail
  refine (placeWords t p s _).mono ?_
  rw [E.out]
  rintro e w1 ⟨rfl, hb1⟩
  obtain ⟨hc1, hf1, hz1⟩ := after hb1
  have z1 : w.heap.size < w1.heap.size := by simp at hz1; omega
  go_wp2_with fail
  refine (placeWords t p s _).mono ?_
  rw [E.out]
  rintro e w2 ⟨rfl, hb2⟩
  go_wp2_with fail
  go_ret
  exact ⟨rfl, bel⟩
theorem redoRightNo (t p s : Int) (w : World) (a : Option Addr) (len cap : Nat) (h : ¬ okW t p s len) :
    Calls Try.prog 37 #[.agg #[.int .i64 t, .int .i64 p, .int .i64 s], .slice a len cap] w fun e w' => e = .returned (.bool false) ∧ Below w.heap.size w w' := by
  rcases okW_no h with e | ⟨e1, e2⟩
  · have E := hid e; clear e h
    go_enter Try.func37, Try.ntmps37
    go_wp2_with fail
    refine (placeWords t p s _).mono ?_
    rw [E.out]
    rintro e w1 ⟨rfl, hb1⟩
    go_wp2_with fail
    go_ret
    exact ⟨rfl, bel⟩
  · clear h
    have PW := hidAll fun w => placeWords t p s w
    generalize wordsC t p s = n at e1 e2 PW
    have d : ((len : Int) == n) = false := by rw [beq_eq_false_iff_ne]; exact fun h => e2 h.symm
    clear e2
    go_enter Try.func37, Try.ntmps37
    go_wp2_with fail
    refine (PW.out _).mono ?_
    rintro e w1 ⟨rfl, hb1⟩
    obtain ⟨hc1, hf1, hz1⟩ := after hb1
    have z1 : w.heap.size < w1.heap.size := by simp at hz1; omega
    go_wp2_with fail
    refine (PW.out _).mono ?_
    rintro e w2 ⟨rfl, hb2⟩
    go_wp2_with fail
    go_ret
    exact ⟨rfl, bel⟩
theorem refRight27Yes (t p s : Int) (w : World) (a : Option Addr) (len cap : Nat) (h : okW t p s len) :
    Calls Try.prog 43 #[.agg #[.int .i64 t, .int .i64 p, .int .i64 s], .slice a len cap] w fun e w' => e = .returned (.bool true) ∧ Below w.heap.size w w' := by
  obtain ⟨e, l1, l2⟩ := okW_words h
  have E := hid e; clear e h
  go_enter Try.func43, Try.ntmps43
  go_wp2_with fail
  refine (refWords t p s _).mono ?_
  rw [E.out]
  rintro e w1 ⟨rfl, hb1⟩
  go_wp2_with fail
  go_ret
  exact ⟨rfl, bel⟩
theorem refRight27No (t p s : Int) (w : World) (a : Option Addr) (len cap : Nat) (h : ¬ okW t p s len) :
    Calls Try.prog 43 #[.agg #[.int .i64 t, .int .i64 p, .int .i64 s], .slice a len cap] w fun e w' => e = .returned (.bool false) ∧ Below w.heap.size w w' := by
  have hn := okW_no h
  by_cases h0 : len = 0
  · subst h0
    clear h hn
    go_enter Try.func43, Try.ntmps43
    go_wp2_with fail
    go_ret
    exact ⟨rfl, bel⟩
  · have e2 : wordsC t p s ≠ (len : Int) := by omega
    clear h hn
    have PW := hidAll fun w => refWords t p s w
    generalize wordsC t p s = n at e2 PW
    have d : ((len : Int) == n) = false := by rw [beq_eq_false_iff_ne]; exact fun h => e2 h.symm
    have dl : 0 < len := by omega
    clear e2 h0
    go_enter Try.func43, Try.ntmps43
    go_wp2_with fail
    refine (PW.out _).mono ?_
    rintro e w1 ⟨rfl, hb1⟩
    go_wp2_with fail
    go_ret
    exact ⟨rfl, bel⟩

theorem redoMaker (t p s u : Int) (w : World) (b : Bool) (hb : RowKit.Hid (decide (0 ≤ noteW t p s u) = b)) :
    Calls Try.prog 38 #[.agg #[.int .i64 t, .int .i64 p, .int .i64 s], .int .i64 u] w fun e w' => e = .returned (.bool b) ∧ Below w.heap.size w w' := by
  go_enter Try.func38, Try.ntmps38
  go_wp2_with fail
  refine (placeNote t p s u _).mono ?_
  rintro e w1 ⟨rfl, hb1⟩
  go_wp2_with fail
  go_ret
  exact ⟨ret_bool (by rw [hb.out]), bel⟩
theorem makerYes {t p s u : Int} (hr : rightC t p s = true) (h0 : 0 ≤ u) (h1 : u ≤ t) : decide (0 ≤ noteW t p s u) = true := by
  obtain ⟨⟨g1, g2⟩, ⟨g3, g4⟩, g5, g6⟩ := rightC_of hr
  have mb := makers_bd ⟨⟨g1, g2⟩, g3, g4⟩
  rw [noteW, if_pos ⟨hr, h0, h1⟩]
  simp
  omega
theorem makerNo {t p s u : Int} (h : ¬ (0 ≤ u ∧ u ≤ t)) : decide (0 ≤ noteW t p s u) = false := by
  rw [noteW, if_neg (fun g => h g.2)]
  rfl
end Go.Proofs.Ytkkhoiahjmfibaa
