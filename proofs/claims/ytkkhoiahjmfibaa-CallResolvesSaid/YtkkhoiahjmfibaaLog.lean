/- The walk of package redo's Log. -/
import Derived.Test.YtkkhoiahjmfibaaEntries
import Derived.Deep.RegionHeld3
namespace Go.Proofs.Ytkkhoiahjmfibaa
open Go.RowKit
set_option linter.unusedVariables false
set_option linter.unusedSimpArgs false

/-- Where a maker's note is, where its entries begin. -/
def noteI (t p u : Int) : Nat := (makersN t p + 120 * u + 16).toNat
def logI (t p u : Int) : Nat := (makersN t p + 120 * u + 24).toNat
def noteX (t p u : Int) (ws : List Nat) : Nat := ws[noteI t p u]?.getD 0
def cntX (x : Nat) : Nat := x % 2147483648
def logXs (t p u : Int) (ws : List Nat) : List Nat := (ws.drop (logI t p u)).take (cntX (noteX t p u ws))
/-- Has a maker a log? -/
def logB (t p u : Int) (ws : List Nat) : Bool := decide (cntX (noteX t p u ws) ≤ 96) && entsB t p (logXs t p u ws)

theorem Seen.drop {k : IntKind} {w : World} {b off len cap : Nat} {xs : List Nat} (h : Seen k w (some ⟨b, off, none⟩) len cap xs) (lo n : Nat) (hn : lo + n ≤ len) : Seen k w (some ⟨b, off + lo, none⟩) n n ((xs.drop lo).take n) := by
  obtain ⟨h1, h2, h3, h4⟩ := h
  refine ⟨by rw [List.length_take, List.length_drop]; omega, Nat.le_refl _, by omega, ?_⟩
  by_cases h0 : n = 0
  · exact .inl ⟨h0, fun h => by cases h⟩
  · rcases h4 with ⟨h4, _⟩ | ⟨b', off', he, hc⟩
    · omega
    · cases he
      refine .inr ⟨b, off + lo, rfl, fun i hi => ?_⟩
      have h5 := hc (lo + i) (by omega)
      rw [Nat.add_assoc, h5, List.getElem?_take, if_pos hi, List.getElem?_drop]

/-- What a log answers. -/
def LogPost (w : World) (t p u : Int) (ws : List Nat) (good : Bool) (e : Ending) (w' : World) : Prop :=
  ((good && logB t p u ws) = true ∧ ∃ v, e = .returned (.tuple #[.agg #[.int .u32 ((noteX t p u ws : Int) / 4294967296), .bool ((noteX t p u ws : Int) / 2147483648 % 2 == 1), .int .i64 ((noteX t p u ws : Int) % 2147483648)], v, .bool true]) ∧ OwnP w' w.heap.size v (logXs t p u ws) ∧ Below w.heap.size w w') ∨
  ((good && logB t p u ws) = false ∧ e = .returned (.tuple #[.agg #[.int .u32 0, .bool false, .int .i64 0], .slice none 0 0, .bool false]) ∧ Below w.heap.size w w')

set_option maxHeartbeats 1600000 in
theorem redoLogNo (t p s u : Int) (w : World) (a : Option Addr) (len cap : Nat) (ws : List Nat) (h : ¬ (okW t p s len ∧ 0 ≤ u ∧ u ≤ t)) :
    Calls Try.prog 12 #[.agg #[.int .i64 t, .int .i64 p, .int .i64 s], .slice a len cap, .int .i64 u] w (LogPost w t p u ws false) := by
  by_cases ho : okW t p s len
  · have M := hid (makerNo (t := t) (p := p) (s := s) (u := u) (fun g => h ⟨ho, g⟩))
    have HO := hid ho
    clear h ho
    go_enter Try.func12, Try.ntmps12
    go_wp2_with fail
    refine (redoRightYes t p s _ a len cap HO.out).mono ?_
    rintro e w1 ⟨rfl, hb1⟩
    obtain ⟨hc1, hf1, hz1⟩ := after hb1
    simp at hz1
    have z1 : w.heap.size < w1.heap.size := by omega
    have z1' : w.heap.size + 1 < w1.heap.size := by omega
    go_wp2_with fail
    refine (redoMaker t p s u _ false M).mono ?_
    rintro e w2 ⟨rfl, hb2⟩
    obtain ⟨hc2, hf2, hz2⟩ := after hb2
    have z2 : w.heap.size < w2.heap.size := by omega
    have z2' : w.heap.size + 1 < w2.heap.size := by omega
    have k0 : w2.cell? ⟨w.heap.size + 1, 0, none⟩ = some (.int .u32 0) := by rw [hc2 _ _ z1', hc1 _ _ (by simp)]; exact cellNew (by simp) rfl
    have k1 : w2.cell? ⟨w.heap.size + 1, 1, none⟩ = some (.bool false) := by rw [hc2 _ _ z1', hc1 _ _ (by simp)]; exact cellNew (by simp) rfl
    have k2 : w2.cell? ⟨w.heap.size + 1, 2, none⟩ = some (.int .i64 0) := by rw [hc2 _ _ z1', hc1 _ _ (by simp)]; exact cellNew (by simp) rfl
    go_wp2_with fail
    exact bodyPost_ret (v := .tuple #[.agg #[.int .u32 0, .bool false, .int .i64 0], .slice none 0 0, .bool false]) (by simp [results, Try.results12, go_sem, k0, k1, k2, z2, z2']) rfl (.inr ⟨rfl, rfl, bel⟩)
  · have HO := hid ho
    clear h ho
    go_enter Try.func12, Try.ntmps12
    go_wp2_with fail
    refine (redoRightNo t p s _ a len cap HO.out).mono ?_
    rintro e w1 ⟨rfl, hb1⟩
    obtain ⟨hc1, hf1, hz1⟩ := after hb1
    simp at hz1
    have z1 : w.heap.size < w1.heap.size := by omega
    have z1' : w.heap.size + 1 < w1.heap.size := by omega
    have k0 : w1.cell? ⟨w.heap.size + 1, 0, none⟩ = some (.int .u32 0) := by rw [hc1 _ _ (by simp)]; exact cellNew (by simp) rfl
    have k1 : w1.cell? ⟨w.heap.size + 1, 1, none⟩ = some (.bool false) := by rw [hc1 _ _ (by simp)]; exact cellNew (by simp) rfl
    have k2 : w1.cell? ⟨w.heap.size + 1, 2, none⟩ = some (.int .i64 0) := by rw [hc1 _ _ (by simp)]; exact cellNew (by simp) rfl
    go_wp2_with fail
    exact bodyPost_ret (v := .tuple #[.agg #[.int .u32 0, .bool false, .int .i64 0], .slice none 0 0, .bool false]) (by simp [results, Try.results12, go_sem, k0, k1, k2, z1, z1']) rfl (.inr ⟨rfl, rfl, bel⟩)

theorem noteI_bd {t p s u : Int} {len : Nat} (ho : okW t p s len) (h0 : 0 ≤ u) (h1 : u ≤ t) : ((noteI t p u : Nat) : Int) = makersN t p + 120 * u + 16 ∧ ((logI t p u : Nat) : Int) = makersN t p + 120 * u + 24 ∧ noteI t p u < len ∧ logI t p u + 96 ≤ len := by
  obtain ⟨hr, hl⟩ := ho
  obtain ⟨⟨g1, g2⟩, ⟨g3, g4⟩, g5, g6⟩ := rightC_of hr
  have mb := makers_bd ⟨⟨g1, g2⟩, g3, g4⟩
  unfold noteI logI
  omega

end Go.Proofs.Ytkkhoiahjmfibaa
