/- '==' between arrays of numbers. -/
import Derived.Test.YtpeeaapheohehaaChecked
import Derived.Test.YtpeeaapheohehaaMem
import Derived.ChangeKeysEq
namespace Go.Proofs.Ytpeeaapheohehaa
open Go.RowKit
set_option linter.unusedVariables false

theorem eqItems_ints {P : Program} {e : TypeId} {k k' : IntKind} (he : P.underlying e = some (.int k')) (hp : P.plainKey e = true) (d : Nat) (xs ys : List Int) (w : World) : ∀ (m n : Nat), m + n = xs.length → ys.length = xs.length →
    (Op.eqItems (d + 1) e 1 (xs.map fun x => Value.int k x).toArray (ys.map fun x => Value.int k x).toArray (List.range' m n)).run P w = .ok ((xs.drop m == ys.drop m)) w := by
  intro m n
  induction n generalizing m with
  | zero => intro h1 h2; rw [List.drop_of_length_le (by omega), List.drop_of_length_le (by omega)]; simp [Op.eqItems]
  | succ n ih =>
    intro h1 h2
    have hm : m < xs.length := by omega
    have hm' : m < ys.length := by omega
    rw [List.range'_succ]
    have p1 := run_part_plain (P := P) (w := w) hp (xs := (xs.map fun x => Value.int k x).toArray) (off := m) (v := .int k xs[m]) (by simp [hm])
    have p2 := run_part_plain (P := P) (w := w) hp (xs := (ys.map fun x => Value.int k x).toArray) (off := m) (v := .int k ys[m]) (by simp [hm'])
    have p3 := run_equalIn_int (P := P) w d e k k' xs[m] ys[m] he
    simp only [Op.eqItems, Sem.run_bind, Nat.mul_one, p1, p2, p3, Result.andThen_ok]
    have e1 : xs.drop m = xs[m] :: xs.drop (m + 1) := List.drop_eq_getElem_cons hm
    have e2 : ys.drop m = ys[m] :: ys.drop (m + 1) := List.drop_eq_getElem_cons hm'
    rw [e1, e2]
    rw [List.cons_beq_cons]
    by_cases h : xs[m] = ys[m]
    · have ih' := ih (m + 1) (by omega) h2
      simp only [h, BEq.rfl, Bool.not_true, Bool.false_eq_true, if_false, Bool.true_and]
      exact ih'
    · have hb : (xs[m] == ys[m]) = false := beq_eq_false_iff_ne.2 h
      rw [hb]
      simp

theorem equalIn_ints {P : Program} {t e : TypeId} {n : Nat} {i : TypeInfo} {k k' : IntKind} (ht : P.underlying t = some (.array n e)) (hi : P.info? e = some i) (he : P.underlying e = some (.int k')) (hp : P.plainKey e = true) (hc : P.cellsOf e = 1)
    (xs ys : List Int) (hx : xs.length = n) (hy : ys.length = n) (w : World) :
    (Op.equalIn 10000 t (.agg (xs.map fun x => Value.int k x).toArray) (.agg (ys.map fun x => Value.int k x).toArray)).run P w = .ok (xs == ys) w := by
  have h := run_equalIn_array (P := P) (w := w) 9999 (xs.map fun x => Value.int k x).toArray (ys.map fun x => Value.int k x).toArray ht hi
  rw [hc, List.range_eq_range', eqItems_ints he hp 9998 xs ys w 0 n (by omega) (by omega)] at h
  exact h

theorem infoSome {P : Program} {e : TypeId} {x : Option Value × Nat × Nat} (h : (P.info? e).map (fun i => (i.zero, i.size, i.bytes)) = some x) : ∃ i, P.info? e = some i := by
  cases hi : P.info? e with
  | none => rw [hi] at h; cases h
  | some i => exact ⟨i, rfl⟩


end Go.Proofs.Ytpeeaapheohehaa
