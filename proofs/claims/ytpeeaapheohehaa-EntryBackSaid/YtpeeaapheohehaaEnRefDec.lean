/- The walks of the reference's get, one, Decode of entries. -/
import Derived.Test.YtpeeaapheohehaaEnRows
import Derived.Deep.RegionHeld3
import Derived.Deep.DeepCutAuto
namespace Go.Proofs.Ytpeeaapheohehaa
open Go.RowKit
set_option linter.unusedVariables false
set_option linter.unusedSimpArgs false

theorem unbe_take_snoc (l : List Nat) (k : Nat) (h : k < l.length) : unbe (l.take (k + 1)) = unbe (l.take k) * 256 + l[k]?.getD 0 := by
  rw [List.take_succ_eq_append_getElem h, unbe_snoc, List.getElem?_eq_getElem h, Option.getD_some]

set_option maxRecDepth 100000 in
set_option maxHeartbeats 3200000 in
theorem ref32get (at_ sz : Nat) (w : World) (a : Option Addr) (len cap : Nat) (xs : List Nat) (hs : Seen .u8 w a len cap xs) (hf : Fit 256 xs) (h1 : at_ + sz ≤ len) (h2 : sz ≤ 8) :
    Calls Try.prog 108 #[.slice a len cap, .int .i64 at_, .int .i64 sz] w fun e w' => e = .returned (.int .u64 (unbe ((xs.drop at_).take sz))) ∧ w = w' := by
  obtain ⟨x1, x2, x3, x4⟩ := hs
  have L := hid (show (xs.drop at_).length = len - at_ by rw [List.length_drop, x1])
  have hfd : Fit 256 (xs.drop at_) := fun y hy => hf y (List.mem_of_mem_drop hy)
  have HL := hidAll fun k => hidAll fun (h : k ≤ 8) => (show unbe ((xs.drop at_).take k) < 18446744073709551616 from Nat.lt_of_lt_of_le (unbe_lt _ _ rfl (fun y hy => hfd y (List.mem_of_mem_take hy))) (Nat.le_trans (Nat.pow_le_pow_right (by omega) (Nat.le_trans (List.length_take_le _ _) h)) (by decide)))
  have HS := hidAll fun k => hidAll fun (h : k < (xs.drop at_).length) => unbe_take_snoc (xs.drop at_) k h
  have HX := hidAll fun i => hf.getD (by omega) i
  go_enter Try.func108, Try.ntmps108
  go_wp2_with fail
  go_loopw [7, 8] (fun n i wr => ∃ k : Nat, k ≤ sz ∧ i = .int .i64 (k : Int) ∧ n = .int .u64 ((unbe ((xs.drop at_).take k) : Nat) : Int) ∧ w = wr) (fun _ i _ => sz - (intOf i).toNat)
  case atStart => exact ⟨0, by omega, rfl, rfl, rfl⟩
  case round =>
    obtain ⟨k, hk, rfl, rfl, rfl⟩ := hrel
    by_cases hlt : k < sz
    · rcases x4 with ⟨h4, _⟩ | ⟨b, off, rfl, hc⟩
      · omega
      have c0 := hc (at_ + k) (by omega)
      have hx := HX.out (at_ + k)
      have hb1 := (HL.out (k + 1)).out (by omega)
      have hst := (HS.out k).out (by rw [L.out]; omega)
      rw [List.getElem?_drop] at hst
      rw [hst] at hb1
      generalize hU : unbe ((xs.drop at_).take k) = U at hst hb1 ⊢
      generalize xs[at_ + k]?.getD 0 = x at c0 hx hb1 hst
      have ST := hid hst
      clear hst hU hc
      have m1 : IntKind.u64.wrap ((U : Int) * 256) = ((U * 256 : Nat) : Int) := by rw [IntKind.wrap_u64]; omega
      go_wp2_with fail
      go_roundw
      case rel => exact ⟨k + 1, by omega, by go_num, by rw [ST.out]; go_num, by first | rfl | trivial⟩
      case measure => simp [intOf]; omega
    · obtain rfl : k = sz := by omega
      go_wp2_with fail
      go_ret
      exact ⟨rfl, rfl⟩

theorem ref32getI (p : Int) (at_ sz : Nat) (w : World) (a : Option Addr) (len cap : Nat) (xs : List Nat) (hp : p = (at_ : Int)) (hs : Seen .u8 w a len cap xs) (hf : Fit 256 xs) (h1 : at_ + sz ≤ len) (h2 : sz ≤ 8) :
    Calls Try.prog 108 #[.slice a len cap, .int .i64 p, .int .i64 sz] w fun e w' => e = .returned (.int .u64 (unbe ((xs.drop at_).take sz))) ∧ w = w' := by
  subst hp
  exact ref32get at_ sz w a len cap xs hs hf h1 h2

/-- What a piece of code leaves, by what is known of the world alone. -/
theorem wp_forget {P : Program} {c : Code} {Q : Exit → Act → World → Prop} {a : Act} {w : World} (R : World → Prop) (h : c.wp P (fun e a' w' => R w' ∧ ∀ wz, R wz → Q e a' wz) a w) : c.wp P Q a w :=
  Code.wp_mono (fun _ _ w' hh => hh.2 w' hh.1) h

theorem unbe_one {xs : List Nat} (at_ : Nat) (h : at_ < xs.length) : unbe ((xs.drop at_).take 1) = xs[at_]?.getD 0 := by
  rw [List.drop_eq_getElem_cons h, List.take_succ_cons, List.take_zero, List.getElem?_eq_getElem h]
  simp [unbe]

set_option maxRecDepth 100000 in
set_option maxHeartbeats 3200000 in
theorem ref32one1 (at_ : Nat) (w : World) (b off len cap : Nat) (xs : List Nat) (hs : Seen .u8 w (some ⟨b, off, none⟩) len cap xs) (hf : Fit 256 xs) (h1 : at_ + 22 ≤ len) :
    Calls Try.prog 82 #[.int .i64 1, .slice (some ⟨b, off, none⟩) len cap, .int .i64 at_] w fun e w' => e = .returned (enV (oneE 1 (xs.drop at_))) ∧ Below w.heap.size w w' := by
  have hl := hs.1
  have hcl : len ≤ 9223372036854775807 := by have := hs.2.1; have := hs.2.2.1; omega
  have hx := extCell
  have G1 := hidAll fun w' => hidAll fun (h : Below w.heap.size w w') => fun p hp => ref32getI p (at_ + 1) 4 w' _ len cap xs hp (hs.below h) hf (by omega) (by omega)
  have G2 := hidAll fun w' => hidAll fun (h : Below w.heap.size w w') => fun p hp => ref32getI p (at_ + 6) 8 w' _ len cap xs hp (hs.below h) hf (by omega) (by omega)
  have G3 := hidAll fun w' => hidAll fun (h : Below w.heap.size w w') => fun p hp => ref32getI p (at_ + 14) 8 w' _ len cap xs hp (hs.below h) hf (by omega) (by omega)
  have EQ := hid (show oneE 1 (xs.drop at_) = ⟨1, (xs[at_]?.getD 0 : Nat), unbe ((xs.drop (at_ + 1)).take 4), (xs[at_ + 5]?.getD 0 : Nat), wrap64 (unbe ((xs.drop (at_ + 6)).take 8)), wrap64 (unbe ((xs.drop (at_ + 14)).take 8)), 0, 0⟩ by
    rw [oneE, if_pos rfl, unbe_one at_ (by omega), ← unbe_one (at_ + 5) (by omega)]
    simp only [List.drop_drop])
  have B4 := unbe_take hf (at_ + 1) 4
  have B8 := unbe_take hf (at_ + 6) 8
  have B9 := unbe_take hf (at_ + 14) 8
  have y0 := hf.getD (by omega) at_
  have y5 := hf.getD (by omega) (at_ + 5)
  have cc : ∀ i, i < len → w.cell? ⟨b, off + i, none⟩ = some (.int .u8 ((xs[i]?.getD 0 : Nat) : Int)) := by
    rcases hs.2.2.2 with ⟨h, _⟩ | ⟨b', off', he, hc⟩
    · omega
    · cases he; exact hc
  have c0 := cc at_ (by omega)
  have c5 := cc (at_ + 5) (by omega)
  have hbl := World.block_lt_of_cell? w _ c0
  simp only at hbl
  clear cc
  simp only [Nat.reducePow] at B4 B8 B9
  generalize unbe ((xs.drop (at_ + 1)).take 4) = u1 at *
  generalize unbe ((xs.drop (at_ + 6)).take 8) = u2 at *
  generalize unbe ((xs.drop (at_ + 14)).take 8) = u3 at *
  generalize xs[at_]?.getD 0 = x0 at *
  generalize xs[at_ + 5]?.getD 0 = x5 at *
  rw [EQ.out]
  clear EQ hs
  have w2 : IntKind.i64.wrap (u2 : Int) = wrap64 (u2 : Int) := by rw [IntKind.wrap_i64]; unfold wrap64; omega
  have w3 : IntKind.i64.wrap (u3 : Int) = wrap64 (u3 : Int) := by rw [IntKind.wrap_i64]; unfold wrap64; omega
  have w5 : IntKind.i64.wrap (x5 : Int) = (x5 : Int) := by rw [IntKind.wrap_i64]; omega
  generalize wrap64 (u2 : Int) = q2 at w2 ⊢
  generalize wrap64 (u3 : Int) = q3 at w3 ⊢
  go_enter Try.func82, Try.ntmps82
  go_wp2_with fail
  have i0 : (0 : Int) ≤ (at_ : Int) + 5 := by omega
  have i1 : (at_ : Int) + 5 < (len : Int) := by omega
  have i2 : ((at_ : Int) + 5).toNat = at_ + 5 := by omega
  have i3 : IntKind.i64.wrap ((at_ : Int) + 5) = (at_ : Int) + 5 := by rw [IntKind.wrap_i64]; omega
  have i4 : IntKind.i64.wrap ((at_ : Int) + 6) = (at_ : Int) + 6 := by rw [IntKind.wrap_i64]; omega
  have i5 : IntKind.i64.wrap ((at_ : Int) + 14) = (at_ : Int) + 14 := by rw [IntKind.wrap_i64]; omega
  refine (((G1.out _).out bel) _ (by go_num)).mono ?_
  rintro e _ ⟨rfl, rfl⟩
  go_upto_region 6 with (fail)
  refine wp_forget (fun wx => BlkT 32 wx (w.heap.size + 1) #[.int .i64 1, .int .i64 (x0 : Int), .int .i64 (u1 : Int), .int .i64 (x5 : Int), .int .i64 q2, .int .i64 q3, .int .i64 0, .int .i64 0] ∧ BlkT 32 wx w.heap.size #[.int .i64 0, .int .i64 0, .int .i64 0, .int .i64 0, .int .i64 0, .int .i64 0, .int .i64 0, .int .i64 0] ∧ Below w.heap.size w wx) ?_
  go_region_held3 (fun w' => w'.cell? ⟨b, off + (at_ + 5), none⟩ = some (.int .u8 (x5 : Int)))
    (((go_split_ands); (try dsimp only); (repeat' apply And.intro); (all_goals first | assumption | go_keep)))
    (first
      | (go_at_call 108; refine (((G2.out _).out bel) _ (by go_num)).mono ?_; rintro e _ ⟨rfl, rfl⟩)
      | (go_at_call 108; refine (((G3.out _).out bel) _ (by go_num)).mono ?_; rintro e _ ⟨rfl, rfl⟩))
  all_goals clear G1 G2 G3
  all_goals refine ⟨⟨?_, ?_, ?_⟩, fun wq hR => ?_⟩
  case refine_1 => exact blkT_drew (blkT_new (by simp))
  case refine_2 => exact blkT_drew (blkT_old (blkT_new rfl))
  case refine_3 => exact ((((Below.refl _ _).alloc (Nat.le_refl _) _).alloc (by simp) _).drew)
  case refine_4 =>
    obtain ⟨hk, hr, hB⟩ := hR
    have p0 : wq.cell? ⟨w.heap.size + 1, 0, none⟩ = some (.int .i64 1) := blkT_cell hk rfl
    have p1 : wq.cell? ⟨w.heap.size + 1, 1, none⟩ = some (.int .i64 (x0 : Int)) := blkT_cell hk rfl
    have p2 : wq.cell? ⟨w.heap.size + 1, 2, none⟩ = some (.int .i64 (u1 : Int)) := blkT_cell hk rfl
    have p3 : wq.cell? ⟨w.heap.size + 1, 3, none⟩ = some (.int .i64 (x5 : Int)) := blkT_cell hk rfl
    have p4 : wq.cell? ⟨w.heap.size + 1, 4, none⟩ = some (.int .i64 q2) := blkT_cell hk rfl
    have p5 : wq.cell? ⟨w.heap.size + 1, 5, none⟩ = some (.int .i64 q3) := blkT_cell hk rfl
    have p6 : wq.cell? ⟨w.heap.size + 1, 6, none⟩ = some (.int .i64 0) := blkT_cell hk rfl
    have p7 : wq.cell? ⟨w.heap.size + 1, 7, none⟩ = some (.int .i64 0) := blkT_cell hk rfl
    have r0 : wq.cell? ⟨w.heap.size, 0, none⟩ = some (.int .i64 0) := blkT_cell hr rfl
    have r1 : wq.cell? ⟨w.heap.size, 1, none⟩ = some (.int .i64 0) := blkT_cell hr rfl
    have r2 : wq.cell? ⟨w.heap.size, 2, none⟩ = some (.int .i64 0) := blkT_cell hr rfl
    have r3 : wq.cell? ⟨w.heap.size, 3, none⟩ = some (.int .i64 0) := blkT_cell hr rfl
    have r4 : wq.cell? ⟨w.heap.size, 4, none⟩ = some (.int .i64 0) := blkT_cell hr rfl
    have r5 : wq.cell? ⟨w.heap.size, 5, none⟩ = some (.int .i64 0) := blkT_cell hr rfl
    have r6 : wq.cell? ⟨w.heap.size, 6, none⟩ = some (.int .i64 0) := blkT_cell hr rfl
    have r7 : wq.cell? ⟨w.heap.size, 7, none⟩ = some (.int .i64 0) := blkT_cell hr rfl
    have mr := blkT_mark hr
    clear hx
    go_wp2_with fail
    exact bodyPost_ret (v := enV ⟨1, (x0 : Int), (u1 : Int), (x5 : Int), q2, q3, 0, 0⟩) (by simp [results, Try.results82, go_sem, enV, r0, r1, r2, r3, r4, r5, r6, r7]) rfl ⟨rfl, ((((((((hB.setCell (p := ⟨w.heap.size, 0, none⟩) (Nat.le_refl _) _).setCell (p := ⟨w.heap.size, 1, none⟩) (Nat.le_refl _) _).setCell (p := ⟨w.heap.size, 2, none⟩) (Nat.le_refl _) _).setCell (p := ⟨w.heap.size, 3, none⟩) (Nat.le_refl _) _).setCell (p := ⟨w.heap.size, 4, none⟩) (Nat.le_refl _) _).setCell (p := ⟨w.heap.size, 5, none⟩) (Nat.le_refl _) _).setCell (p := ⟨w.heap.size, 6, none⟩) (Nat.le_refl _) _).setCell (p := ⟨w.heap.size, 7, none⟩) (Nat.le_refl _) _)⟩
end Go.Proofs.Ytpeeaapheohehaa
