/- The walk of package entry's Decode. -/
import Derived.Test.YtpeeaapheohehaaEnDecP
namespace Go.Proofs.Ytpeeaapheohehaa
open Go.RowKit
set_option linter.unusedVariables false
set_option linter.unusedSimpArgs false

set_option maxRecDepth 100000 in
set_option maxHeartbeats 12800000 in
theorem enDecode (w : World) (a : Option Addr) (len cap : Nat) (xs : List Nat) (hs : Seen .u8 w a len cap xs) (hf : Fit 256 xs) :
    Calls Try.prog 22 #[.slice a len cap] w (DecPost w xs) := by
  have hl := hs.1
  have hcl : len ≤ 9223372036854775807 := by have := hs.2.1; have := hs.2.2.1; omega
  have HS := hid hs
  have DA := hidAll fun es => hidAll fun p => fun h => hidAll fun hp => fun h2 => fun x => fun hx => (@decL_at xs es (decL 400 xs) p h hp h2 x hx)
  have DE := hidAll fun es => hidAll fun p => fun h => (@decL_end xs es (decL 400 xs) p h)
  have DS := hid (decL_start xs)
  have HF := hid hf
  have hmf : ∀ (fn : Fn) (first cap : Array Value) (w : World), (Instr.makeFunc fn first cap).run Try.prog w = .ok (.func fn first cap) w := fun _ _ _ _ => rfl
  unfold DecPost
  generalize decL 400 xs = D at DA DE DS ⊢
  clear hs
  have hx := extCell
  have hk0 : BlkT 33 (w.alloc (.cells #[.slice a len cap] 33)) w.heap.size #[.slice a len cap] := blkT_new rfl
  have hs0 : RowKit.Hid (∀ wz, Below w.heap.size w wz → Seen .u8 wz a (len - 0) cap (xs.drop 0)) := hid fun wz h => HS.out.below h
  go_enter Try.func22, Try.ntmps22
  go_wp2_with fail
  go_loopw [3, 5] (fun u kd wr => ∃ (q : Nat) (es : List En) (a' : Option Addr) (cap' : Nat), q ≤ len ∧ BlkT 33 wr w.heap.size #[.slice a' (len - q) cap'] ∧ RowKit.Hid (∀ wz, Below w.heap.size w wz → Seen .u8 wz a' (len - q) cap' (xs.drop q)) ∧ OwnE wr (w.heap.size + 1) u es ∧ es.length ≤ 400 ∧ RowKit.Hid (es ++ decL (400 - es.length) (xs.drop q) = D) ∧ Below w.heap.size w wr) (fun _ _ wr => match wr.cell? ⟨w.heap.size, 0, none⟩ with | some (.slice _ n _) => n | _ => 0)
  case atStart => exact ⟨0, [], a, cap, by omega, hk0, hs0, OwnE.nil _ _, by decide, DS, bel⟩
  case round =>
    obtain ⟨q, es, a', cap', hq, hk, HQ, ho, hel, hE, hB⟩ := hrel
    have hsr := HQ.out wr hB
    obtain ⟨a1, c1, hv⟩ := ho.form
    subst hv
    have hz : w.heap.size < wr.heap.size := blkT_lt hk
    have cg : wr.cell? ⟨w.heap.size, 0, none⟩ = some (.slice a' (len - q) cap') := blkT_cell hk rfl
    have CGR := hid cg
    by_cases hlt : q < len
    · have hqI : 0 < len - q := by omega
      by_cases hfull : es.length < 400
      · have hc0 : (xs.drop q)[0]?.getD 0 = xs[q]?.getD 0 := by rw [List.getElem?_drop, Nat.add_zero]
        have hft : Fit 256 (xs.drop q) := fun y hy => HF.out y (List.mem_of_mem_drop hy)
        have hu1 : unbe ((xs.drop q).take 1) = xs[q]?.getD 0 := unbe_one q (by omega)
        have hx8 := HF.out.getD (by omega) q
        have K := ((DA.out es).out q) hE.out
        have K := K.out (by omega) hfull _ rfl
        have TK := hid (enTake 1 w.heap.size wr a' (len - q) cap' (xs.drop q) hk hsr hft (by omega) (by decide) (by decide))
        rw [hu1, wrapSmall (Nat.lt_trans hx8 (by decide))] at TK
        rw [List.drop_drop] at TK
        generalize xs[q]?.getD 0 = x at hx8 K TK
        obtain ⟨K1, K2, K3⟩ := K
        have K1 := hid K1; have K2 := hid K2; have K3 := hid K3
        clear hc0 hft hu1
        go_wp2_with fail
        refine TK.out.mono ?_
        rintro e w1 ⟨rfl, a2, cap2, rfl, hsn⟩
        have HQ1 : RowKit.Hid (∀ wz, Below w.heap.size w wz → Seen .u8 wz a2 (len - q - 1) cap2 (xs.drop (q + 1))) := hid fun wz h => hsn wz (HQ.out wz h)
        have ho1 := ho.other (b := w.heap.size) (Nat.lt_succ_self _) 0 (.slice a2 (len - q - 1) cap2)
        have hk1 := blkT_one (v := .slice a2 (len - q - 1) cap2) hk
        have hB1 : Below w.heap.size w (wr.setCell ⟨w.heap.size, 0, none⟩ (.slice a2 (len - q - 1) cap2)) := hB.setCell (p := ⟨w.heap.size, 0, none⟩) (Nat.le_refl _) _
        have HFY : RowKit.Hid (Fit 256 (xs.drop (q + 1))) := hid fun y hy => HF.out y (List.mem_of_mem_drop hy)
        rw [hl] at K2 K3
        obtain ⟨M, hM⟩ : ∃ M, M = len - q - 1 := ⟨_, rfl⟩
        rw [← hM] at HQ1 ho1 hk1 hB1 ⊢
        rw [show len - (q + 1) = M by omega] at K2 K3
        generalize hY : xs.drop (q + 1) = ys at HQ1 K2 K3 HFY
        have HY := hid hY
        clear hY
        clear hsn TK ho hk hsr HQ hB cg
        generalize wr.setCell ⟨w.heap.size, 0, none⟩ (.slice a2 M cap2) = wa at ho1 hk1 hB1 ⊢
        have cg : wa.cell? ⟨w.heap.size, 0, none⟩ = some (.slice a2 M cap2) := blkT_cell hk1 rfl
        have hza : w.heap.size < wa.heap.size := blkT_lt hk1
        go_wp2_with fail
        refine (enThere (x : Int) _).mono ?_
        by_cases hfar : x < 1 ∨ 6 < x
        · have hE2 := hid (K1.out hfar)
          have hlx : (es ++ [zeroE]).length ≤ 400 := by rw [List.length_append]; simp; omega
          rw [decide_eq_false (show ¬ (1 ≤ (x : Int) ∧ (x : Int) ≤ 6) by omega)]
          rintro e _ ⟨rfl, rfl⟩
          clear K1 K2 K3 hfar
          go_wp2_with (at_builtin; refine wpAppendE rfl (.tmp 23) (.tmp 25) rfl _ (w.heap.size + 1) _ es rfl (ho1.kept ((Below.refl _ _).alloc (Nat.le_refl _) _) (Nat.le_refl _)) zeroE wa.heap.size 1 rfl (blkT_new rfl) (by omega) (by simp; omega) ?_; intro v' w4 hown hgrow)
          have hBq : Below (w.heap.size + 1) wa w4 := ((Below.refl _ _).alloc (by omega) _).grown hgrow (by simp; omega) (by intro j hj; exact ho1.block hj)
          have hk4 := blkT_below hBq (Nat.lt_succ_self _) hk1
          have c4 : w4.cell? ⟨w.heap.size, 0, none⟩ = some (.slice a2 M cap2) := blkT_cell hk4 rfl
          have hB4 : Below w.heap.size w w4 := hB1.trans (hBq.mono (by omega))
          have hM' : M = len - (q + 1) := by omega
          rw [hM'] at hk4 c4 HQ1
          rw [← HY.out] at HQ1
          go_roundw
          case rel => exact ⟨q + 1, es ++ [zeroE], a2, cap2, by omega, hk4, HQ1, hown, hlx, hE2, hB4⟩
          case measure => rw [c4, CGR.out]; show len - (q + 1) < len - q; omega
        · have LE := hidAll fun w => enLength x w hfar
          have NN := needN_le x
          rw [decide_eq_true (show 1 ≤ (x : Int) ∧ (x : Int) ≤ 6 by omega)]
          rintro e _ ⟨rfl, rfl⟩
          go_wp2_with fail
          refine regionBelow (by kernel_rfl) (by kernel_rfl) ?_
          repeat (go_big_quiet_step ((go_at_call 79; exact quietBelow (LE.out _))))
          refine wpQuiet_nil ?_
          intro _ hw'
          obtain ⟨nq, hw''⟩ := hw'
          subst hw''
          have hn := nq.below
          have hk2 := blkT_call hn hk1
          have ho2 := ho1.kept hn (Nat.le_refl _)
          have hB2 : Below w.heap.size w nq.to := hB1.trans (hn.mono (by omega))
          generalize nq.to = wb at hk2 ho2 hB2 ⊢
          have hzb : w.heap.size < wb.heap.size := blkT_lt hk2
          clear LE hn hk1 ho1 hB1 cg hza
          by_cases hcut : M < needN x
          · have hE2 := hid (K2.out hfar hcut)
            have hcI : ((M : Int) < (needN x : Int)) := by omega
            clear K1 K2 K3 hfar hcut
            go_wp2_with (at_builtin; refine wpAppendE rfl (.tmp 32) (.tmp 34) rfl _ (w.heap.size + 1) _ es rfl (ho2.kept ((Below.refl _ _).alloc (Nat.le_refl _) _) (Nat.le_refl _)) zeroE wb.heap.size 1 rfl (blkT_new rfl) (by omega) (by simp; omega) ?_; intro v' w4 hown hgrow)
            have hBq : Below (w.heap.size + 1) wb w4 := ((Below.refl _ _).alloc (by omega) _).grown hgrow (by simp; omega) (by intro j hj; exact ho2.block hj)
            rw [hE2.out] at hown
            go_ret
            exact ⟨_, rfl, hown.down (by omega), hB2.trans (hBq.mono (by omega))⟩
          · have hE2 := hid (K3.out hfar hcut)
            have hcI : ¬ ((M : Int) < (needN x : Int)) := by omega
            have hcN : needN x ≤ M := by omega
            have DO := hid (dv_one x ys hfar HFY.out)
            have hlx : (es ++ [oneE x ys]).length ≤ 400 := by rw [List.length_append]; simp; omega
            have TU := totW_uses x hfar
            have UL := hid (usesL_lt (x : Int))
            have LN := usesL_len (x : Int)
            have FL := hidAll fun w => enFields (x : Int) w
            have TT := hidAll fun j => totW_take (usesL (x : Int)) j
            clear K1 K2 K3 hfar hcut
            generalize usesL (x : Int) = fs at UL FL LN TU TT DO
            go_wp2_with fail
            refine (FL.out _).mono ?_
            rintro e w3 ⟨v3, rfl, ho3, hb3⟩
            obtain ⟨a3, cap3, hv⟩ := ho3.anyForm
            subst hv
            have hn3 : (wb.alloc (.cells #[.int .i64 0, .int .i64 0, .int .i64 0, .int .i64 0, .int .i64 0, .int .i64 0, .int .i64 0] 68)).heap.size = wb.heap.size + 1 := by simp
            have hg3 : BlkT 68 w3 wb.heap.size (A7 (dv (fs.take 0) ys).2) := blkT_call hb3 (blkT_new rfl)
            have hk3 : BlkT 33 w3 w.heap.size #[.slice a2 (M - totW (fs.take 0)) cap2] := blkT_call hb3 (blkT_old hk2)
            have hoe3 := (ho2.kept ((Below.refl _ _).alloc (Nat.le_refl _) _) (Nat.le_refl _)).kept hb3 (Nat.le_refl _)
            rw [hn3] at ho3
            have ho3 := Own.down ho3 (base' := w.heap.size + 1) (by omega)
            have hB3 : Below w.heap.size w w3 := (hB2.alloc (by omega) _).trans (hb3.mono (by rw [hn3]; omega))
            have HQ3 : RowKit.Hid (∀ wz, Below w.heap.size w wz → Seen .u8 wz a2 (M - totW (fs.take 0)) cap2 (ys.drop (totW (fs.take 0)))) := HQ1
            clear hb3 hn3 hk2 ho2 hB2 HQ1 FL
            go_wp2_with fail
            go_loopw [8, 39] (fun fl i wj => ∃ (j : Nat) (aj : Option Addr) (capj : Nat), j ≤ fs.length ∧ i = .int .i64 (j : Int) ∧ BlkT 68 wj wb.heap.size (A7 (dv (fs.take j) ys).2) ∧ BlkT 33 wj w.heap.size #[.slice aj (M - totW (fs.take j)) capj] ∧ RowKit.Hid (∀ wz, Below w.heap.size w wz → Seen .u8 wz aj (M - totW (fs.take j)) capj (ys.drop (totW (fs.take j)))) ∧ Own 3 .i64 wj (w.heap.size + 1) (.slice a3 fs.length cap3) fs ∧ OwnE wj (w.heap.size + 1) (.slice a1 es.length c1) es ∧ Below w.heap.size w wj) (fun _ i _ => fs.length - (intOf i).toNat)
            case atStart => exact ⟨0, a2, cap2, by omega, rfl, hg3, hk3, HQ3, ho3, hoe3, hB3⟩
            case round =>
              obtain ⟨j, aj, capj, hj, rfl, hg, hk, HQj, ho, hoe, hB⟩ := hrel
              by_cases hlt2 : j < fs.length
              · have hf : fs[j] < 7 := UL.out _ (List.getElem_mem hlt2)
                have htk : fs.take (j + 1) = fs.take j ++ [fs[j]] := List.take_succ_eq_append_getElem hlt2
                obtain ⟨g, cap, hv, hgb, hgl, hcap⟩ := ho3.form (by omega)
                cases hv
                have cf := ho.cell rfl j hlt2
                rw [List.getElem?_eq_getElem hlt2, Option.getD_some] at cf
                have tb := TT.out (j + 1)
                rw [htk, totW_snoc] at tb
                have ts := totW_snoc (fs.take j) fs[j]
                rw [← htk] at ts
                have dn := dv_next (fs.take j) ys fs[j]
                rw [← htk] at dn
                generalize fs[j] = f at hf htk cf tb ts dn
                have TS := hid ts
                have DN := hid dn
                clear htk ts dn
                have HFD : RowKit.Hid (Fit 256 (ys.drop (totW (fs.take j)))) := hid fun y hy => HFY.out y (List.mem_of_mem_drop hy)
                obtain rfl | rfl | rfl | rfl | rfl | rfl | rfl : f = 0 ∨ f = 1 ∨ f = 2 ∨ f = 3 ∨ f = 4 ∨ f = 5 ∨ f = 6 := by omega
                · have cf : wr.cell? ⟨g, j, none⟩ = some (.int .i64 0) := cf
                  have IX := wideAt0
                  have tb : totW (fs.take j) + 1 ≤ totW fs := tb
                  have TS := hid (show totW (fs.take (j + 1)) = totW (fs.take j) + 1 from TS.out)
                  have DN := hid (show (fun i => if i = 0 then wrap64 (unbe ((ys.drop (totW (fs.take j))).take 1)) else (dv (fs.take j) ys).2 i) = (dv (fs.take (j + 1)) ys).2 from DN.out)
                  go_wp2_with fail
                  refine (enWide _).mono ?_
                  rintro e w4 ⟨rfl, hb4⟩
                  have hg4 := blkT_call hb4 hg
                  have hk4 := blkT_call hb4 hk
                  have ho4 := ho.kept hb4 (Nat.le_refl _)
                  have hoe4 := hoe.kept hb4 (Nat.le_refl _)
                  have hB4 : Below w.heap.size w w4 := hB.trans (hb4.mono hB.size)
                  clear hb4 hg hk ho hoe hB cf
                  go_wp2_with fail
                  refine (enTake 1 w.heap.size w4 aj (M - totW (fs.take j)) capj (ys.drop (totW (fs.take j))) hk4 (HQj.out _ hB4) HFD.out (by omega) (by decide) (by decide)).mono ?_
                  rintro e w5 ⟨rfl, a5, cap5, rfl, hs5⟩
                  have hg5 := blkT_far (o := 0) (v := .slice a5 (M - totW (fs.take j) - 1) cap5) (show w.heap.size ≠ wb.heap.size by omega) hg4
                  have hk5 := blkT_one (v := .slice a5 (M - totW (fs.take j) - 1) cap5) hk4
                  have ho5 := ho4.elder (b := w.heap.size) (Nat.lt_succ_self _) 0 (.slice a5 (M - totW (fs.take j) - 1) cap5)
                  have hoe5 := hoe4.other (b := w.heap.size) (Nat.lt_succ_self _) 0 (.slice a5 (M - totW (fs.take j) - 1) cap5)
                  have hB5 : Below w.heap.size w (w4.setCell ⟨w.heap.size, 0, none⟩ (.slice a5 (M - totW (fs.take j) - 1) cap5)) := hB4.setCell (p := ⟨w.heap.size, 0, none⟩) (Nat.le_refl _) _
                  have HQ6 : RowKit.Hid (∀ wz, Below w.heap.size w wz → Seen .u8 wz a5 (M - totW (fs.take (j + 1))) cap5 (ys.drop (totW (fs.take (j + 1))))) := hid fun wz h => by
                    have h1 := hs5 wz (HQj.out wz h)
                    rw [List.drop_drop, Nat.sub_sub] at h1
                    rw [TS.out]
                    exact h1
                  clear hs5 hg4 hk4 ho4 hoe4 hB4 HQj
                  generalize w4.setCell ⟨w.heap.size, 0, none⟩ (.slice a5 (M - totW (fs.take j) - 1) cap5) = w5 at hg5 hk5 ho5 hoe5 hB5 ⊢
                  have cF : w5.cell? ⟨wb.heap.size, 0, none⟩ = some (.int .i64 ((dv (fs.take j) ys).2 0)) := blkT_cell hg5 rfl
                  have mF := blkT_mark hg5 0
                  generalize hV : wrap64 ((unbe ((ys.drop (totW (fs.take j))).take 1) : Nat) : Int) = V at DN ⊢
                  have hg6 := blkT_hit (o := 0) (v := .int .i64 V) hg5
                  rw [A7_set _ 0 (by decide), DN.out] at hg6
                  have hk6 := blkT_far (o := 0) (v := .int .i64 V) (show wb.heap.size ≠ w.heap.size by omega) hk5
                  rw [Nat.sub_sub, ← TS.out] at hk6
                  have ho6 := ho5.farT hg5 (by decide) 0 (.int .i64 V)
                  have hoe6 := hoe5.farT hg5 (by decide) 0 (.int .i64 V)
                  have hB6 : Below w.heap.size w (w5.setCell ⟨wb.heap.size, 0, none⟩ (.int .i64 V)) := hB5.setCell (p := ⟨wb.heap.size, 0, none⟩) (Nat.le_of_lt hzb) _
                  clear hg5 hk5 ho5 hoe5 hB5
                  go_wp2_with fail
                  go_roundw
                  case rel => exact ⟨j + 1, a5, cap5, by omega, by go_num, hg6, hk6, HQ6, ho6, hoe6, hB6⟩
                  case measure => simp [intOf]; omega
                · have cf : wr.cell? ⟨g, j, none⟩ = some (.int .i64 1) := cf
                  have IX := wideAt1
                  have tb : totW (fs.take j) + 4 ≤ totW fs := tb
                  have TS := hid (show totW (fs.take (j + 1)) = totW (fs.take j) + 4 from TS.out)
                  have DN := hid (show (fun i => if i = 1 then wrap64 (unbe ((ys.drop (totW (fs.take j))).take 4)) else (dv (fs.take j) ys).2 i) = (dv (fs.take (j + 1)) ys).2 from DN.out)
                  go_wp2_with fail
                  refine (enWide _).mono ?_
                  rintro e w4 ⟨rfl, hb4⟩
                  have hg4 := blkT_call hb4 hg
                  have hk4 := blkT_call hb4 hk
                  have ho4 := ho.kept hb4 (Nat.le_refl _)
                  have hoe4 := hoe.kept hb4 (Nat.le_refl _)
                  have hB4 : Below w.heap.size w w4 := hB.trans (hb4.mono hB.size)
                  clear hb4 hg hk ho hoe hB cf
                  go_wp2_with fail
                  refine (enTake 4 w.heap.size w4 aj (M - totW (fs.take j)) capj (ys.drop (totW (fs.take j))) hk4 (HQj.out _ hB4) HFD.out (by omega) (by decide) (by decide)).mono ?_
                  rintro e w5 ⟨rfl, a5, cap5, rfl, hs5⟩
                  have hg5 := blkT_far (o := 0) (v := .slice a5 (M - totW (fs.take j) - 4) cap5) (show w.heap.size ≠ wb.heap.size by omega) hg4
                  have hk5 := blkT_one (v := .slice a5 (M - totW (fs.take j) - 4) cap5) hk4
                  have ho5 := ho4.elder (b := w.heap.size) (Nat.lt_succ_self _) 0 (.slice a5 (M - totW (fs.take j) - 4) cap5)
                  have hoe5 := hoe4.other (b := w.heap.size) (Nat.lt_succ_self _) 0 (.slice a5 (M - totW (fs.take j) - 4) cap5)
                  have hB5 : Below w.heap.size w (w4.setCell ⟨w.heap.size, 0, none⟩ (.slice a5 (M - totW (fs.take j) - 4) cap5)) := hB4.setCell (p := ⟨w.heap.size, 0, none⟩) (Nat.le_refl _) _
                  have HQ6 : RowKit.Hid (∀ wz, Below w.heap.size w wz → Seen .u8 wz a5 (M - totW (fs.take (j + 1))) cap5 (ys.drop (totW (fs.take (j + 1))))) := hid fun wz h => by
                    have h1 := hs5 wz (HQj.out wz h)
                    rw [List.drop_drop, Nat.sub_sub] at h1
                    rw [TS.out]
                    exact h1
                  clear hs5 hg4 hk4 ho4 hoe4 hB4 HQj
                  generalize w4.setCell ⟨w.heap.size, 0, none⟩ (.slice a5 (M - totW (fs.take j) - 4) cap5) = w5 at hg5 hk5 ho5 hoe5 hB5 ⊢
                  have cF : w5.cell? ⟨wb.heap.size, 1, none⟩ = some (.int .i64 ((dv (fs.take j) ys).2 1)) := blkT_cell hg5 rfl
                  have mF := blkT_mark hg5 1
                  generalize hV : wrap64 ((unbe ((ys.drop (totW (fs.take j))).take 4) : Nat) : Int) = V at DN ⊢
                  have hg6 := blkT_hit (o := 1) (v := .int .i64 V) hg5
                  rw [A7_set _ 1 (by decide), DN.out] at hg6
                  have hk6 := blkT_far (o := 1) (v := .int .i64 V) (show wb.heap.size ≠ w.heap.size by omega) hk5
                  rw [Nat.sub_sub, ← TS.out] at hk6
                  have ho6 := ho5.farT hg5 (by decide) 1 (.int .i64 V)
                  have hoe6 := hoe5.farT hg5 (by decide) 1 (.int .i64 V)
                  have hB6 : Below w.heap.size w (w5.setCell ⟨wb.heap.size, 1, none⟩ (.int .i64 V)) := hB5.setCell (p := ⟨wb.heap.size, 1, none⟩) (Nat.le_of_lt hzb) _
                  clear hg5 hk5 ho5 hoe5 hB5
                  go_wp2_with fail
                  go_roundw
                  case rel => exact ⟨j + 1, a5, cap5, by omega, by go_num, hg6, hk6, HQ6, ho6, hoe6, hB6⟩
                  case measure => simp [intOf]; omega
                · have cf : wr.cell? ⟨g, j, none⟩ = some (.int .i64 2) := cf
                  have IX := wideAt2
                  have tb : totW (fs.take j) + 1 ≤ totW fs := tb
                  have TS := hid (show totW (fs.take (j + 1)) = totW (fs.take j) + 1 from TS.out)
                  have DN := hid (show (fun i => if i = 2 then wrap64 (unbe ((ys.drop (totW (fs.take j))).take 1)) else (dv (fs.take j) ys).2 i) = (dv (fs.take (j + 1)) ys).2 from DN.out)
                  go_wp2_with fail
                  refine (enWide _).mono ?_
                  rintro e w4 ⟨rfl, hb4⟩
                  have hg4 := blkT_call hb4 hg
                  have hk4 := blkT_call hb4 hk
                  have ho4 := ho.kept hb4 (Nat.le_refl _)
                  have hoe4 := hoe.kept hb4 (Nat.le_refl _)
                  have hB4 : Below w.heap.size w w4 := hB.trans (hb4.mono hB.size)
                  clear hb4 hg hk ho hoe hB cf
                  go_wp2_with fail
                  refine (enTake 1 w.heap.size w4 aj (M - totW (fs.take j)) capj (ys.drop (totW (fs.take j))) hk4 (HQj.out _ hB4) HFD.out (by omega) (by decide) (by decide)).mono ?_
                  rintro e w5 ⟨rfl, a5, cap5, rfl, hs5⟩
                  have hg5 := blkT_far (o := 0) (v := .slice a5 (M - totW (fs.take j) - 1) cap5) (show w.heap.size ≠ wb.heap.size by omega) hg4
                  have hk5 := blkT_one (v := .slice a5 (M - totW (fs.take j) - 1) cap5) hk4
                  have ho5 := ho4.elder (b := w.heap.size) (Nat.lt_succ_self _) 0 (.slice a5 (M - totW (fs.take j) - 1) cap5)
                  have hoe5 := hoe4.other (b := w.heap.size) (Nat.lt_succ_self _) 0 (.slice a5 (M - totW (fs.take j) - 1) cap5)
                  have hB5 : Below w.heap.size w (w4.setCell ⟨w.heap.size, 0, none⟩ (.slice a5 (M - totW (fs.take j) - 1) cap5)) := hB4.setCell (p := ⟨w.heap.size, 0, none⟩) (Nat.le_refl _) _
                  have HQ6 : RowKit.Hid (∀ wz, Below w.heap.size w wz → Seen .u8 wz a5 (M - totW (fs.take (j + 1))) cap5 (ys.drop (totW (fs.take (j + 1))))) := hid fun wz h => by
                    have h1 := hs5 wz (HQj.out wz h)
                    rw [List.drop_drop, Nat.sub_sub] at h1
                    rw [TS.out]
                    exact h1
                  clear hs5 hg4 hk4 ho4 hoe4 hB4 HQj
                  generalize w4.setCell ⟨w.heap.size, 0, none⟩ (.slice a5 (M - totW (fs.take j) - 1) cap5) = w5 at hg5 hk5 ho5 hoe5 hB5 ⊢
                  have cF : w5.cell? ⟨wb.heap.size, 2, none⟩ = some (.int .i64 ((dv (fs.take j) ys).2 2)) := blkT_cell hg5 rfl
                  have mF := blkT_mark hg5 2
                  generalize hV : wrap64 ((unbe ((ys.drop (totW (fs.take j))).take 1) : Nat) : Int) = V at DN ⊢
                  have hg6 := blkT_hit (o := 2) (v := .int .i64 V) hg5
                  rw [A7_set _ 2 (by decide), DN.out] at hg6
                  have hk6 := blkT_far (o := 2) (v := .int .i64 V) (show wb.heap.size ≠ w.heap.size by omega) hk5
                  rw [Nat.sub_sub, ← TS.out] at hk6
                  have ho6 := ho5.farT hg5 (by decide) 2 (.int .i64 V)
                  have hoe6 := hoe5.farT hg5 (by decide) 2 (.int .i64 V)
                  have hB6 : Below w.heap.size w (w5.setCell ⟨wb.heap.size, 2, none⟩ (.int .i64 V)) := hB5.setCell (p := ⟨wb.heap.size, 2, none⟩) (Nat.le_of_lt hzb) _
                  clear hg5 hk5 ho5 hoe5 hB5
                  go_wp2_with fail
                  go_roundw
                  case rel => exact ⟨j + 1, a5, cap5, by omega, by go_num, hg6, hk6, HQ6, ho6, hoe6, hB6⟩
                  case measure => simp [intOf]; omega
                · have cf : wr.cell? ⟨g, j, none⟩ = some (.int .i64 3) := cf
                  have IX := wideAt3
                  have tb : totW (fs.take j) + 8 ≤ totW fs := tb
                  have TS := hid (show totW (fs.take (j + 1)) = totW (fs.take j) + 8 from TS.out)
                  have DN := hid (show (fun i => if i = 3 then wrap64 (unbe ((ys.drop (totW (fs.take j))).take 8)) else (dv (fs.take j) ys).2 i) = (dv (fs.take (j + 1)) ys).2 from DN.out)
                  go_wp2_with fail
                  refine (enWide _).mono ?_
                  rintro e w4 ⟨rfl, hb4⟩
                  have hg4 := blkT_call hb4 hg
                  have hk4 := blkT_call hb4 hk
                  have ho4 := ho.kept hb4 (Nat.le_refl _)
                  have hoe4 := hoe.kept hb4 (Nat.le_refl _)
                  have hB4 : Below w.heap.size w w4 := hB.trans (hb4.mono hB.size)
                  clear hb4 hg hk ho hoe hB cf
                  go_wp2_with fail
                  refine (enTake 8 w.heap.size w4 aj (M - totW (fs.take j)) capj (ys.drop (totW (fs.take j))) hk4 (HQj.out _ hB4) HFD.out (by omega) (by decide) (by decide)).mono ?_
                  rintro e w5 ⟨rfl, a5, cap5, rfl, hs5⟩
                  have hg5 := blkT_far (o := 0) (v := .slice a5 (M - totW (fs.take j) - 8) cap5) (show w.heap.size ≠ wb.heap.size by omega) hg4
                  have hk5 := blkT_one (v := .slice a5 (M - totW (fs.take j) - 8) cap5) hk4
                  have ho5 := ho4.elder (b := w.heap.size) (Nat.lt_succ_self _) 0 (.slice a5 (M - totW (fs.take j) - 8) cap5)
                  have hoe5 := hoe4.other (b := w.heap.size) (Nat.lt_succ_self _) 0 (.slice a5 (M - totW (fs.take j) - 8) cap5)
                  have hB5 : Below w.heap.size w (w4.setCell ⟨w.heap.size, 0, none⟩ (.slice a5 (M - totW (fs.take j) - 8) cap5)) := hB4.setCell (p := ⟨w.heap.size, 0, none⟩) (Nat.le_refl _) _
                  have HQ6 : RowKit.Hid (∀ wz, Below w.heap.size w wz → Seen .u8 wz a5 (M - totW (fs.take (j + 1))) cap5 (ys.drop (totW (fs.take (j + 1))))) := hid fun wz h => by
                    have h1 := hs5 wz (HQj.out wz h)
                    rw [List.drop_drop, Nat.sub_sub] at h1
                    rw [TS.out]
                    exact h1
                  clear hs5 hg4 hk4 ho4 hoe4 hB4 HQj
                  generalize w4.setCell ⟨w.heap.size, 0, none⟩ (.slice a5 (M - totW (fs.take j) - 8) cap5) = w5 at hg5 hk5 ho5 hoe5 hB5 ⊢
                  have cF : w5.cell? ⟨wb.heap.size, 3, none⟩ = some (.int .i64 ((dv (fs.take j) ys).2 3)) := blkT_cell hg5 rfl
                  have mF := blkT_mark hg5 3
                  generalize hV : wrap64 ((unbe ((ys.drop (totW (fs.take j))).take 8) : Nat) : Int) = V at DN ⊢
                  have hg6 := blkT_hit (o := 3) (v := .int .i64 V) hg5
                  rw [A7_set _ 3 (by decide), DN.out] at hg6
                  have hk6 := blkT_far (o := 3) (v := .int .i64 V) (show wb.heap.size ≠ w.heap.size by omega) hk5
                  rw [Nat.sub_sub, ← TS.out] at hk6
                  have ho6 := ho5.farT hg5 (by decide) 3 (.int .i64 V)
                  have hoe6 := hoe5.farT hg5 (by decide) 3 (.int .i64 V)
                  have hB6 : Below w.heap.size w (w5.setCell ⟨wb.heap.size, 3, none⟩ (.int .i64 V)) := hB5.setCell (p := ⟨wb.heap.size, 3, none⟩) (Nat.le_of_lt hzb) _
                  clear hg5 hk5 ho5 hoe5 hB5
                  go_wp2_with fail
                  go_roundw
                  case rel => exact ⟨j + 1, a5, cap5, by omega, by go_num, hg6, hk6, HQ6, ho6, hoe6, hB6⟩
                  case measure => simp [intOf]; omega
                · have cf : wr.cell? ⟨g, j, none⟩ = some (.int .i64 4) := cf
                  have IX := wideAt4
                  have tb : totW (fs.take j) + 8 ≤ totW fs := tb
                  have TS := hid (show totW (fs.take (j + 1)) = totW (fs.take j) + 8 from TS.out)
                  have DN := hid (show (fun i => if i = 4 then wrap64 (unbe ((ys.drop (totW (fs.take j))).take 8)) else (dv (fs.take j) ys).2 i) = (dv (fs.take (j + 1)) ys).2 from DN.out)
                  go_wp2_with fail
                  refine (enWide _).mono ?_
                  rintro e w4 ⟨rfl, hb4⟩
                  have hg4 := blkT_call hb4 hg
                  have hk4 := blkT_call hb4 hk
                  have ho4 := ho.kept hb4 (Nat.le_refl _)
                  have hoe4 := hoe.kept hb4 (Nat.le_refl _)
                  have hB4 : Below w.heap.size w w4 := hB.trans (hb4.mono hB.size)
                  clear hb4 hg hk ho hoe hB cf
                  go_wp2_with fail
                  refine (enTake 8 w.heap.size w4 aj (M - totW (fs.take j)) capj (ys.drop (totW (fs.take j))) hk4 (HQj.out _ hB4) HFD.out (by omega) (by decide) (by decide)).mono ?_
                  rintro e w5 ⟨rfl, a5, cap5, rfl, hs5⟩
                  have hg5 := blkT_far (o := 0) (v := .slice a5 (M - totW (fs.take j) - 8) cap5) (show w.heap.size ≠ wb.heap.size by omega) hg4
                  have hk5 := blkT_one (v := .slice a5 (M - totW (fs.take j) - 8) cap5) hk4
                  have ho5 := ho4.elder (b := w.heap.size) (Nat.lt_succ_self _) 0 (.slice a5 (M - totW (fs.take j) - 8) cap5)
                  have hoe5 := hoe4.other (b := w.heap.size) (Nat.lt_succ_self _) 0 (.slice a5 (M - totW (fs.take j) - 8) cap5)
                  have hB5 : Below w.heap.size w (w4.setCell ⟨w.heap.size, 0, none⟩ (.slice a5 (M - totW (fs.take j) - 8) cap5)) := hB4.setCell (p := ⟨w.heap.size, 0, none⟩) (Nat.le_refl _) _
                  have HQ6 : RowKit.Hid (∀ wz, Below w.heap.size w wz → Seen .u8 wz a5 (M - totW (fs.take (j + 1))) cap5 (ys.drop (totW (fs.take (j + 1))))) := hid fun wz h => by
                    have h1 := hs5 wz (HQj.out wz h)
                    rw [List.drop_drop, Nat.sub_sub] at h1
                    rw [TS.out]
                    exact h1
                  clear hs5 hg4 hk4 ho4 hoe4 hB4 HQj
                  generalize w4.setCell ⟨w.heap.size, 0, none⟩ (.slice a5 (M - totW (fs.take j) - 8) cap5) = w5 at hg5 hk5 ho5 hoe5 hB5 ⊢
                  have cF : w5.cell? ⟨wb.heap.size, 4, none⟩ = some (.int .i64 ((dv (fs.take j) ys).2 4)) := blkT_cell hg5 rfl
                  have mF := blkT_mark hg5 4
                  generalize hV : wrap64 ((unbe ((ys.drop (totW (fs.take j))).take 8) : Nat) : Int) = V at DN ⊢
                  have hg6 := blkT_hit (o := 4) (v := .int .i64 V) hg5
                  rw [A7_set _ 4 (by decide), DN.out] at hg6
                  have hk6 := blkT_far (o := 4) (v := .int .i64 V) (show wb.heap.size ≠ w.heap.size by omega) hk5
                  rw [Nat.sub_sub, ← TS.out] at hk6
                  have ho6 := ho5.farT hg5 (by decide) 4 (.int .i64 V)
                  have hoe6 := hoe5.farT hg5 (by decide) 4 (.int .i64 V)
                  have hB6 : Below w.heap.size w (w5.setCell ⟨wb.heap.size, 4, none⟩ (.int .i64 V)) := hB5.setCell (p := ⟨wb.heap.size, 4, none⟩) (Nat.le_of_lt hzb) _
                  clear hg5 hk5 ho5 hoe5 hB5
                  go_wp2_with fail
                  go_roundw
                  case rel => exact ⟨j + 1, a5, cap5, by omega, by go_num, hg6, hk6, HQ6, ho6, hoe6, hB6⟩
                  case measure => simp [intOf]; omega
                · have cf : wr.cell? ⟨g, j, none⟩ = some (.int .i64 5) := cf
                  have IX := wideAt5
                  have tb : totW (fs.take j) + 2 ≤ totW fs := tb
                  have TS := hid (show totW (fs.take (j + 1)) = totW (fs.take j) + 2 from TS.out)
                  have DN := hid (show (fun i => if i = 5 then wrap64 (unbe ((ys.drop (totW (fs.take j))).take 2)) else (dv (fs.take j) ys).2 i) = (dv (fs.take (j + 1)) ys).2 from DN.out)
                  go_wp2_with fail
                  refine (enWide _).mono ?_
                  rintro e w4 ⟨rfl, hb4⟩
                  have hg4 := blkT_call hb4 hg
                  have hk4 := blkT_call hb4 hk
                  have ho4 := ho.kept hb4 (Nat.le_refl _)
                  have hoe4 := hoe.kept hb4 (Nat.le_refl _)
                  have hB4 : Below w.heap.size w w4 := hB.trans (hb4.mono hB.size)
                  clear hb4 hg hk ho hoe hB cf
                  go_wp2_with fail
                  refine (enTake 2 w.heap.size w4 aj (M - totW (fs.take j)) capj (ys.drop (totW (fs.take j))) hk4 (HQj.out _ hB4) HFD.out (by omega) (by decide) (by decide)).mono ?_
                  rintro e w5 ⟨rfl, a5, cap5, rfl, hs5⟩
                  have hg5 := blkT_far (o := 0) (v := .slice a5 (M - totW (fs.take j) - 2) cap5) (show w.heap.size ≠ wb.heap.size by omega) hg4
                  have hk5 := blkT_one (v := .slice a5 (M - totW (fs.take j) - 2) cap5) hk4
                  have ho5 := ho4.elder (b := w.heap.size) (Nat.lt_succ_self _) 0 (.slice a5 (M - totW (fs.take j) - 2) cap5)
                  have hoe5 := hoe4.other (b := w.heap.size) (Nat.lt_succ_self _) 0 (.slice a5 (M - totW (fs.take j) - 2) cap5)
                  have hB5 : Below w.heap.size w (w4.setCell ⟨w.heap.size, 0, none⟩ (.slice a5 (M - totW (fs.take j) - 2) cap5)) := hB4.setCell (p := ⟨w.heap.size, 0, none⟩) (Nat.le_refl _) _
                  have HQ6 : RowKit.Hid (∀ wz, Below w.heap.size w wz → Seen .u8 wz a5 (M - totW (fs.take (j + 1))) cap5 (ys.drop (totW (fs.take (j + 1))))) := hid fun wz h => by
                    have h1 := hs5 wz (HQj.out wz h)
                    rw [List.drop_drop, Nat.sub_sub] at h1
                    rw [TS.out]
                    exact h1
                  clear hs5 hg4 hk4 ho4 hoe4 hB4 HQj
                  generalize w4.setCell ⟨w.heap.size, 0, none⟩ (.slice a5 (M - totW (fs.take j) - 2) cap5) = w5 at hg5 hk5 ho5 hoe5 hB5 ⊢
                  have cF : w5.cell? ⟨wb.heap.size, 5, none⟩ = some (.int .i64 ((dv (fs.take j) ys).2 5)) := blkT_cell hg5 rfl
                  have mF := blkT_mark hg5 5
                  generalize hV : wrap64 ((unbe ((ys.drop (totW (fs.take j))).take 2) : Nat) : Int) = V at DN ⊢
                  have hg6 := blkT_hit (o := 5) (v := .int .i64 V) hg5
                  rw [A7_set _ 5 (by decide), DN.out] at hg6
                  have hk6 := blkT_far (o := 5) (v := .int .i64 V) (show wb.heap.size ≠ w.heap.size by omega) hk5
                  rw [Nat.sub_sub, ← TS.out] at hk6
                  have ho6 := ho5.farT hg5 (by decide) 5 (.int .i64 V)
                  have hoe6 := hoe5.farT hg5 (by decide) 5 (.int .i64 V)
                  have hB6 : Below w.heap.size w (w5.setCell ⟨wb.heap.size, 5, none⟩ (.int .i64 V)) := hB5.setCell (p := ⟨wb.heap.size, 5, none⟩) (Nat.le_of_lt hzb) _
                  clear hg5 hk5 ho5 hoe5 hB5
                  go_wp2_with fail
                  go_roundw
                  case rel => exact ⟨j + 1, a5, cap5, by omega, by go_num, hg6, hk6, HQ6, ho6, hoe6, hB6⟩
                  case measure => simp [intOf]; omega
                · have cf : wr.cell? ⟨g, j, none⟩ = some (.int .i64 6) := cf
                  have IX := wideAt6
                  have tb : totW (fs.take j) + 1 ≤ totW fs := tb
                  have TS := hid (show totW (fs.take (j + 1)) = totW (fs.take j) + 1 from TS.out)
                  have DN := hid (show (fun i => if i = 6 then wrap64 (unbe ((ys.drop (totW (fs.take j))).take 1)) else (dv (fs.take j) ys).2 i) = (dv (fs.take (j + 1)) ys).2 from DN.out)
                  go_wp2_with fail
                  refine (enWide _).mono ?_
                  rintro e w4 ⟨rfl, hb4⟩
                  have hg4 := blkT_call hb4 hg
                  have hk4 := blkT_call hb4 hk
                  have ho4 := ho.kept hb4 (Nat.le_refl _)
                  have hoe4 := hoe.kept hb4 (Nat.le_refl _)
                  have hB4 : Below w.heap.size w w4 := hB.trans (hb4.mono hB.size)
                  clear hb4 hg hk ho hoe hB cf
                  go_wp2_with fail
                  refine (enTake 1 w.heap.size w4 aj (M - totW (fs.take j)) capj (ys.drop (totW (fs.take j))) hk4 (HQj.out _ hB4) HFD.out (by omega) (by decide) (by decide)).mono ?_
                  rintro e w5 ⟨rfl, a5, cap5, rfl, hs5⟩
                  have hg5 := blkT_far (o := 0) (v := .slice a5 (M - totW (fs.take j) - 1) cap5) (show w.heap.size ≠ wb.heap.size by omega) hg4
                  have hk5 := blkT_one (v := .slice a5 (M - totW (fs.take j) - 1) cap5) hk4
                  have ho5 := ho4.elder (b := w.heap.size) (Nat.lt_succ_self _) 0 (.slice a5 (M - totW (fs.take j) - 1) cap5)
                  have hoe5 := hoe4.other (b := w.heap.size) (Nat.lt_succ_self _) 0 (.slice a5 (M - totW (fs.take j) - 1) cap5)
                  have hB5 : Below w.heap.size w (w4.setCell ⟨w.heap.size, 0, none⟩ (.slice a5 (M - totW (fs.take j) - 1) cap5)) := hB4.setCell (p := ⟨w.heap.size, 0, none⟩) (Nat.le_refl _) _
                  have HQ6 : RowKit.Hid (∀ wz, Below w.heap.size w wz → Seen .u8 wz a5 (M - totW (fs.take (j + 1))) cap5 (ys.drop (totW (fs.take (j + 1))))) := hid fun wz h => by
                    have h1 := hs5 wz (HQj.out wz h)
                    rw [List.drop_drop, Nat.sub_sub] at h1
                    rw [TS.out]
                    exact h1
                  clear hs5 hg4 hk4 ho4 hoe4 hB4 HQj
                  generalize w4.setCell ⟨w.heap.size, 0, none⟩ (.slice a5 (M - totW (fs.take j) - 1) cap5) = w5 at hg5 hk5 ho5 hoe5 hB5 ⊢
                  have cF : w5.cell? ⟨wb.heap.size, 6, none⟩ = some (.int .i64 ((dv (fs.take j) ys).2 6)) := blkT_cell hg5 rfl
                  have mF := blkT_mark hg5 6
                  generalize hV : wrap64 ((unbe ((ys.drop (totW (fs.take j))).take 1) : Nat) : Int) = V at DN ⊢
                  have hg6 := blkT_hit (o := 6) (v := .int .i64 V) hg5
                  rw [A7_set _ 6 (by decide), DN.out] at hg6
                  have hk6 := blkT_far (o := 6) (v := .int .i64 V) (show wb.heap.size ≠ w.heap.size by omega) hk5
                  rw [Nat.sub_sub, ← TS.out] at hk6
                  have ho6 := ho5.farT hg5 (by decide) 6 (.int .i64 V)
                  have hoe6 := hoe5.farT hg5 (by decide) 6 (.int .i64 V)
                  have hB6 : Below w.heap.size w (w5.setCell ⟨wb.heap.size, 6, none⟩ (.int .i64 V)) := hB5.setCell (p := ⟨wb.heap.size, 6, none⟩) (Nat.le_of_lt hzb) _
                  clear hg5 hk5 ho5 hoe5 hB5
                  go_wp2_with fail
                  go_roundw
                  case rel => exact ⟨j + 1, a5, cap5, by omega, by go_num, hg6, hk6, HQ6, ho6, hoe6, hB6⟩
                  case measure => simp [intOf]; omega
              · obtain rfl : j = fs.length := by omega
                rw [List.take_length] at hg hk HQj
                rw [TU] at hk HQj
                have p0 : wr.cell? ⟨wb.heap.size, 0, none⟩ = some (.int .i64 ((dv fs ys).2 0)) := blkT_cell hg rfl
                have p1 : wr.cell? ⟨wb.heap.size, 1, none⟩ = some (.int .i64 ((dv fs ys).2 1)) := blkT_cell hg rfl
                have p2 : wr.cell? ⟨wb.heap.size, 2, none⟩ = some (.int .i64 ((dv fs ys).2 2)) := blkT_cell hg rfl
                have p3 : wr.cell? ⟨wb.heap.size, 3, none⟩ = some (.int .i64 ((dv fs ys).2 3)) := blkT_cell hg rfl
                have p4 : wr.cell? ⟨wb.heap.size, 4, none⟩ = some (.int .i64 ((dv fs ys).2 4)) := blkT_cell hg rfl
                have p5 : wr.cell? ⟨wb.heap.size, 5, none⟩ = some (.int .i64 ((dv fs ys).2 5)) := blkT_cell hg rfl
                have p6 : wr.cell? ⟨wb.heap.size, 6, none⟩ = some (.int .i64 ((dv fs ys).2 6)) := blkT_cell hg rfl
                generalize (dv fs ys).2 = d at p0 p1 p2 p3 p4 p5 p6 DO
                rw [← DO.out] at hE2 hlx
                clear hg DO ho
                go_wp2_with fail
                refine (enOf (x : Int) (d 0) (d 1) (d 2) (d 3) (d 4) (d 5) (d 6) _).mono ?_
                rintro e w7 ⟨rfl, hb7⟩
                have hk7 := blkT_call hb7 hk
                have hoe7 := hoe.kept hb7 (Nat.le_refl _)
                have hB7 : Below w.heap.size w w7 := hB.trans (hb7.mono hB.size)
                have hz7 : w.heap.size < w7.heap.size := blkT_lt hk7
                clear hb7 hk hoe hB p0 p1 p2 p3 p4 p5 p6
                unfold enV
                go_wp2_with (at_builtin; refine wpAppendE rfl (.tmp 51) (.tmp 55) rfl _ (w.heap.size + 1) _ es rfl (hoe7.kept ((Below.refl _ _).alloc (Nat.le_refl _) _) (Nat.le_refl _)) ⟨(x : Int), d 0, d 1, d 2, d 3, d 4, d 5, d 6⟩ w7.heap.size 1 rfl (blkT_new rfl) (by omega) (by simp; omega) ?_; intro v' w8 hown hgrow)
                have hBq : Below (w.heap.size + 1) w7 w8 := ((Below.refl _ _).alloc (by omega) _).grown hgrow (by simp; omega) (by intro j hj; exact hoe7.block hj)
                have hk8 := blkT_below hBq (Nat.lt_succ_self _) hk7
                have hB8 : Below w.heap.size w w8 := hB7.trans (hBq.mono (by omega))
                have hMM : M - needN x = len - (q + 1 + needN x) := by omega
                have c8 : w8.cell? ⟨w.heap.size, 0, none⟩ = some (.slice aj (M - needN x) capj) := blkT_cell hk8 rfl
                rw [hMM] at hk8 c8 HQj
                rw [← HY.out, List.drop_drop] at HQj
                go_roundw
                case rel => exact ⟨q + 1 + needN x, _, aj, capj, by omega, hk8, HQj, hown, hlx, hE2, hB8⟩
                case measure => rw [c8, CGR.out]; show len - (q + 1 + needN x) < len - q; omega
      · have hE2 := hid (((DE.out es).out q) hE.out (.inr (by omega)))
        have hfI : ¬ ((es.length : Int) < 400) := by omega
        clear hfull
        go_wp2_with fail
        go_ret
        exact ⟨_, rfl, by rw [← hE2.out]; exact ho.down (by omega), hB⟩
    · have hE2 := hid (((DE.out es).out q) hE.out (.inl (by omega)))
      have hl0 : len - q = 0 := by omega
      rw [hl0] at cg hk
      go_wp2_with fail
      go_ret
      exact ⟨_, rfl, by rw [← hE2.out]; exact ho.down (by omega), hB⟩
end Go.Proofs.Ytpeeaapheohehaa
