/- Encodings whole, strings of bytes, and the walk of layer 32's own examples. -/
import Derived.Test.YtpeeaapheohehaaEnDec
import Derived.Test.YtpeeaapheohehaaEnRefEnc
import Derived.Laws.IdiomStrings
namespace Go.Proofs.Ytpeeaapheohehaa
open Go.RowKit
set_option linter.unusedVariables false
set_option linter.unusedSimpArgs false

def strOf (xs : List Nat) : ByteArray := ⟨(xs.map fun x => UInt8.ofNat x).toArray⟩
theorem strSeen {w : World} {a : Option Addr} {n cap : Nat} {xs : List Nat} (h : Seen .u8 w a n cap xs) (hf : Fit 256 xs) :
    (convert 33 9 (.slice a n cap)).run Try.prog w = .ok (.string (strOf xs)) w := by
  cases a with
  | none =>
    have hn : n = 0 := by
      rcases h.2.2.2 with ⟨h4, _⟩ | ⟨b, off, ha, _⟩
      · exact h4
      · cases ha
    have hx : xs = [] := List.length_eq_zero_iff.1 (by rw [h.1, hn])
    subst hx
    rw [run_convert_bytes_string w _ _ 5 none n cap Try.underlying33 Try.underlying5 Try.underlying9]
    rfl
  | some ad =>
    have hl : (xs.map fun x => UInt8.ofNat x).length = n := by rw [List.length_map, h.1]
    have hr := run_convert_bytes_back (P := Try.prog) w 33 9 5 ad cap (xs.map fun x => UInt8.ofNat x) Try.underlying33 Try.underlying5 Try.underlying9 (fun j hj => by
      have hj' : j < n := by omega
      have hjx : j < xs.length := by rw [h.1]; exact hj'
      rcases h.2.2.2 with ⟨h4, _⟩ | ⟨b, off, ha, hc⟩
      · omega
      · cases ha
        have hadd : (⟨b, off, none⟩ : Addr).add j = ⟨b, off + j, none⟩ := by unfold Addr.add; split <;> simp_all
        rw [hadd, hc j hj', List.getElem?_eq_getElem hjx]
        have h1 : xs[j] < 256 := hf _ (List.getElem_mem hjx)
        simp only [List.getElem_map, Option.getD_some]
        rw [show (UInt8.ofNat xs[j]).toNat = xs[j] by simp; omega])
    rw [hl] at hr
    exact hr

theorem EncPost.yes {w w' : World} {e : En} {en : Ending} (h : EncPost w e en w') (hb : encB e = true) : ∃ v, en = .returned (.tuple #[v, .bool true]) ∧ Own 5 .u8 w' w.heap.size v (bytesE e) ∧ Below w.heap.size w w' := by
  rcases h with ⟨_, h⟩ | ⟨h, _⟩
  · exact h
  · rw [hb] at h; cases h
theorem EncPost.no {w w' : World} {e : En} {en : Ending} (h : EncPost w e en w') (hb : encB e = false) : en = .returned (.tuple #[.slice none 0 0, .bool false]) ∧ Below w.heap.size w w' := by
  rcases h with ⟨h, _⟩ | ⟨_, h⟩
  · rw [hb] at h; cases h
  · exact h

theorem enEncode (e : En) (w : World) : Calls Try.prog 19 #[enV e] w (EncPost w e) := by
  obtain ⟨k, t, num, ok, oa, ob, n, m⟩ := e
  by_cases h : 1 ≤ k ∧ k ≤ 6
  · by_cases hb : bareB ⟨k, t, num, ok, oa, ob, n, m⟩ = true
    · exact enEncodeSome k t num ok oa ob n m w h hb
    · exact enEncodeBad k t num ok oa ob n m w h (by simpa using hb)
  · by_cases h0 : k = 0
    · subst h0
      by_cases hz : t = 0 ∧ num = 0 ∧ ok = 0 ∧ oa = 0 ∧ ob = 0 ∧ n = 0 ∧ m = 0
      · obtain ⟨rfl, rfl, rfl, rfl, rfl, rfl, rfl⟩ := hz
        exact enEncode0 w
      · exact enEncodeNone t num ok oa ob n m w hz
    · exact enEncodeFar k t num ok oa ob n m w h h0

theorem ref32Encode (e : En) (w : World) : Calls Try.prog 20 #[enV e] w (EncPost w e) := by
  obtain ⟨k, t, num, ok, oa, ob, n, m⟩ := e
  by_cases h : encB ⟨k, t, num, ok, oa, ob, n, m⟩ = true
  · have h' := h
    simp only [encB, bareB, goesB, Bool.and_eq_true, Bool.or_eq_true, decide_eq_true_eq, beq_iff_eq] at h'
    obtain ⟨⟨hk6, ⟨⟨⟨⟨ht, hnum⟩, hop⟩, hn⟩, hm⟩⟩, ⟨t0, t1⟩, ⟨num0, num1⟩, ⟨ok0, ok1⟩, ⟨n0, n1⟩, ⟨m0, m1⟩⟩ := h'
    clear h
    try simp only at *
    obtain ⟨t, rfl⟩ := Int.eq_ofNat_of_zero_le t0
    obtain ⟨num, rfl⟩ := Int.eq_ofNat_of_zero_le num0
    obtain ⟨ok, rfl⟩ := Int.eq_ofNat_of_zero_le ok0
    obtain ⟨n, rfl⟩ := Int.eq_ofNat_of_zero_le n0
    obtain ⟨m, rfl⟩ := Int.eq_ofNat_of_zero_le m0
    rcases kind6 k hk6 with rfl | rfl | rfl | rfl | rfl | rfl | rfl
    · obtain rfl : t = 0 := by simpa [useT] using ht
      obtain rfl : num = 0 := by simpa [useNum] using hnum
      obtain ⟨⟨rfl, rfl⟩, rfl⟩ : (ok = 0 ∧ oa = 0) ∧ ob = 0 := by simpa [useOp] using hop
      obtain rfl : n = 0 := by simpa [useN] using hn
      obtain rfl : m = 0 := by simpa [useM] using hm
      exact ref32enc0 w
    · obtain rfl : n = 0 := by simpa [useN] using hn
      obtain rfl : m = 0 := by simpa [useM] using hm
      exact ref32enc1 t num ok oa ob w (by omega) (by omega) (by omega)
    · obtain rfl : num = 0 := by simpa [useNum] using hnum
      obtain ⟨⟨rfl, rfl⟩, rfl⟩ : (ok = 0 ∧ oa = 0) ∧ ob = 0 := by simpa [useOp] using hop
      obtain rfl : m = 0 := by simpa [useM] using hm
      exact ref32enc2 t n w (by omega) (by omega)
    · obtain rfl : t = 0 := by simpa [useT] using ht
      obtain rfl : num = 0 := by simpa [useNum] using hnum
      obtain ⟨⟨rfl, rfl⟩, rfl⟩ : (ok = 0 ∧ oa = 0) ∧ ob = 0 := by simpa [useOp] using hop
      exact ref32enc3 n m w (by omega) (by omega)
    · obtain rfl : t = 0 := by simpa [useT] using ht
      obtain rfl : num = 0 := by simpa [useNum] using hnum
      obtain ⟨⟨rfl, rfl⟩, rfl⟩ : (ok = 0 ∧ oa = 0) ∧ ob = 0 := by simpa [useOp] using hop
      obtain rfl : n = 0 := by simpa [useN] using hn
      obtain rfl : m = 0 := by simpa [useM] using hm
      exact ref32enc4 w
    · obtain rfl : t = 0 := by simpa [useT] using ht
      obtain rfl : num = 0 := by simpa [useNum] using hnum
      obtain ⟨⟨rfl, rfl⟩, rfl⟩ : (ok = 0 ∧ oa = 0) ∧ ob = 0 := by simpa [useOp] using hop
      obtain rfl : m = 0 := by simpa [useM] using hm
      exact ref32enc5 n w (by omega)
    · obtain ⟨⟨rfl, rfl⟩, rfl⟩ : (ok = 0 ∧ oa = 0) ∧ ob = 0 := by simpa [useOp] using hop
      obtain rfl : n = 0 := by simpa [useN] using hn
      obtain rfl : m = 0 := by simpa [useM] using hm
      exact ref32enc6 t num w (by omega) (by omega)
  · exact ref32encNo k t num ok oa ob n m w (by simpa using h)

theorem bytesE_fit (e : En) (h : encB e = true) : Fit 256 (bytesE e) := by
  have hk : 0 ≤ e.k ∧ e.k ≤ 6 := by
    simp only [encB, Bool.and_eq_true, decide_eq_true_eq] at h
    exact h.1.1
  intro x hx
  unfold bytesE at hx
  rcases List.mem_cons.1 hx with rfl | hx
  · omega
  · simp only [List.mem_append] at hx
    rcases hx with hx | hx | hx | hx | hx
    · split at hx
      · exact be_fit _ _ x hx
      · cases hx
    · split at hx
      · exact be_fit _ _ x hx
      · cases hx
    · split at hx
      · simp only [List.mem_append] at hx
        rcases hx with hx | hx | hx
        · exact be_fit _ _ x hx
        · exact be_fit _ _ x hx
        · exact be_fit _ _ x hx
      · cases hx
    · split at hx
      · exact be_fit _ _ x hx
      · cases hx
    · split at hx
      · exact be_fit _ _ x hx
      · cases hx

set_option maxRecDepth 100000 in
set_option maxHeartbeats 3200000 in
theorem live32 (w : World) : Calls Try.prog 18 #[] w fun e w' => e = .returned (.bool true) ∧ Below w.heap.size w w' := by
  have hb : encB ⟨2, 1, 0, 0, 0, 0, 256, 0⟩ = true := by decide
  have EN := hidAll fun w' => hidAll fun en => hidAll fun w'' => fun (h : EncPost w' ⟨2, 1, 0, 0, 0, 0, 256, 0⟩ en w'') => (show ∃ v, en = .returned (.tuple #[v, .bool true]) ∧ Own 5 .u8 w'' w'.heap.size v [2, 1, 1, 0] ∧ Below w'.heap.size w' w'' from h.yes hb)
  have FT : Fit 256 [2, 1, 1, 0] := by intro x hx; simp at hx; omega
  have FD : Fit 256 [9, 4, 2, 1] := by intro x hx; simp at hx; omega
  have DD : decL 400 [9, 4, 2, 1] = [zeroE, ⟨4, 0, 0, 0, 0, 0, 0, 0⟩, zeroE] := by decide
  replace FT := hid FT; replace FD := hid FD; replace DD := hid DD
  clear hb
  go_enter Try.func18, Try.ntmps18
  go_wp2_with fail
  refine (enEncode ⟨2, 1, 0, 0, 0, 0, 256, 0⟩ _).mono ?_
  intro en w1 hp
  obtain ⟨v1, rfl, ho1, hb1⟩ := ((EN.out _).out _).out _ hp
  obtain ⟨a1, c1, hv⟩ := ho1.anyForm
  subst hv
  clear hp
  go_wp2_with fail
  refine (enDecode _ _ 4 4 [9, 4, 2, 1] (Seen.built .u8 w1 [9, 4, 2, 1] _ _ 4 rfl (by decide) rfl) FD.out).mono ?_
  rintro e w2 ⟨v2, rfl, ho2, hb2⟩
  rw [DD.out] at ho2
  obtain ⟨a2, c2, hv⟩ := ho2.form
  subst hv
  have ho1' := ho1.kept (Below.trans ((Below.refl _ _).alloc (Nat.le_refl _) _) (hb2.mono (by simp))) (Nat.le_refl _)
  have hB2 : Below w.heap.size w w2 := (hb1.alloc hb1.size _).trans (hb2.mono (by simp; have := hb1.size; omega))
  have S1 : (convert 33 9 (.slice a1 4 c1)).run Try.prog w2 = .ok (.string ⟨#[2, 1, 1, 0]⟩) w2 := strSeen ho1'.seen FT.out
  clear ho1 ho1' hb1 hb2
  go_wp2_with fail
  refine (refSame32 _ a2 _ 3 c2 3 3 [zeroE, ⟨4, 0, 0, 0, 0, 0, 0, 0⟩, zeroE] [zeroE, ⟨4, 0, 0, 0, 0, 0, 0, 0⟩, zeroE] (ho2.seen.below ((Below.refl _ _).alloc (Nat.le_refl _) _)) (OwnE.built w2 w2.heap.size [zeroE, ⟨4, 0, 0, 0, 0, 0, 0, 0⟩, zeroE] _ 3 (Nat.le_refl _) rfl (by decide) rfl).seen).mono ?_
  rw [decide_eq_true rfl]
  rintro e w3 ⟨rfl, n3, rfl⟩
  go_wp2_with fail
  go_ret
  exact ⟨rfl, belowDrewN (hB2.alloc hB2.size _) n3⟩
end Go.Proofs.Ytpeeaapheohehaa
