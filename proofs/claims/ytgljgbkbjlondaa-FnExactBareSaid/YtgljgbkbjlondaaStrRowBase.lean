/- Rows of strings: compared with themselves, marked by texts that count up, looked at. No conditions but the sizes. -/
import Derived.Test.YtgljgbkbjlondaaMarkAttrBase
import Derived.Test.YtgljgbkbjlondaaPb5
import Derived.Test.YtgljgbkbjlondaaPb8
set_option linter.unusedVariables false
set_option linter.unusedSimpArgs false
namespace Go.Proofs.Ytgljgbkbjlondaa.Mk
open Go.RowKit Go.Proofs.Ytgljgbkbjlondaa.P Go.Proofs.Ytgljgbkbjlondaa.Evs Go.Proofs.YtgljgbkbjlondaaW.PrintWords Go.Proofs.YtgljgbkbjlondaaW.PrintLast

theorem rdS (xs : List ByteArray) (j : Nat) (h : j < xs.length) : rdOf ByteArray.empty xs (j : Int) = xs[j] := rdT xs _ j h
theorem eqStringS_loop (xs : List ByteArray) (hlen : xs.length ≤ 1048576) : ∀ (d i : Nat), xs.length - i = d → i ≤ xs.length → Ev (fun k => laws_eqStringS.l0 k xs xs i) true := by
 intro d
 induction d with
 | zero =>
  intro i hd hi
  refine Ev.here fun k => ?_
  simp only [laws_eqStringS.l0]; rw [if_neg (by omega)]
 | succ d ih =>
  intro i hd hi
  have hw : wrap64 ((i : Int) + 1) = ((i + 1 : Nat) : Int) := succ64 (by omega)
  refine Ev.step (fun k => ?_) (ih (i + 1) (by omega) (by omega))
  simp only [laws_eqStringS.l0, hw]; rw [if_pos (by omega), if_pos (by omega), if_pos (by omega), if_pos True.intro]
theorem eqStringS_self (xs : List ByteArray) (hlen : xs.length ≤ 1048576) : Ev (fun k => laws_eqStringS.f k xs xs) true := by
 unfold laws_eqStringS.f
 exact Ev.ite_pos rfl (eqStringS_loop xs hlen xs.length 0 (by omega) (by omega))
noncomputable def mss (k0 n : Nat) : List ByteArray := (List.range n).map fun i : Nat => mt (k0 + i)
theorem mss_length (k0 n : Nat) : (mss k0 n).length = n := by simp [mss]
theorem mss_get (k0 n i : Nat) (h : i < (mss k0 n).length) : (mss k0 n)[i] = mt (k0 + i) := by simp [mss]
theorem markStringS_loop (l : List ByteArray) (k0 : Nat) (hl : l.length ≤ 1048576) (hk : k0 ≤ 1152921504600000000) : ∀ (d j : Nat), l.length - j = d → j ≤ l.length →
  Ev (fun k => laws_markStringS.l0 k (mss k0 j ++ l.drop j) ((k0 + j : Nat) : Int) j) (((k0 + l.length : Nat) : Int), mss k0 l.length) := by
 intro d
 induction d with
 | zero =>
  intro j hd hj
  obtain rfl : j = l.length := by omega
  rw [List.drop_length, List.append_nil]
  refine Ev.here fun k => ?_
  simp only [laws_markStringS.l0]
  rw [if_neg (by rw [mss_length]; omega)]
 | succ d ih =>
  intro j hd hj
  have hjl : j < l.length := by omega
  have hlen : (mss k0 j ++ l.drop j).length = l.length := by rw [List.length_append, mss_length, List.length_drop]; omega
  have w1 : wrap64 (((k0 + j : Nat) : Int) + 1) = ((k0 + (j + 1) : Nat) : Int) := succ64 (by omega)
  have w2 : wrap64 ((j : Int) + 1) = ((j + 1 : Nat) : Int) := succ64 (by omega)
  have t1 := mt_tells (k0 + j) (by omega)
  have hst : (mss k0 j ++ l.drop j).set j (mt (k0 + j)) = mss k0 (j + 1) ++ l.drop (j + 1) := by
   rw [List.set_append_right _ _ (by rw [mss_length]; exact Nat.le_refl _), mss_length, Nat.sub_self, List.drop_eq_getElem_cons hjl, List.set_cons_zero]
   simp [mss, List.range_succ]
  have h := ih (j + 1) (by omega) (by omega)
  rw [← hst] at h
  refine Ev.step (f := fun k => (laws_markText.f k ((k0 + j : Nat) : Int)).bind fun t => laws_markStringS.l0 k ((mss k0 j ++ l.drop j).set j t) ((k0 + (j + 1) : Nat) : Int) ((j + 1 : Nat) : Int)) (fun k => ?_) (Ev.bind t1 h)
  simp only [laws_markStringS.l0, w1, w2, Int.toNat_natCast]
  rw [if_pos (by rw [hlen]; omega)]
  have hz : (0 : Int) ≤ (j : Int) := Int.natCast_nonneg j
  simp only [if_pos hz]
theorem markStringS_tells (l : List ByteArray) (k0 : Nat) (hl : l.length ≤ 1048576) (hk : k0 ≤ 1152921504600000000) : Ev (fun k => laws_markStringS.f k l k0) (((k0 + l.length : Nat) : Int), mss k0 l.length) := by
 have h := markStringS_loop l k0 hl hk l.length 0 (by omega) (by omega)
 rw [List.drop_zero] at h
 exact h
theorem heldStringS_loop (k0 n : Nat) (hl : n ≤ 1048576) (hk : k0 ≤ 1152921504600000000) : ∀ (d j : Nat), n - j = d → j ≤ n → Ev (fun k => laws_heldStringS.l0 k (mss k0 n) ((k0 + j : Nat) : Int) j) ((k0 + n : Nat) : Int) := by
 intro d
 induction d with
 | zero =>
  intro j hd hj
  obtain rfl : j = n := by omega
  refine Ev.here fun k => ?_
  simp only [laws_heldStringS.l0]
  rw [if_neg (by rw [mss_length]; omega)]
 | succ d ih =>
  intro j hd hj
  have hjl : j < (mss k0 n).length := by rw [mss_length]; omega
  have w1 : wrap64 (((k0 + j : Nat) : Int) + 1) = ((k0 + (j + 1) : Nat) : Int) := succ64 (by omega)
  have w2 : wrap64 ((j : Int) + 1) = ((j + 1 : Nat) : Int) := succ64 (by omega)
  have hrd : rdOf ByteArray.empty (mss k0 n) (j : Int) = mt (k0 + j) := by rw [rdS _ j hjl, mss_get]
  refine Ev.step (f := fun k => (laws_markText.f k ((k0 + j : Nat) : Int)).bind fun t => if (mt (k0 + j)).toList = t.toList then laws_heldStringS.l0 k (mss k0 n) ((k0 + (j + 1) : Nat) : Int) ((j + 1 : Nat) : Int) else some (-1)) (fun k => ?_) (Ev.bind (mt_tells (k0 + j) (by omega)) (Ev.ite_pos rfl (ih (j + 1) (by omega) (by omega))))
  simp only [laws_heldStringS.l0, w1, w2, hrd]
  rw [if_pos (by omega), if_pos (Int.natCast_nonneg j)]
theorem heldStringS_tells (k0 n : Nat) (hl : n ≤ 1048576) (hk : k0 ≤ 1152921504600000000) : Ev (fun k => laws_heldStringS.f k (mss k0 n) k0) ((k0 + n : Nat) : Int) := heldStringS_loop k0 n hl hk n 0 (by omega) (by omega)
end Go.Proofs.Ytgljgbkbjlondaa.Mk
