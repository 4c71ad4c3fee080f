/- A text made strict is strict, one that is strict stays; a note, too. No conditions but the size. -/
import Derived.Test.YtfjheckgigppiaaDoorRoundClean
import Derived.Test.YtfjheckgigppiaaDoorCleanBase
import Derived.Test.YtfjheckgigppiaaDoorTextOfBase
import Derived.Test.YtfjheckgigppiaaDoorTextBase
import Derived.Test.YtfjheckgigppiaaDoorLoopBase
import Derived.Test.YtfjheckgigppiaaDoorPn10
import Derived.Test.YtfjheckgigppiaaDoorPn16
import Derived.Test.YtfjheckgigppiaaDoorPn3
set_option linter.unusedVariables false
set_option linter.unusedSimpArgs false
namespace Go.Proofs.YtfjheckgigppiaaDoor.Sg
open Go Go.RowKit Go.Proofs.YtfjheckgigppiaaDoor.P Go.Proofs.YtfjheckgigppiaaDoor.Evs Go.Proofs.YtfjheckgigppiaaDoorW.PrintWords Go.Proofs.YtfjheckgigppiaaDoorW.PrintLast

def isT (n : Int) : Prop := impl_IsText.f n = some true
theorem isT_ok {n : Int} (h : isT n) : okS n := by
 unfold isT impl_IsText.f at h
 rw [SignOk_tells] at h
 unfold okS
 by_cases c9 : n = 9
 ·omega
 rw [if_neg c9] at h
 by_cases c10 : n = 10
 ·omega
 rw [if_neg c10] at h
 by_cases c13 : n = 13
 ·omega
 rw [if_neg c13] at h
 simp only [Option.bind_some] at h
 by_cases c : (0 ≤ n ∧ n ≤ 1114111) ∧ ¬ (55296 ≤ n ∧ n ≤ 57343)
 ·exact c
 ·rw [if_neg (by rw [decide_eq_true_iff]; exact c)] at h
  exact absurd h (by simp)
theorem isT_not12 {n : Int} (h : isT n) : ¬ n = 12 := by
 intro e
 subst e
 exact absurd h (by unfold isT; decide)
/-- What TextOf makes of a sign. -/
def tx (n : Int) : Int := if n = 12 then 32 else if impl_IsText.f n = some true then n else 65533
theorem tx_isT (n : Int) : isT (tx n) := by
 unfold tx
 by_cases c : n = 12
 ·rw [if_pos c]; unfold isT; decide
 ·rw [if_neg c]
  by_cases q : impl_IsText.f n = some true
  ·rw [if_pos q]; exact q
  ·rw [if_neg q]; unfold isT; decide
theorem tx_id {n : Int} (h : isT n) : tx n = n := by
 unfold tx
 rw [if_neg (isT_not12 h), if_pos (show impl_IsText.f n = some true from h)]
theorem map_same (f : Int → Int) (l : List Int) (h : ∀ x ∈ l, f x = x) : l.map f = l := by
 have := List.map_congr_left (f := f) (g := id) (l := l) h
 rw [this, List.map_id]
theorem TextOf_list_loop (r : ByteArray) : ∀ (d j : Nat) (l : List Int), l.length ≤ 1048576 → l.length - j = d → j ≤ l.length →
  Ev (fun k => impl_SignText.f k (l.take j ++ (l.drop j).map tx)) r → Ev (fun k => impl_TextOf.l0 k l l.length j) r := by
 intro d
 induction d with
 | zero =>
  intro j l hl hd hj h
  rw [List.take_of_length_le (by omega), List.drop_eq_nil_of_le (by omega), List.map_nil, List.append_nil] at h
  exact Ev.step (fun k => by simp only [impl_TextOf.l0]; rw [if_neg (by omega)]) (Ev.bind h (Ev.now _))
 | succ d ih =>
  intro j l hl hd hj h
  have hjl : j < l.length := by omega
  have hw := succ64 (show j < 9223372036854775807 by omega)
  rw [List.drop_eq_getElem_cons hjl, List.map_cons] at h
  have hset : ∀ v : Int, tx l[j] = v → Ev (fun k => impl_TextOf.l0 k (l.set j v) l.length ((j + 1 : Nat) : Int)) r := fun v hv => by
   have g := ih (j + 1) (l.set j v) (by rw [List.length_set]; omega) (by rw [List.length_set]; omega) (by rw [List.length_set]; omega) (by
    rw [hv] at h
    have e1 : (l.set j v).take (j + 1) = l.take j ++ [v] := by
     rw [List.take_succ_eq_append_getElem (by rw [List.length_set]; exact hjl), List.take_set_of_le (Nat.le_refl _), List.getElem_set_self]
    have e2 : (l.set j v).drop (j + 1) = l.drop (j + 1) := List.drop_set_of_lt (Nat.lt_succ_self _)
    rw [e1, e2, List.append_assoc]
    exact h)
   rw [List.length_set] at g
   exact g
  have h2 : ∀ k, impl_TextOf.l0 (k + 1) l l.length j = if l[j] = 12 then impl_TextOf.l0 k (l.set j 32) l.length ((j + 1 : Nat) : Int) else (impl_IsText.f l[j]).bind fun t => if t = true then impl_TextOf.l0 k l l.length ((j + 1 : Nat) : Int) else impl_TextOf.l0 k (l.set j 65533) l.length ((j + 1 : Nat) : Int) := fun k => by
   simp only [impl_TextOf.l0]; rw [if_pos (by omega), if_pos (by omega), if_pos (by omega), rdI l j hjl, hw, Int.toNat_natCast]
  by_cases c : l[j] = 12
  ·exact Ev.step h2 (Ev.ite_pos c (hset 32 (by unfold tx; rw [if_pos c])))
  ·obtain ⟨q, hq⟩ := IsText_tells l[j]
   cases q with
   | true =>
    have hv : tx l[j] = l[j] := tx_id hq
    have g := hset l[j] hv
    rw [List.set_getElem_self] at g
    exact Ev.step h2 (Ev.ite_neg c (Ev.opt hq (Ev.ite_pos rfl g)))
   | false =>
    have hv : tx l[j] = 65533 := by unfold tx; rw [if_neg c, if_neg (by rw [hq]; simp)]
    exact Ev.step h2 (Ev.ite_neg c (Ev.opt hq (Ev.ite_neg Bool.false_ne_true (hset 65533 hv))))
theorem ByteArray_ext_list {a b : ByteArray} (h : a.toList = b.toList) : a = b := by
 rw [ByteArray.toList_eq, ByteArray.toList_eq] at h
 exact ByteArray.ext (Array.toList_inj.mp h)
theorem flat4 (l : List Int) : (l.flatMap pb).length ≤ 4 * l.length := by
 induction l with
 | nil => exact Nat.zero_le _
 | cons a t ih => rw [List.flatMap_cons, List.length_append, List.length_cons]; have := (pb_length a).2; omega
/-- What TextOf makes: the signs of a text. -/
theorem TextOf_list (s : ByteArray) (hs : s.size ≤ 1048576) : ∃ L : List Int, (∀ n ∈ L, isT n) ∧ L.length ≤ s.size ∧ Ev (fun k => impl_TextOf.f k s) (strOfNums (L.flatMap pb)) := by
 obtain ⟨l, _, e2, hl⟩ := Signs_same s hs
 have hL : ∀ n ∈ l.map tx, isT n := fun n hn => by
  obtain ⟨m, _, rfl⟩ := List.mem_map.mp hn
  exact tx_isT m
 refine ⟨l.map tx, hL, by rw [List.length_map]; exact hl, ?_⟩
 unfold impl_TextOf.f
 refine Ev.bind e2 (TextOf_list_loop _ l.length 0 l (by omega) (by omega) (by omega) ?_)
 rw [List.take_zero, List.drop_zero, List.nil_append]
 exact SignText_back _ (fun n hn => isT_ok (hL n hn)) (by rw [List.length_map]; omega)
theorem TextOk_list_loop (s : ByteArray) (L : List Int) (hL : ∀ n ∈ L, isT n) (hl : L.length ≤ 1048576) (hc : Ev (fun k => impl_CleanOk.f k s) true) : ∀ (d j : Nat), L.length - j = d → j ≤ L.length → Ev (fun k => impl_TextOk.l0 k s L L.length j) true := by
 intro d
 induction d with
 | zero =>
  intro j hd hj
  exact Ev.step (fun k => by simp only [impl_TextOk.l0]; rw [if_neg (by omega)]) (Ev.bind hc (Ev.now _))
 | succ d ih =>
  intro j hd hj
  have hjl : j < L.length := by omega
  refine Ev.step (fun k => by simp only [impl_TextOk.l0, succ64 (show j < 9223372036854775807 by omega)]; rw [if_pos (by omega), if_pos (by omega), if_pos (by omega), rdI L j hjl]) (Ev.opt (hL _ (List.getElem_mem hjl)) (Ev.ite_pos rfl (ih (j + 1) (by omega) (by omega))))
/-- A text of such signs is strict. -/
theorem TextOk_list (L : List Int) (hL : ∀ n ∈ L, isT n) (hsz : (L.flatMap pb).length ≤ 1048576) : Ev (fun k => impl_TextOk.f k (strOfNums (L.flatMap pb))) true := by
 have ho : ∀ n ∈ L, okS n := fun n hn => isT_ok (hL n hn)
 unfold impl_TextOk.f
 exact Ev.bind (Signs_back L ho hsz) (TextOk_list_loop _ L hL (Nat.le_trans (flat_le L) hsz) (CleanOk_back L ho hsz) L.length 0 (by omega) (by omega))
theorem TextOk_signs_loop (s : ByteArray) (L : List Int) (hs : s.size ≤ 1048576) (hl : L.length ≤ 1048576) : ∀ (d j : Nat), L.length - j = d → j ≤ L.length → Ev (fun k => impl_TextOk.l0 k s L L.length j) true → (∀ i, j ≤ i → ∀ h : i < L.length, isT L[i]) ∧ Ev (fun k => impl_CleanOk.f k s) true := by
 intro d
 induction d with
 | zero =>
  intro j hd hj he
  obtain ⟨b, _, hb⟩ := CleanOk_same s hs
  have : Ev (fun k => impl_TextOk.l0 k s L L.length j) b := Ev.step (fun k => by simp only [impl_TextOk.l0]; rw [if_neg (by omega)]) (Ev.bind hb (Ev.now _))
  have e := Ev.uniq this he
  subst e
  exact ⟨fun i h1 h2 => by omega, hb⟩
 | succ d ih =>
  intro j hd hj he
  have hjl : j < L.length := by omega
  obtain ⟨q, hq⟩ := IsText_tells L[j]
  have st : ∀ r, Ev (fun k => if q = true then impl_TextOk.l0 k s L L.length ((j + 1 : Nat) : Int) else some false) r → Ev (fun k => impl_TextOk.l0 k s L L.length j) r := fun r hr =>
   Ev.step (fun k => by simp only [impl_TextOk.l0, succ64 (show j < 9223372036854775807 by omega)]; rw [if_pos (by omega), if_pos (by omega), if_pos (by omega), rdI L j hjl]) (Ev.opt hq hr)
  cases q with
  | false => exact absurd (Ev.uniq he (st false (Ev.ite_neg Bool.false_ne_true (Ev.now _)))) (by decide)
  | true =>
   have nx : Ev (fun k => impl_TextOk.l0 k s L L.length ((j + 1 : Nat) : Int)) true := by
    obtain ⟨K, hK⟩ := he
    refine ⟨K, fun k hk => ?_⟩
    have h1 := hK (k + 1) (by omega)
    simp only [impl_TextOk.l0, succ64 (show j < 9223372036854775807 by omega)] at h1
    rw [if_pos (by omega), if_pos (by omega), if_pos (by omega), rdI L j hjl, hq] at h1
    exact h1
   obtain ⟨g1, g2⟩ := ih (j + 1) (by omega) (by omega) nx
   refine ⟨fun i h1 h2 => ?_, g2⟩
   rcases Nat.lt_or_ge j i with q | q
   ·exact g1 i q h2
   ·obtain rfl : i = j := by omega
    exact hq
/-- A strict text: its signs, and it is their text. -/
theorem TextOk_signs (s : ByteArray) (hs : s.size ≤ 1048576) (h : Ev (fun k => impl_TextOk.f k s) true) : ∃ L : List Int, (∀ n ∈ L, isT n) ∧ L.length ≤ s.size ∧ Ev (fun k => impl_Signs.f k s) L ∧ s = strOfNums (L.flatMap pb) := by
 obtain ⟨L, _, e2, hl⟩ := Signs_same s hs
 have he : Ev (fun k => impl_TextOk.l0 k s L L.length ((0 : Nat) : Int)) true := by
  obtain ⟨K1, k1⟩ := h
  obtain ⟨K2, k2⟩ := e2
  refine ⟨K1 + K2, fun k hk => ?_⟩
  have a := k1 k (by omega)
  simp only [impl_TextOk.f] at a
  rw [show impl_Signs.f k s = some L from k2 k (by omega)] at a
  exact a
 obtain ⟨g1, g2⟩ := TextOk_signs_loop s L hs (by omega) L.length 0 (by omega) (by omega) he
 have hL : ∀ n ∈ L, isT n := fun n hn => by
  obtain ⟨i, hi, rfl⟩ := List.getElem_of_mem hn
  exact g1 i (Nat.zero_le _) hi
 have hst := SignText_back L (fun n hn => isT_ok (hL n hn)) (by omega)
 have hc2 : Ev (fun k => impl_CleanOk.f k s) ((strOfNums (L.flatMap pb)).toList == s.toList) := by
  unfold impl_CleanOk.f impl_Clean.f
  exact Ev.bind (Ev.bind e2 (Ev.bind hst (Ev.now _))) (Ev.now _)
 have heq : (strOfNums (L.flatMap pb)).toList = s.toList := by simpa using (Ev.uniq g2 hc2).symm
 exact ⟨L, hL, hl, e2, (ByteArray_ext_list heq).symm⟩
/-- A STRICT TEXT STAYS. -/
theorem TextOf_stays (s : ByteArray) (hs : s.size ≤ 1048576) (h : Ev (fun k => impl_TextOk.f k s) true) : Ev (fun k => impl_TextOf.f k s) s := by
 obtain ⟨L, hL, hl, e, hsL⟩ := TextOk_signs s hs h
 unfold impl_TextOf.f
 refine Ev.bind e (TextOf_list_loop _ L.length 0 L (by omega) (by omega) (by omega) ?_)
 rw [List.take_zero, List.drop_zero, List.nil_append, map_same tx L (fun n hn => tx_id (hL n hn))]
 have g := SignText_back L (fun n hn => isT_ok (hL n hn)) (by omega)
 rw [← hsL] at g
 exact g
/-- A TEXT MADE STRICT IS STRICT. -/
theorem TextOf_strict (s : ByteArray) (hs : s.size ≤ 200000) : ∃ t : ByteArray, Ev (fun k => impl_TextOf.f k s) t ∧ Ev (fun k => impl_TextOk.f k t) true ∧ t.size ≤ 4 * s.size := by
 obtain ⟨L, hL, hl, e⟩ := TextOf_list s (by omega)
 have h4 := flat4 L
 exact ⟨_, e, TextOk_list L hL (by omega), by rw [strOfNums_size]; omega⟩
end Go.Proofs.YtfjheckgigppiaaDoor.Sg
