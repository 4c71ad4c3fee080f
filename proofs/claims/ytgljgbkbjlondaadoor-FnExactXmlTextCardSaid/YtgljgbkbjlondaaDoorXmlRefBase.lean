/- A reference of a strict text: the program's XmlRef (by strings.CutPrefix, IndexByte, strconv.Atoi, Itoa) and the reference's tell the same. No conditions but the size. -/
import Derived.Test.YtgljgbkbjlondaaDoorIsTextBase
import Derived.Test.YtgljgbkbjlondaaDoorStandOnly
import Derived.Test.YtgljgbkbjlondaaDoorDigitBase
import Derived.Lib.IndexLaws
import Derived.Lib.AtoiBound
import Derived.Test.YtgljgbkbjlondaaDoorPt1
import Derived.Test.YtgljgbkbjlondaaDoorPt13
import Derived.Test.YtgljgbkbjlondaaDoorPt14
import Derived.Test.YtgljgbkbjlondaaDoorPt2
import Derived.Test.YtgljgbkbjlondaaDoorPt6
import Derived.Test.YtgljgbkbjlondaaDoorPt7
set_option linter.unusedVariables false
set_option linter.unusedSimpArgs false
namespace Go.Proofs.YtgljgbkbjlondaaDoor.Sg
open Go Go.RowKit Go.Proofs.YtgljgbkbjlondaaDoor.P Go.Proofs.YtgljgbkbjlondaaDoor.Evs Go.Proofs.YtgljgbkbjlondaaDoor.Dg Go.Proofs.YtgljgbkbjlondaaDoorW.PrintWords Go.Proofs.YtgljgbkbjlondaaDoorW.PrintLast

theorem Ev.un_pos {α : Type} {c : Prop} [Decidable c] {f g : Nat → Option α} {r : α} (hc : c) (h : Ev (fun k => if c then f k else g k) r) : Ev f r := by
  obtain ⟨K, hK⟩ := h
  exact ⟨K, fun k hk => (if_pos hc).symm.trans (hK k hk)⟩
theorem Ev.un_neg {α : Type} {c : Prop} [Decidable c] {f g : Nat → Option α} {r : α} (hc : ¬ c) (h : Ev (fun k => if c then f k else g k) r) : Ev g r := by
  obtain ⟨K, hK⟩ := h
  exact ⟨K, fun k hk => (if_neg hc).symm.trans (hK k hk)⟩
/-- Whether a text stands at a place. -/
def stB (s : ByteArray) (j : Nat) (t : ByteArray) : Bool := decide (j + t.size ≤ s.size) && ((s.extract j (j + t.size)).toList == t.toList)
theorem rest_list (s : ByteArray) (j : Nat) : (s.extract j s.size).data.toList = s.data.toList.drop j := by
  have h : s.data.toList.length = s.size := rfl
  rw [Lib.extract_data, List.take_of_length_le (by rw [List.length_drop]; omega)]
theorem hasPrefix_st (s t : ByteArray) (j : Nat) (hj : j ≤ s.size) : Lib.hasPrefix (s.extract j s.size).data.toList t.data.toList = stB s j t := by
  have hs : s.data.toList.length = s.size := rfl
  have ht : t.data.toList.length = t.size := rfl
  rw [rest_list, ← Lib.hasPrefix_of_take]
  unfold stB
  rw [Lib.extract_toList, Lib.toList_data, ht, show j + t.size - j = t.size by omega, List.length_drop, hs]
  congr 1
  rw [decide_eq_decide]
  omega
/-! ### digits -/
theorem Digit_yes (b : Nat) (h : 48 ≤ b ∧ b ≤ 57) : Ev (fun k => spec_l3Digit.f k (b : Int) false) ((b : Int) - 48) := Ev.here fun k => by
  unfold spec_l3Digit.f
  rw [if_pos (by omega), decide_eq_true (by omega)]
  simp only [spec_l3Digit.j0]
  rw [if_pos True.intro, w64 (i := (b : Int)) (by omega) (by omega), w64 (by omega) (by omega)]
theorem Digit_no (b : Nat) (h : ¬ (48 ≤ b ∧ b ≤ 57)) : Ev (fun k => spec_l3Digit.f k (b : Int) false) (-1) := by
  have J1 : Ev (fun k => spec_l3Digit.j1 k (b : Int) false false) (-1) := Ev.here fun k => by simp only [spec_l3Digit.j1]; rw [if_neg (by decide), if_neg (by decide)]
  have J0 : Ev (fun k => spec_l3Digit.j0 k (b : Int) false false) (-1) := Ev.step (fun k => by simp only [spec_l3Digit.j0]; rw [if_neg (by decide), if_neg (by decide)]) J1
  unfold spec_l3Digit.f
  by_cases c : (b : Int) ≥ 48
  · rw [decide_eq_false (by omega)]
    exact Ev.ite_pos c J0
  · exact Ev.ite_neg c J0
noncomputable def isT (n : Int) : Bool := Classical.choose (IsText_tells n)
theorem isT_impl (n : Int) : impl_IsText.f n = some (isT n) := Classical.choose_spec (IsText_tells n)
theorem isT_spec (n : Int) : spec_IsText.f n = some (isT n) := (IsText_same n).trans (isT_impl n)
theorem isT_neg (n : Int) (h : n < 0) : isT n = false := by
  have e := isT_impl n
  unfold impl_IsText.f at e
  rw [SignOk_tells, if_neg (by omega), if_neg (by omega), if_neg (by omega), decide_eq_false (by omega)] at e
  exact (Option.some.inj e).symm
/-- What the reference tells behind the digits: q of them, the number n. -/
noncomputable def numFin (j : Nat) (L : List UInt8) (q : Nat) (n : Int) : Int × Int := if q = 0 then (0, -1) else if (L.getD 0 0).toNat = 48 then (0, -1) else if q < L.length ∧ (L.getD q 0).toNat = 59 then (if isT n = true then (n, ((j + 2 + q : Nat) : Int)) else (0, -1)) else (0, -1)
theorem bt_rest (s : ByteArray) (j i : Nat) (L : List UInt8) (hL : L = s.data.toList.drop (j + 2)) (h : i < L.length) : bt s ((j + 2 + i : Nat) : Int) = ((L.getD i 0).toNat : Int) := by
  subst hL
  rw [List.length_drop] at h
  rw [bt_list s (j + 2 + i) (by omega), List.getD_eq_getElem?_getD, List.getElem?_drop, List.getElem?_eq_getElem (by omega)]
  rfl
theorem tail_in (s : ByteArray) (j : Nat) (L : List UInt8) (hL : L = s.data.toList.drop (j + 2)) (q : Nat) (hq : q < L.length) (n : Int) :
    (if ((j + 2 + q : Nat) : Int) = ((j + 2 : Nat) : Int) then some ((0 : Int), (-1 : Int)) else (if (0 : Int) ≤ ((j + 2 : Nat) : Int) then (if ((j + 2 : Nat) : Int) < (s.size : Int) then (if bt s ((j + 2 : Nat) : Int) = 48 then some (0, -1) else (if ((j + 2 + q : Nat) : Int) ≥ (s.size : Int) then some (0, -1) else (if bt s ((j + 2 + q : Nat) : Int) = 59 then ((spec_IsText.f n).bind fun t => (if t = true then some (n, ((j + 2 + q : Nat) : Int)) else some (0, -1))) else some (0, -1)))) else none) else none)) = some (numFin j L q n) := by
  have hs : s.data.toList.length = s.size := rfl
  have hl : L.length = s.size - (j + 2) := by rw [hL, List.length_drop, hs]
  have h0 := bt_rest s j 0 L hL (by omega)
  have h1 := bt_rest s j q L hL hq
  rw [Nat.add_zero] at h0
  unfold numFin
  by_cases c0 : q = 0
  · rw [if_pos c0, if_pos (by omega)]
  rw [if_neg c0, if_neg (by omega), if_pos (by omega), if_pos (by omega), h0, h1]
  by_cases c1 : (L.getD 0 0).toNat = 48
  · rw [if_pos c1, if_pos (by omega)]
  rw [if_neg c1, if_neg (by omega), if_neg (by omega)]
  by_cases c2 : (L.getD q 0).toNat = 59
  · rw [if_pos (show ((L.getD q 0).toNat : Int) = 59 by omega), if_pos (And.intro hq c2), isT_spec, Option.bind_some]
    cases isT n <;> rfl
  · rw [if_neg (show ¬ ((L.getD q 0).toNat : Int) = 59 by omega), if_neg (fun h : q < L.length ∧ (L.getD q 0).toNat = 59 => c2 h.2)]
theorem Number_loop (s : ByteArray) (j : Nat) (hs : s.size ≤ 1048576) (hj : j < s.size) (L : List UInt8) (hL : L = s.data.toList.drop (j + 2)) : ∀ (d p : Nat), 7 - p = d → p ≤ 7 → p ≤ L.length → (∀ i, i < p → dig (L.getD i 0)) →
    ∃ q, q ≤ 7 ∧ q ≤ L.length ∧ (∀ i, i < q → dig (L.getD i 0)) ∧ (q = 7 ∨ q = L.length ∨ ¬ dig (L.getD q 0)) ∧ Ev (fun k => spec_l18Number.l0 k s j ((numOf 0 (L.take p) : Nat) : Int) ((j + 2 + p : Nat) : Int)) (numFin j L q ((numOf 0 (L.take q) : Nat) : Int)) := by
  have hs0 : s.data.toList.length = s.size := rfl
  have hl : L.length = s.size - (j + 2) := by rw [hL, List.length_drop, hs0]
  have hw2 : wrap64 ((j : Int) + 2) = ((j + 2 : Nat) : Int) := by rw [w64 (by omega) (by omega)]; rfl
  have hw9 : wrap64 ((j : Int) + 9) = ((j + 9 : Nat) : Int) := by rw [w64 (by omega) (by omega)]; rfl
  -- behind the end of the text
  have out : ∀ q, q = L.length → q ≤ 7 → ∀ n : Int, Ev (fun k => spec_l18Number.l0 k s j n ((j + 2 + q : Nat) : Int)) (numFin j L q n) := fun q hq hq7 n => Ev.here fun k => by
    simp only [spec_l18Number.l0, hw2]
    rw [if_neg (by omega)]
    unfold numFin
    by_cases c0 : q = 0
    · rw [if_pos c0, if_pos (by omega)]
    have h0 := bt_rest s j 0 L hL (by omega)
    rw [Nat.add_zero] at h0
    rw [if_neg c0, if_neg (by omega), if_pos (by omega), if_pos (by omega), h0]
    by_cases c1 : (L.getD 0 0).toNat = 48
    · rw [if_pos c1, if_pos (by omega)]
    · rw [if_neg c1, if_neg (by omega), if_pos (by omega), if_neg (by omega)]
  intro d
  induction d with
  | zero =>
    intro p hd hp hpl hall
    obtain rfl : p = 7 := by omega
    refine ⟨7, hp, hpl, hall, Or.inl rfl, ?_⟩
    by_cases c : 7 < L.length
    · refine Ev.here fun k => ?_
      have h := tail_in s j L hL 7 c ((numOf 0 (L.take 7) : Nat) : Int)
      simp only [spec_l18Number.l0, hw2, hw9]
      have z : (0 : Int) ≤ ((j + 2 + 7 : Nat) : Int) := Int.natCast_nonneg _
      rw [if_pos (by omega), if_neg (by omega), if_pos z]
      exact h
    · exact out 7 (by omega) (by omega) _
  | succ d ih =>
    intro p hd hp hpl hall
    by_cases c : p < L.length
    case neg => exact ⟨p, hp, hpl, hall, Or.inr (Or.inl (by omega)), out p (by omega) hp _⟩
    have hb := bt_rest s j p L hL c
    have A1 : ((j + 2 + p : Nat) : Int) < (s.size : Int) := by omega
    have A2 : ((j + 2 + p : Nat) : Int) < ((j + 9 : Nat) : Int) := by omega
    have A3 : (0 : Int) ≤ ((j + 2 + p : Nat) : Int) := Int.natCast_nonneg _
    by_cases c1 : dig (L.getD p 0)
    · obtain ⟨q, h1, h2, h3, h4, h5⟩ := ih (p + 1) (by omega) (by omega) (by omega) (fun i hi => by
        rcases Nat.lt_or_ge i p with h | h
        · exact hall i h
        · obtain rfl : i = p := by omega
          exact c1)
      refine ⟨q, h1, h2, h3, h4, ?_⟩
      have hv : numOf 0 (L.take (p + 1)) = numOf 0 (L.take p) * 10 + ((L.getD p 0).toNat - 48) := by
        rw [List.take_succ_eq_append_getElem c, numOf_append, List.getD_eq_getElem?_getD, List.getElem?_eq_getElem c]
        rw [numOf_cons, numOf_nil]
        rfl
      have hlt : numOf 0 (L.take p) < 10000000 := by
        have h6 := Lib.decFrom_lt (L.take p) 0 _ (decFrom_numOf (L.take p) 0 (fun b hb => by
          obtain ⟨i, hi, e⟩ := List.mem_iff_getElem.mp hb
          rw [List.length_take] at hi
          rw [List.getElem_take] at e
          have := hall i (by omega)
          rw [List.getD_eq_getElem?_getD, List.getElem?_eq_getElem (by omega)] at this
          rw [← e]; exact this))
        have h7 := Nat.pow_le_pow_right (n := 10) (by decide) (show (L.take p).length ≤ 7 by rw [List.length_take]; omega)
        have e7 : (10 : Nat) ^ 7 = 10000000 := by decide
        omega
      have c2 := c1
      unfold dig at c2
      have hdg := Digit_yes (L.getD p 0).toNat c2
      generalize L.getD p 0 = b at hb hv hdg c2
      generalize numOf 0 (L.take p) = v at hv hlt
      have hw1 : wrap64 (((j + 2 + p : Nat) : Int) + 1) = ((j + 2 + (p + 1) : Nat) : Int) := by rw [w64 (by omega) (by omega)]; rfl
      have hwn : wrap64 ((wrap64 ((wrap64 (10 * (v : Int))) + (wrap64 (b.toNat : Int)))) - 48) = ((numOf 0 (L.take (p + 1)) : Nat) : Int) := by
        rw [hv, w64 (i := 10 * (v : Int)) (by omega) (by omega), w64 (i := (b.toNat : Int)) (by omega) (by omega), w64 (i := 10 * (v : Int) + (b.toNat : Int)) (by omega) (by omega), w64 (by omega) (by omega)]
        omega
      refine Ev.step (f := fun k => (spec_l3Digit.f k (b.toNat : Int) false).bind fun t => if t ≥ 0 then spec_l18Number.l0 k s j ((numOf 0 (L.take (p + 1)) : Nat) : Int) ((j + 2 + (p + 1) : Nat) : Int) else (if ((j + 2 + p : Nat) : Int) = ((j + 2 : Nat) : Int) then some ((0 : Int), (-1 : Int)) else (if (0 : Int) ≤ ((j + 2 : Nat) : Int) then (if ((j + 2 : Nat) : Int) < (s.size : Int) then (if bt s ((j + 2 : Nat) : Int) = 48 then some (0, -1) else (if ((j + 2 + p : Nat) : Int) ≥ (s.size : Int) then some (0, -1) else (if (b.toNat : Int) = 59 then ((spec_IsText.f (v : Int)).bind fun t => (if t = true then some ((v : Int), ((j + 2 + p : Nat) : Int)) else some (0, -1))) else some (0, -1)))) else none) else none))) (fun k => ?_) (Ev.bind hdg (Ev.ite_pos (by omega) h5))
      simp only [spec_l18Number.l0, hw2, hw9, hb, hw1, hwn]
      rw [if_pos A1, if_pos A2, if_pos A3]
    · refine ⟨p, hp, hpl, hall, Or.inr (Or.inr c1), ?_⟩
      have h := tail_in s j L hL p c ((numOf 0 (L.take p) : Nat) : Int)
      have hdg := Digit_no (L.getD p 0).toNat c1
      rw [hb] at h
      refine Ev.step (f := fun k => (spec_l3Digit.f k ((L.getD p 0).toNat : Int) false).bind fun t => if t ≥ 0 then spec_l18Number.l0 k s j (wrap64 ((wrap64 ((wrap64 (10 * ((numOf 0 (L.take p) : Nat) : Int))) + (wrap64 ((L.getD p 0).toNat : Int)))) - 48)) (wrap64 (((j + 2 + p : Nat) : Int) + 1)) else some (numFin j L p ((numOf 0 (L.take p) : Nat) : Int))) (fun k => ?_) (Ev.bind hdg (Ev.ite_neg (by decide) (Ev.now _)))
      rw [← h]
      simp only [spec_l18Number.l0, hw2, hw9, hb]
      rw [if_pos A1, if_pos A2, if_pos A3]
theorem Number_tells (s : ByteArray) (j : Nat) (hs : s.size ≤ 1048576) (hj : j < s.size) (L : List UInt8) (hL : L = s.data.toList.drop (j + 2)) :
    ∃ q, q ≤ 7 ∧ q ≤ L.length ∧ (∀ i, i < q → dig (L.getD i 0)) ∧ (q = 7 ∨ q = L.length ∨ ¬ dig (L.getD q 0)) ∧ Ev (fun k => spec_l18Number.f k s j) (numFin j L q ((numOf 0 (L.take q) : Nat) : Int)) := by
  have h := Number_loop s j hs hj L hL 7 0 (by omega) (by omega) (by omega) (fun i hi => absurd hi (by omega))
  have hw2 : wrap64 ((j : Int) + 2) = ((j + 2 : Nat) : Int) := by rw [w64 (by omega) (by omega)]; rfl
  unfold spec_l18Number.f
  rw [hw2]
  exact h
/-! ### the program's side -/
def NoRef : ByteArray × Int := ((⟨#[]⟩ : ByteArray), (-1 : Int))
/-- Behind '&#': o bytes up to the first byte 59 spell n, as Itoa would, and n is a sign of a text. -/
def Good (L : List UInt8) (o : Nat) (n : Int) : Prop := (1 ≤ o ∧ o ≤ 7) ∧ L[o]? = some 59 ∧ (∀ k, k < o → L[k]? ≠ some 59) ∧ Lib.atoi (L.take o) = some n ∧ Lib.itoa n = L.take o ∧ n ≠ 0 ∧ isT n = true
theorem ba_list (l : List UInt8) : (⟨l.toArray⟩ : ByteArray).toList = l := by rw [Lib.toList_data]
theorem Impl_tail (j : Nat) (hj : j ≤ 1048576) (d : ByteArray) (hsz : d.size ≤ 1048576) (L : List UInt8) (hd : d.data.toList = L) (T : Nat → Option (ByteArray × Int))
    (hT : T = fun k => (impl_inRange.f (Lib.indexByte d.data.toList (59 : Int).toNat.toUInt8) 1 7).bind fun b => if b = true then impl_XmlRef.g k j d (Lib.indexByte d.data.toList (59 : Int).toNat.toUInt8) else some ((⟨#[]⟩ : ByteArray), (-1 : Int))) :
    (Ev T NoRef ∧ ¬ ∃ o n, Good L o n) ∨ (∃ o n, Good L o n ∧ ∀ t, Ev (fun k => impl_PutSign.f k n) t → Ev T (t, ((j + 2 + o + 1 : Nat) : Int))) := by
  have hlen : L.length = d.size := by rw [← hd]; rfl
  have e59 : (59 : Int).toNat.toUInt8 = 59 := by decide
  rw [e59, hd] at hT
  have hge := Lib.indexByte_ge L 59
  have first : ∀ o n, Good L o n → Lib.indexByte L 59 = (o : Int) := fun o n hg => by
    obtain ⟨_, h2, h3, _⟩ := hg
    rcases Int.lt_or_le (Lib.indexByte L 59) 0 with h | h
    · exact absurd h2 (Lib.indexByte_none (show Lib.indexByte L 59 = -1 by omega) o)
    · obtain ⟨i, hi⟩ := Int.eq_ofNat_of_zero_le h
      obtain ⟨q1, q2⟩ := Lib.indexByte_some hi
      rw [hi]
      rcases Nat.lt_trichotomy i o with h5 | h5 | h5
      · exact absurd q1 (h3 i h5)
      · rw [h5]
      · exact absurd h2 (q2 o h5)
  rw [inRange_eq] at hT
  by_cases c : 1 ≤ Lib.indexByte L 59 ∧ Lib.indexByte L 59 ≤ 7
  case neg =>
    refine Or.inl ⟨?_, ?_⟩
    · subst hT
      exact Ev.opt rfl (Ev.ite_neg (by rw [decide_eq_true_iff]; exact c) (Ev.now _))
    · rintro ⟨o, n, hg⟩
      have := first o n hg
      have := hg.1
      exact c (by omega)
  obtain ⟨o, ho⟩ := Int.eq_ofNat_of_zero_le (show 0 ≤ Lib.indexByte L 59 by omega)
  obtain ⟨q1, q2⟩ := Lib.indexByte_some ho
  have uniq : ∀ o' n, Good L o' n → o' = o := fun o' n hg => by
    have := first o' n hg
    omega
  rw [ho] at hT c
  have hol : o < L.length := (List.getElem?_eq_some_iff.mp q1).1
  have hex : (d.extract 0 o).data.toList = L.take o := by rw [Lib.extract_data, List.drop_zero, Nat.sub_zero, hd]
  have hex2 : (d.extract 0 o).toList = L.take o := by rw [Lib.toList_data]; exact hex
  have hes : (d.extract 0 o).size ≤ 18 := by
    have : (d.extract 0 o).size = (L.take o).length := by rw [← hex]; rfl
    rw [this, List.length_take]
    omega
  have hw : wrap64 (wrap64 (wrap64 ((j : Int) + 2) + (o : Int)) + 1) = ((j + 2 + o + 1 : Nat) : Int) := by
    rw [w64 (i := (j : Int) + 2) (by omega) (by omega), w64 (i := (j : Int) + 2 + (o : Int)) (by omega) (by omega), w64 (by omega) (by omega)]
    omega
  have hT2 : ∀ r, Ev (fun k => match Lib.atoi (L.take o) with
      | none => some ((⟨#[]⟩ : ByteArray), (-1 : Int))
      | some n => if -9223372036854775808 ≤ n then (if n ≤ 9223372036854775807 then (if (⟨(Lib.itoa n).toArray⟩ : ByteArray).toList = L.take o then (if n = 0 then some ((⟨#[]⟩ : ByteArray), (-1 : Int)) else (impl_IsText.f n).bind fun q => if q = true then (impl_PutSign.f k n).bind fun r => some (r, ((j + 2 + o + 1 : Nat) : Int)) else some ((⟨#[]⟩ : ByteArray), (-1 : Int))) else some ((⟨#[]⟩ : ByteArray), (-1 : Int))) else none) else none) r → Ev T r := fun r hr => by
    subst hT
    refine Ev.opt rfl (Ev.ite_pos (decide_eq_true c) ?_)
    unfold impl_XmlRef.g
    simp only [Int.toNat_natCast, hex, hex2, hw]
    refine Ev.ite_pos (by omega) (Ev.ite_pos (Int.natCast_nonneg o) (Ev.ite_pos hes hr))
  clear hT
  cases ha : Lib.atoi (L.take o) with
  | none =>
    refine Or.inl ⟨hT2 _ (by rw [ha]; exact Ev.now _), ?_⟩
    rintro ⟨o', n, hg⟩
    obtain rfl := uniq o' n hg
    have := hg.2.2.2.1
    rw [ha] at this
    cases this
  | some n =>
    have hbd := Lib.atoi_bound ha (by rw [List.length_take]; omega)
    rw [ha] at hT2
    have hgn : ∀ o' n', Good L o' n' → n' = n := fun o' n' hg => by
      obtain rfl := uniq o' n' hg
      have := hg.2.2.2.1
      rw [ha] at this
      exact (Option.some.inj this).symm
    have b1 : -9223372036854775808 ≤ n := by omega
    have b2 : n ≤ 9223372036854775807 := by omega
    by_cases c1 : Lib.itoa n = L.take o
    case neg =>
      refine Or.inl ⟨hT2 _ (Ev.ite_pos b1 (Ev.ite_pos b2 (Ev.ite_neg (by rw [ba_list]; exact c1) (Ev.now _)))), ?_⟩
      rintro ⟨o', n', hg⟩
      obtain rfl := hgn o' n' hg
      obtain rfl := uniq o' n' hg
      exact c1 hg.2.2.2.2.1
    have c1' : (⟨(Lib.itoa n).toArray⟩ : ByteArray).toList = L.take o := by rw [ba_list]; exact c1
    by_cases c2 : n = 0
    · refine Or.inl ⟨hT2 _ (Ev.ite_pos b1 (Ev.ite_pos b2 (Ev.ite_pos c1' (Ev.ite_pos c2 (Ev.now _))))), ?_⟩
      rintro ⟨o', n', hg⟩
      obtain rfl := hgn o' n' hg
      exact hg.2.2.2.2.2.1 c2
    cases c3 : isT n with
    | false =>
      refine Or.inl ⟨hT2 _ (Ev.ite_pos b1 (Ev.ite_pos b2 (Ev.ite_pos c1' (Ev.ite_neg c2 (Ev.opt (isT_impl n) (Ev.ite_neg (by rw [c3]; decide) (Ev.now _))))))), ?_⟩
      rintro ⟨o', n', hg⟩
      obtain rfl := hgn o' n' hg
      have := hg.2.2.2.2.2.2
      rw [c3] at this
      cases this
    | true =>
      refine Or.inr ⟨o, n, ⟨by omega, q1, q2, ha, c1, c2, c3⟩, fun t ht => ?_⟩
      exact hT2 _ (Ev.ite_pos b1 (Ev.ite_pos b2 (Ev.ite_pos c1' (Ev.ite_neg c2 (Ev.opt (isT_impl n) (Ev.ite_pos c3 (Ev.bind ht (Ev.now _))))))))
theorem getD_of {L : List UInt8} {i : Nat} {b : UInt8} (h : L[i]? = some b) : L.getD i 0 = b := by rw [List.getD_eq_getElem?_getD, h]; rfl
theorem take_dig {L : List UInt8} {q : Nat} (hq : q ≤ L.length) (h : ∀ i, i < q → dig (L.getD i 0)) : ∀ b ∈ L.take q, dig b := fun b hb => by
  obtain ⟨i, hi, e⟩ := List.mem_iff_getElem.mp hb
  rw [List.length_take] at hi
  rw [List.getElem_take] at e
  have := h i (by omega)
  rw [List.getD_eq_getElem?_getD, List.getElem?_eq_getElem (by omega)] at this
  rw [← e]; exact this
theorem itoa_nat (n : Nat) : Lib.itoa (n : Int) = Lib.decDigits n := by
  unfold Lib.itoa
  rw [if_neg (by omega), Int.toNat_natCast]
/-- What is Good is what the reference finds. -/
theorem Good_spec {L : List UInt8} {o : Nat} {n : Int} (hg : Good L o n) {q : Nat} (h1 : q ≤ 7) (h2 : q ≤ L.length) (h3 : ∀ i, i < q → dig (L.getD i 0)) (h4 : q = 7 ∨ q = L.length ∨ ¬ dig (L.getD q 0)) :
    q = o ∧ n = ((numOf 0 (L.take q) : Nat) : Int) ∧ q ≠ 0 ∧ (L.getD 0 0).toNat ≠ 48 ∧ (q < L.length ∧ (L.getD q 0).toNat = 59) := by
  obtain ⟨g1, g2, g3, g4, g5, g6, g7⟩ := hg
  have hol : o < L.length := (List.getElem?_eq_some_iff.mp g2).1
  have hn0 : 0 ≤ n := by
    rcases Int.lt_or_le n 0 with h | h
    · rw [isT_neg n h] at g7; cases g7
    · exact h
  obtain ⟨m, rfl⟩ := Int.eq_ofNat_of_zero_le hn0
  rw [itoa_nat] at g5
  have hd : ∀ i, i < o → dig (L.getD i 0) := fun i hi => by
    have := decDigits_dig m (L.getD i 0) (by
      rw [g5, List.getD_eq_getElem?_getD, List.getElem?_eq_getElem (by omega)]
      exact List.mem_iff_getElem.mpr ⟨i, by rw [List.length_take]; omega, by rw [List.getElem_take]; rfl⟩)
    exact this
  have h59 : (L.getD o 0).toNat = 59 := by rw [getD_of g2]; rfl
  have hqo : q = o := by
    rcases Nat.lt_trichotomy q o with h | h | h
    · rcases h4 with h4 | h4 | h4
      · omega
      · omega
      · exact absurd (hd q h) h4
    · exact h
    · have := h3 o h
      unfold dig at this
      omega
  subst hqo
  refine ⟨rfl, ?_, by omega, ?_, hol, h59⟩
  · rw [← g5, numOf_decDigits]
  · obtain ⟨b, r, e, hb⟩ := decDigits_head m (fun h => g6 (by rw [h]; rfl))
    rw [e] at g5
    have : L.getD 0 0 = b := by
      cases L with
      | nil => simp at hol
      | cons x l =>
        cases q with
        | zero => omega
        | succ q => rw [List.take_succ_cons] at g5; exact (List.cons.inj g5).1.symm
    rw [this]
    exact hb
theorem spec_Good {L : List UInt8} {q : Nat} (h1 : q ≤ 7) (h3 : ∀ i, i < q → dig (L.getD i 0)) (h0 : q ≠ 0) (h48 : (L.getD 0 0).toNat ≠ 48) (h59 : q < L.length ∧ (L.getD q 0).toNat = 59) (ht : isT ((numOf 0 (L.take q) : Nat) : Int) = true) :
    Good L q ((numOf 0 (L.take q) : Nat) : Int) := by
  have hdg := take_dig (Nat.le_of_lt h59.1) h3
  have hne : L.take q ≠ [] := fun h => by
    have := congrArg List.length h
    rw [List.length_take, List.length_nil] at this
    omega
  have hhead : ∃ b r, L.take q = b :: r ∧ b.toNat ≠ 48 := by
    cases L with
    | nil => simp at h59
    | cons x l =>
      cases q with
      | zero => exact absurd rfl h0
      | succ q => exact ⟨x, l.take q, by rw [List.take_succ_cons], h48⟩
  have hdd := decDigits_numOf _ (L.take q) rfl hdg hhead
  refine ⟨by omega, ?_, fun k hk => ?_, atoi_dig _ hdg hne, by rw [itoa_nat, hdd], fun h => ?_, ht⟩
  · have e : L[q] = 59 := by
      have h := h59.2
      rw [List.getD_eq_getElem?_getD, List.getElem?_eq_getElem h59.1] at h
      exact UInt8.toNat_inj.mp h
    rw [List.getElem?_eq_getElem h59.1, e]
  · intro e
    have := h3 k hk
    rw [getD_of e] at this
    exact absurd this.2 (by decide)
  · have e : numOf 0 (L.take q) = 0 := by omega
    obtain ⟨b, r, e2, hb⟩ := hhead
    rw [e] at hdd
    rw [e2, Lib.decDigits_one (by decide)] at hdd
    have := (List.cons.inj hdd).1
    rw [← this] at hb
    exact hb (by decide)
/-- A text that stands at a place begins with the byte there. -/
theorem st_first (s t : ByteArray) (j : Nat) (hj : j < s.size) (b : UInt8) (r : List UInt8) (ht : t.data.toList = b :: r) (h : stB s j t = true) : bt s (j : Int) = (b.toNat : Int) := by
  have hs : s.data.toList.length = s.size := rfl
  rw [← hasPrefix_st s t j (by omega), rest_list, ht, List.drop_eq_getElem_cons (show j < s.data.toList.length by omega)] at h
  unfold Lib.hasPrefix at h
  rw [List.isPrefixOf_iff_prefix] at h
  obtain ⟨u, hu⟩ := h
  rw [List.cons_append] at hu
  rw [bt_list s j (by omega), ← (List.cons.inj hu).1]
/-- What a reference tells: none, or a text that is no longer than what was read, and the place behind a byte 59. -/
def RefOk (s : ByteArray) (at_ : Int) (r : ByteArray × Int) : Prop := r = NoRef ∨ ∃ e : Nat, r.2 = (e : Int) ∧ at_ + (r.1.size : Int) ≤ (e : Int) ∧ at_ < (e : Int) ∧ e ≤ s.size ∧ bt s ((e - 1 : Nat) : Int) = 59
theorem st_byte (s t : ByteArray) (j : Nat) (h : stB s j t = true) (i : Nat) (hi : i < t.size) : j + t.size ≤ s.size ∧ bt s ((j + i : Nat) : Int) = ((t.data.toList.getD i 0).toNat : Int) := by
  have hs : s.data.toList.length = s.size := rfl
  unfold stB at h
  rw [Bool.and_eq_true, decide_eq_true_iff, beq_iff_eq, Lib.toList_data t, Lib.extract_toList, show j + t.size - j = t.size by omega] at h
  refine ⟨h.1, ?_⟩
  rw [bt_list s (j + i) (by omega), ← h.2, List.getD_eq_getElem?_getD, List.getElem?_take_of_lt hi, List.getElem?_drop, List.getElem?_eq_getElem (by omega)]
  rfl
theorem RefOk_named (s : ByteArray) (j n : Nat) (nm sg : ByteArray) (hs : s.size ≤ 1048576) (h : stB s j nm = true) (hn : nm.size = n) (hsg : sg.size ≤ n) (h2 : 2 ≤ n) (hl : (nm.data.toList.getD (n - 1) 0).toNat = 59) : RefOk s j (sg, wrap64 ((j : Int) + (n : Int))) := by
  obtain ⟨q1, q2⟩ := st_byte s nm j h (n - 1) (by omega)
  refine Or.inr ⟨j + n, ?_, ?_, by omega, by omega, ?_⟩
  · show wrap64 ((j : Int) + (n : Int)) = _
    rw [w64 (by omega) (by omega)]; rfl
  · show (j : Int) + (sg.size : Int) ≤ _
    omega
  · rw [show j + n - 1 = j + (n - 1) by omega, q2, hl]; rfl
theorem XmlRef_full (s : ByteArray) (at_ : Int) (hs : s.size ≤ 1048576) : ∃ r, Ev (fun k => spec_XmlRef.f k s at_) r ∧ Ev (fun k => impl_XmlRef.f k s at_) r ∧ RefOk s at_ r := by
  have hw : wrap64 ((s.size : Int) - 1) = (s.size : Int) - 1 := w64 (by omega) (by omega)
  have S0 : Ev (fun k => spec_XmlRef.j0 k s at_ true) NoRef := Ev.here fun k => by simp only [spec_XmlRef.j0]; rw [if_pos True.intro]; rfl
  by_cases c : 0 ≤ at_ ∧ at_ < s.size
  case neg =>
    refine ⟨NoRef, ?_, ?_, Or.inl rfl⟩
    · unfold spec_XmlRef.f
      by_cases c1 : at_ < 0
      · exact Ev.ite_pos c1 S0
      · exact Ev.ite_neg c1 (Ev.ite_pos (by omega) S0)
    · unfold impl_XmlRef.f
      rw [inRange_eq, hw]
      exact Ev.opt rfl (Ev.ite_neg (by rw [decide_eq_true_iff]; omega) (Ev.now _))
  obtain ⟨j, rfl⟩ := Int.eq_ofNat_of_zero_le c.1
  have hj : j < s.size := by omega
  have hjs : j ≤ s.size := by omega
  have hI : ∀ r, Ev (fun k => (impl_namedRef.f (s.extract j s.size)).bind fun z => if z.2 > 0 then some (z.1, wrap64 ((j : Int) + z.2)) else (strings_CutPrefix.f (s.extract j s.size) (⟨#[38, 35]⟩ : ByteArray)).bind fun y => if y.2 = true then ((impl_inRange.f (Lib.indexByte y.1.data.toList (59 : Int).toNat.toUInt8) 1 7).bind fun b => if b = true then impl_XmlRef.g k j y.1 (Lib.indexByte y.1.data.toList (59 : Int).toNat.toUInt8) else some ((⟨#[]⟩ : ByteArray), (-1 : Int))) else some ((⟨#[]⟩ : ByteArray), (-1 : Int))) r → Ev (fun k => impl_XmlRef.f k s j) r := fun r hr => by
    unfold impl_XmlRef.f
    rw [inRange_eq, hw]
    refine Ev.opt rfl (Ev.ite_pos (decide_eq_true (by omega)) (Ev.ite_pos (by omega) (Ev.ite_pos (by omega) ?_)))
    simp only [Int.toNat_natCast]
    exact hr
  obtain ⟨t0, ht0⟩ : ∃ t, stB s j (⟨#[38, 97, 109, 112, 59]⟩ : ByteArray) = t := ⟨_, rfl⟩
  obtain ⟨t1, ht1⟩ : ∃ t, stB s j (⟨#[38, 108, 116, 59]⟩ : ByteArray) = t := ⟨_, rfl⟩
  obtain ⟨t2, ht2⟩ : ∃ t, stB s j (⟨#[38, 103, 116, 59]⟩ : ByteArray) = t := ⟨_, rfl⟩
  obtain ⟨t3, ht3⟩ : ∃ t, stB s j (⟨#[38, 113, 117, 111, 116, 59]⟩ : ByteArray) = t := ⟨_, rfl⟩
  obtain ⟨t4, ht4⟩ : ∃ t, stB s j (⟨#[38, 97, 112, 111, 115, 59]⟩ : ByteArray) = t := ⟨_, rfl⟩
  obtain ⟨th, hth⟩ : ∃ t, stB s j (⟨#[38, 35]⟩ : ByteArray) = t := ⟨_, rfl⟩
  have I0 : nrf5 (s.extract j s.size) = if t0 = true then some ((⟨#[38]⟩ : ByteArray), (5 : Int)) else nrf4 (s.extract j s.size) := by unfold nrf5; rw [hasPrefix_st s _ j hjs, ht0]
  have I1 : nrf4 (s.extract j s.size) = if t1 = true then some ((⟨#[60]⟩ : ByteArray), (4 : Int)) else nrf3 (s.extract j s.size) := by unfold nrf4; rw [hasPrefix_st s _ j hjs, ht1]
  have I2 : nrf3 (s.extract j s.size) = if t2 = true then some ((⟨#[62]⟩ : ByteArray), (4 : Int)) else nrf2 (s.extract j s.size) := by unfold nrf3; rw [hasPrefix_st s _ j hjs, ht2]
  have I3 : nrf2 (s.extract j s.size) = if t3 = true then some ((⟨#[34]⟩ : ByteArray), (6 : Int)) else nrf1 (s.extract j s.size) := by unfold nrf2; rw [hasPrefix_st s _ j hjs, ht3]
  have I4 : nrf1 (s.extract j s.size) = if t4 = true then some ((⟨#[39]⟩ : ByteArray), (6 : Int)) else nrf0 (s.extract j s.size) := by unfold nrf1; rw [hasPrefix_st s _ j hjs, ht4]
  have hcut : strings_CutPrefix.f (s.extract j s.size) (⟨#[38, 35]⟩ : ByteArray) = if th = true then some (s.extract (j + 2) s.size, true) else some (s.extract j s.size, false) := by
    have hq : (s.extract j s.size).size = s.size - j := sub_size s j s.size (Nat.le_refl _)
    have h2 : (⟨#[38, 35]⟩ : ByteArray).size = 2 := rfl
    unfold strings_CutPrefix.f stringslite_CutPrefix.f
    rw [Prefix_stands s _ j hs (by decide) hjs, Stands_all s _ j hs (by decide) hjs]
    rw [show (decide (j + (⟨#[38, 35]⟩ : ByteArray).size ≤ s.size) && ((s.extract j (j + (⟨#[38, 35]⟩ : ByteArray).size)).toList == (⟨#[38, 35]⟩ : ByteArray).toList)) = th from hth]
    cases th with
    | true =>
      have h3 : j + 2 ≤ s.size := by
        have := hth
        unfold stB at this
        rw [Bool.and_eq_true, decide_eq_true_iff, h2] at this
        exact this.1
      simp only [Option.bind_some, if_true]
      rw [if_pos (by omega), if_pos (by omega), h2]
      show some ((s.extract j s.size).extract 2 (s.extract j s.size).size, true) = _
      rw [hq, sub_sub s j s.size 2 (s.size - j) (by omega), show j + (s.size - j) = s.size by omega]
    | false => rfl
  have hnone : ∀ r, t0 = false → t1 = false → t2 = false → t3 = false → t4 = false → Ev (fun k => if th = true then ((impl_inRange.f (Lib.indexByte (s.extract (j + 2) s.size).data.toList (59 : Int).toNat.toUInt8) 1 7).bind fun b => if b = true then impl_XmlRef.g k j (s.extract (j + 2) s.size) (Lib.indexByte (s.extract (j + 2) s.size).data.toList (59 : Int).toNat.toUInt8) else some ((⟨#[]⟩ : ByteArray), (-1 : Int))) else some ((⟨#[]⟩ : ByteArray), (-1 : Int))) r → Ev (fun k => impl_XmlRef.f k s j) r := fun r z0 z1 z2 z3 z4 hr => by
    refine hI r ?_
    have hn : impl_namedRef.f (s.extract j s.size) = some ((⟨#[]⟩ : ByteArray), (0 : Int)) := by
      show nrf5 (s.extract j s.size) = _
      rw [I0, z0, if_neg (by decide), I1, z1, if_neg (by decide), I2, z2, if_neg (by decide), I3, z3, if_neg (by decide), I4, z4, if_neg (by decide)]
      rfl
    refine Ev.opt hn (Ev.ite_neg (by decide) ?_)
    rw [hcut]
    cases th with
    | true =>
      exact Ev.opt (if_pos rfl) (Ev.ite_pos rfl (Ev.un_pos rfl hr))
    | false =>
      exact Ev.opt (if_neg (by decide)) (Ev.ite_neg (by show ¬ (false = true); decide) (Ev.un_neg (by decide) hr))
  have hS : ∀ r, Ev (fun k => spec_XmlRef.j0 k s j ((bt s j) != 38)) r → Ev (fun k => spec_XmlRef.f k s j) r := fun r hr => by
    unfold spec_XmlRef.f
    exact Ev.ite_neg (by omega) (Ev.ite_neg (by omega) (Ev.ite_pos (by omega) (Ev.ite_pos (by omega) hr)))
  by_cases cb : bt s (j : Int) = 38
  case neg =>
    have fls : ∀ (t : ByteArray) (l : List UInt8) (v : Bool), t.data.toList = 38 :: l → stB s j t = v → v = false := fun t l v e1 e2 => by
      cases v with
      | false => rfl
      | true => exact absurd (st_first s t j hj 38 l e1 e2) cb
    refine ⟨NoRef, hS _ ?_, hnone _ (fls _ _ t0 rfl ht0) (fls _ _ t1 rfl ht1) (fls _ _ t2 rfl ht2) (fls _ _ t3 rfl ht3) (fls _ _ t4 rfl ht4) ?_, Or.inl rfl⟩
    · rw [show (bt s (j : Int) != 38) = true from bne_iff_ne.mpr cb]
      exact S0
    · exact Ev.ite_neg (by rw [fls _ _ th rfl hth]; decide) (Ev.now _)
  rw [show (bt s (j : Int) != 38) = false from bne_eq_false_iff_eq.mpr cb] at hS
  have hS1 : ∀ r, Ev (fun k => spec_XmlRef.l0 k s j ([(⟨#[38, 97, 109, 112, 59]⟩ : ByteArray), (⟨#[38, 108, 116, 59]⟩ : ByteArray), (⟨#[38, 103, 116, 59]⟩ : ByteArray), (⟨#[38, 113, 117, 111, 116, 59]⟩ : ByteArray), (⟨#[38, 97, 112, 111, 115, 59]⟩ : ByteArray)] : List ByteArray) ([(⟨#[38]⟩ : ByteArray), (⟨#[60]⟩ : ByteArray), (⟨#[62]⟩ : ByteArray), (⟨#[34]⟩ : ByteArray), (⟨#[39]⟩ : ByteArray)] : List ByteArray) 0) r → Ev (fun k => spec_XmlRef.f k s j) r := fun r hr => hS r (Ev.step (fun k => by simp only [spec_XmlRef.j0]; rw [if_neg (by decide)]) hr)
  have L0 : ∀ r, Ev (fun k => if t0 = true then some ((⟨#[38]⟩ : ByteArray), wrap64 ((j : Int) + 5)) else spec_XmlRef.l0 k s j ([(⟨#[38, 97, 109, 112, 59]⟩ : ByteArray), (⟨#[38, 108, 116, 59]⟩ : ByteArray), (⟨#[38, 103, 116, 59]⟩ : ByteArray), (⟨#[38, 113, 117, 111, 116, 59]⟩ : ByteArray), (⟨#[38, 97, 112, 111, 115, 59]⟩ : ByteArray)] : List ByteArray) ([(⟨#[38]⟩ : ByteArray), (⟨#[60]⟩ : ByteArray), (⟨#[62]⟩ : ByteArray), (⟨#[34]⟩ : ByteArray), (⟨#[39]⟩ : ByteArray)] : List ByteArray) 1) r → Ev (fun k => spec_XmlRef.l0 k s j ([(⟨#[38, 97, 109, 112, 59]⟩ : ByteArray), (⟨#[38, 108, 116, 59]⟩ : ByteArray), (⟨#[38, 103, 116, 59]⟩ : ByteArray), (⟨#[38, 113, 117, 111, 116, 59]⟩ : ByteArray), (⟨#[38, 97, 112, 111, 115, 59]⟩ : ByteArray)] : List ByteArray) ([(⟨#[38]⟩ : ByteArray), (⟨#[60]⟩ : ByteArray), (⟨#[62]⟩ : ByteArray), (⟨#[34]⟩ : ByteArray), (⟨#[39]⟩ : ByteArray)] : List ByteArray) 0) r := fun r hr => by
    have hst : spec_l5Stands.f s j (⟨#[38, 97, 109, 112, 59]⟩ : ByteArray) = some t0 := by rw [← ht0]; exact Stands_all s _ j hs (by decide) hjs
    refine Ev.step (fun k => ?_) hr
    simp only [spec_XmlRef.l0]
    rw [if_pos (by decide), if_pos (by decide), show rdOf ByteArray.empty ([(⟨#[38, 97, 109, 112, 59]⟩ : ByteArray), (⟨#[38, 108, 116, 59]⟩ : ByteArray), (⟨#[38, 103, 116, 59]⟩ : ByteArray), (⟨#[38, 113, 117, 111, 116, 59]⟩ : ByteArray), (⟨#[38, 97, 112, 111, 115, 59]⟩ : ByteArray)] : List ByteArray) 0 = (⟨#[38, 97, 109, 112, 59]⟩ : ByteArray) from rfl, hst, Option.bind_some]
    cases t0 with
    | true => rw [if_pos rfl, if_pos rfl, if_pos (by decide)]; rfl
    | false => rw [if_neg (by decide), if_neg (by decide), w64 (i := 0 + 1) (by decide) (by decide)]; rfl
  have L1 : ∀ r, Ev (fun k => if t1 = true then some ((⟨#[60]⟩ : ByteArray), wrap64 ((j : Int) + 4)) else spec_XmlRef.l0 k s j ([(⟨#[38, 97, 109, 112, 59]⟩ : ByteArray), (⟨#[38, 108, 116, 59]⟩ : ByteArray), (⟨#[38, 103, 116, 59]⟩ : ByteArray), (⟨#[38, 113, 117, 111, 116, 59]⟩ : ByteArray), (⟨#[38, 97, 112, 111, 115, 59]⟩ : ByteArray)] : List ByteArray) ([(⟨#[38]⟩ : ByteArray), (⟨#[60]⟩ : ByteArray), (⟨#[62]⟩ : ByteArray), (⟨#[34]⟩ : ByteArray), (⟨#[39]⟩ : ByteArray)] : List ByteArray) 2) r → Ev (fun k => spec_XmlRef.l0 k s j ([(⟨#[38, 97, 109, 112, 59]⟩ : ByteArray), (⟨#[38, 108, 116, 59]⟩ : ByteArray), (⟨#[38, 103, 116, 59]⟩ : ByteArray), (⟨#[38, 113, 117, 111, 116, 59]⟩ : ByteArray), (⟨#[38, 97, 112, 111, 115, 59]⟩ : ByteArray)] : List ByteArray) ([(⟨#[38]⟩ : ByteArray), (⟨#[60]⟩ : ByteArray), (⟨#[62]⟩ : ByteArray), (⟨#[34]⟩ : ByteArray), (⟨#[39]⟩ : ByteArray)] : List ByteArray) 1) r := fun r hr => by
    have hst : spec_l5Stands.f s j (⟨#[38, 108, 116, 59]⟩ : ByteArray) = some t1 := by rw [← ht1]; exact Stands_all s _ j hs (by decide) hjs
    refine Ev.step (fun k => ?_) hr
    simp only [spec_XmlRef.l0]
    rw [if_pos (by decide), if_pos (by decide), show rdOf ByteArray.empty ([(⟨#[38, 97, 109, 112, 59]⟩ : ByteArray), (⟨#[38, 108, 116, 59]⟩ : ByteArray), (⟨#[38, 103, 116, 59]⟩ : ByteArray), (⟨#[38, 113, 117, 111, 116, 59]⟩ : ByteArray), (⟨#[38, 97, 112, 111, 115, 59]⟩ : ByteArray)] : List ByteArray) 1 = (⟨#[38, 108, 116, 59]⟩ : ByteArray) from rfl, hst, Option.bind_some]
    cases t1 with
    | true => rw [if_pos rfl, if_pos rfl, if_pos (by decide)]; rfl
    | false => rw [if_neg (by decide), if_neg (by decide), w64 (i := 1 + 1) (by decide) (by decide)]; rfl
  have L2 : ∀ r, Ev (fun k => if t2 = true then some ((⟨#[62]⟩ : ByteArray), wrap64 ((j : Int) + 4)) else spec_XmlRef.l0 k s j ([(⟨#[38, 97, 109, 112, 59]⟩ : ByteArray), (⟨#[38, 108, 116, 59]⟩ : ByteArray), (⟨#[38, 103, 116, 59]⟩ : ByteArray), (⟨#[38, 113, 117, 111, 116, 59]⟩ : ByteArray), (⟨#[38, 97, 112, 111, 115, 59]⟩ : ByteArray)] : List ByteArray) ([(⟨#[38]⟩ : ByteArray), (⟨#[60]⟩ : ByteArray), (⟨#[62]⟩ : ByteArray), (⟨#[34]⟩ : ByteArray), (⟨#[39]⟩ : ByteArray)] : List ByteArray) 3) r → Ev (fun k => spec_XmlRef.l0 k s j ([(⟨#[38, 97, 109, 112, 59]⟩ : ByteArray), (⟨#[38, 108, 116, 59]⟩ : ByteArray), (⟨#[38, 103, 116, 59]⟩ : ByteArray), (⟨#[38, 113, 117, 111, 116, 59]⟩ : ByteArray), (⟨#[38, 97, 112, 111, 115, 59]⟩ : ByteArray)] : List ByteArray) ([(⟨#[38]⟩ : ByteArray), (⟨#[60]⟩ : ByteArray), (⟨#[62]⟩ : ByteArray), (⟨#[34]⟩ : ByteArray), (⟨#[39]⟩ : ByteArray)] : List ByteArray) 2) r := fun r hr => by
    have hst : spec_l5Stands.f s j (⟨#[38, 103, 116, 59]⟩ : ByteArray) = some t2 := by rw [← ht2]; exact Stands_all s _ j hs (by decide) hjs
    refine Ev.step (fun k => ?_) hr
    simp only [spec_XmlRef.l0]
    rw [if_pos (by decide), if_pos (by decide), show rdOf ByteArray.empty ([(⟨#[38, 97, 109, 112, 59]⟩ : ByteArray), (⟨#[38, 108, 116, 59]⟩ : ByteArray), (⟨#[38, 103, 116, 59]⟩ : ByteArray), (⟨#[38, 113, 117, 111, 116, 59]⟩ : ByteArray), (⟨#[38, 97, 112, 111, 115, 59]⟩ : ByteArray)] : List ByteArray) 2 = (⟨#[38, 103, 116, 59]⟩ : ByteArray) from rfl, hst, Option.bind_some]
    cases t2 with
    | true => rw [if_pos rfl, if_pos rfl, if_pos (by decide)]; rfl
    | false => rw [if_neg (by decide), if_neg (by decide), w64 (i := 2 + 1) (by decide) (by decide)]; rfl
  have L3 : ∀ r, Ev (fun k => if t3 = true then some ((⟨#[34]⟩ : ByteArray), wrap64 ((j : Int) + 6)) else spec_XmlRef.l0 k s j ([(⟨#[38, 97, 109, 112, 59]⟩ : ByteArray), (⟨#[38, 108, 116, 59]⟩ : ByteArray), (⟨#[38, 103, 116, 59]⟩ : ByteArray), (⟨#[38, 113, 117, 111, 116, 59]⟩ : ByteArray), (⟨#[38, 97, 112, 111, 115, 59]⟩ : ByteArray)] : List ByteArray) ([(⟨#[38]⟩ : ByteArray), (⟨#[60]⟩ : ByteArray), (⟨#[62]⟩ : ByteArray), (⟨#[34]⟩ : ByteArray), (⟨#[39]⟩ : ByteArray)] : List ByteArray) 4) r → Ev (fun k => spec_XmlRef.l0 k s j ([(⟨#[38, 97, 109, 112, 59]⟩ : ByteArray), (⟨#[38, 108, 116, 59]⟩ : ByteArray), (⟨#[38, 103, 116, 59]⟩ : ByteArray), (⟨#[38, 113, 117, 111, 116, 59]⟩ : ByteArray), (⟨#[38, 97, 112, 111, 115, 59]⟩ : ByteArray)] : List ByteArray) ([(⟨#[38]⟩ : ByteArray), (⟨#[60]⟩ : ByteArray), (⟨#[62]⟩ : ByteArray), (⟨#[34]⟩ : ByteArray), (⟨#[39]⟩ : ByteArray)] : List ByteArray) 3) r := fun r hr => by
    have hst : spec_l5Stands.f s j (⟨#[38, 113, 117, 111, 116, 59]⟩ : ByteArray) = some t3 := by rw [← ht3]; exact Stands_all s _ j hs (by decide) hjs
    refine Ev.step (fun k => ?_) hr
    simp only [spec_XmlRef.l0]
    rw [if_pos (by decide), if_pos (by decide), show rdOf ByteArray.empty ([(⟨#[38, 97, 109, 112, 59]⟩ : ByteArray), (⟨#[38, 108, 116, 59]⟩ : ByteArray), (⟨#[38, 103, 116, 59]⟩ : ByteArray), (⟨#[38, 113, 117, 111, 116, 59]⟩ : ByteArray), (⟨#[38, 97, 112, 111, 115, 59]⟩ : ByteArray)] : List ByteArray) 3 = (⟨#[38, 113, 117, 111, 116, 59]⟩ : ByteArray) from rfl, hst, Option.bind_some]
    cases t3 with
    | true => rw [if_pos rfl, if_pos rfl, if_pos (by decide)]; rfl
    | false => rw [if_neg (by decide), if_neg (by decide), w64 (i := 3 + 1) (by decide) (by decide)]; rfl
  have L4 : ∀ r, Ev (fun k => if t4 = true then some ((⟨#[39]⟩ : ByteArray), wrap64 ((j : Int) + 6)) else spec_XmlRef.l0 k s j ([(⟨#[38, 97, 109, 112, 59]⟩ : ByteArray), (⟨#[38, 108, 116, 59]⟩ : ByteArray), (⟨#[38, 103, 116, 59]⟩ : ByteArray), (⟨#[38, 113, 117, 111, 116, 59]⟩ : ByteArray), (⟨#[38, 97, 112, 111, 115, 59]⟩ : ByteArray)] : List ByteArray) ([(⟨#[38]⟩ : ByteArray), (⟨#[60]⟩ : ByteArray), (⟨#[62]⟩ : ByteArray), (⟨#[34]⟩ : ByteArray), (⟨#[39]⟩ : ByteArray)] : List ByteArray) 5) r → Ev (fun k => spec_XmlRef.l0 k s j ([(⟨#[38, 97, 109, 112, 59]⟩ : ByteArray), (⟨#[38, 108, 116, 59]⟩ : ByteArray), (⟨#[38, 103, 116, 59]⟩ : ByteArray), (⟨#[38, 113, 117, 111, 116, 59]⟩ : ByteArray), (⟨#[38, 97, 112, 111, 115, 59]⟩ : ByteArray)] : List ByteArray) ([(⟨#[38]⟩ : ByteArray), (⟨#[60]⟩ : ByteArray), (⟨#[62]⟩ : ByteArray), (⟨#[34]⟩ : ByteArray), (⟨#[39]⟩ : ByteArray)] : List ByteArray) 4) r := fun r hr => by
    have hst : spec_l5Stands.f s j (⟨#[38, 97, 112, 111, 115, 59]⟩ : ByteArray) = some t4 := by rw [← ht4]; exact Stands_all s _ j hs (by decide) hjs
    refine Ev.step (fun k => ?_) hr
    simp only [spec_XmlRef.l0]
    rw [if_pos (by decide), if_pos (by decide), show rdOf ByteArray.empty ([(⟨#[38, 97, 109, 112, 59]⟩ : ByteArray), (⟨#[38, 108, 116, 59]⟩ : ByteArray), (⟨#[38, 103, 116, 59]⟩ : ByteArray), (⟨#[38, 113, 117, 111, 116, 59]⟩ : ByteArray), (⟨#[38, 97, 112, 111, 115, 59]⟩ : ByteArray)] : List ByteArray) 4 = (⟨#[38, 97, 112, 111, 115, 59]⟩ : ByteArray) from rfl, hst, Option.bind_some]
    cases t4 with
    | true => rw [if_pos rfl, if_pos rfl, if_pos (by decide)]; rfl
    | false => rw [if_neg (by decide), if_neg (by decide), w64 (i := 4 + 1) (by decide) (by decide)]; rfl
  cases t0 with
  | true =>
    refine ⟨((⟨#[38]⟩ : ByteArray), wrap64 ((j : Int) + 5)), hS1 _ (L0 _ (Ev.ite_pos rfl (Ev.now _))), hI _ (Ev.opt (show nrf5 (s.extract j s.size) = some ((⟨#[38]⟩ : ByteArray), (5 : Int)) by rw [I0, if_pos rfl]) (Ev.ite_pos (by decide) (Ev.now _))), RefOk_named s j 5 (⟨#[38, 97, 109, 112, 59]⟩ : ByteArray) _ hs ht0 rfl (by decide) (by decide) (by decide)⟩
  | false =>
    cases t1 with
    | true =>
      refine ⟨((⟨#[60]⟩ : ByteArray), wrap64 ((j : Int) + 4)), hS1 _ (L0 _ (Ev.ite_neg (by decide) (L1 _ (Ev.ite_pos rfl (Ev.now _))))), hI _ (Ev.opt (show nrf5 (s.extract j s.size) = some ((⟨#[60]⟩ : ByteArray), (4 : Int)) by rw [I0, if_neg (by decide), I1, if_pos rfl]) (Ev.ite_pos (by decide) (Ev.now _))), RefOk_named s j 4 (⟨#[38, 108, 116, 59]⟩ : ByteArray) _ hs ht1 rfl (by decide) (by decide) (by decide)⟩
    | false =>
      cases t2 with
      | true =>
        refine ⟨((⟨#[62]⟩ : ByteArray), wrap64 ((j : Int) + 4)), hS1 _ (L0 _ (Ev.ite_neg (by decide) (L1 _ (Ev.ite_neg (by decide) (L2 _ (Ev.ite_pos rfl (Ev.now _))))))), hI _ (Ev.opt (show nrf5 (s.extract j s.size) = some ((⟨#[62]⟩ : ByteArray), (4 : Int)) by rw [I0, if_neg (by decide), I1, if_neg (by decide), I2, if_pos rfl]) (Ev.ite_pos (by decide) (Ev.now _))), RefOk_named s j 4 (⟨#[38, 103, 116, 59]⟩ : ByteArray) _ hs ht2 rfl (by decide) (by decide) (by decide)⟩
      | false =>
        cases t3 with
        | true =>
          refine ⟨((⟨#[34]⟩ : ByteArray), wrap64 ((j : Int) + 6)), hS1 _ (L0 _ (Ev.ite_neg (by decide) (L1 _ (Ev.ite_neg (by decide) (L2 _ (Ev.ite_neg (by decide) (L3 _ (Ev.ite_pos rfl (Ev.now _))))))))), hI _ (Ev.opt (show nrf5 (s.extract j s.size) = some ((⟨#[34]⟩ : ByteArray), (6 : Int)) by rw [I0, if_neg (by decide), I1, if_neg (by decide), I2, if_neg (by decide), I3, if_pos rfl]) (Ev.ite_pos (by decide) (Ev.now _))), RefOk_named s j 6 (⟨#[38, 113, 117, 111, 116, 59]⟩ : ByteArray) _ hs ht3 rfl (by decide) (by decide) (by decide)⟩
        | false =>
          cases t4 with
          | true =>
            refine ⟨((⟨#[39]⟩ : ByteArray), wrap64 ((j : Int) + 6)), hS1 _ (L0 _ (Ev.ite_neg (by decide) (L1 _ (Ev.ite_neg (by decide) (L2 _ (Ev.ite_neg (by decide) (L3 _ (Ev.ite_neg (by decide) (L4 _ (Ev.ite_pos rfl (Ev.now _))))))))))), hI _ (Ev.opt (show nrf5 (s.extract j s.size) = some ((⟨#[39]⟩ : ByteArray), (6 : Int)) by rw [I0, if_neg (by decide), I1, if_neg (by decide), I2, if_neg (by decide), I3, if_neg (by decide), I4, if_pos rfl]) (Ev.ite_pos (by decide) (Ev.now _))), RefOk_named s j 6 (⟨#[38, 97, 112, 111, 115, 59]⟩ : ByteArray) _ hs ht4 rfl (by decide) (by decide) (by decide)⟩
          | false =>
            have hS2 : ∀ r, Ev (fun k => if th = true then ((spec_l18Number.f k s j).bind fun b => (if b.2 < 0 then (some ((⟨#[]⟩ : ByteArray), (-1 : Int))) else ((spec_PutSign.f k b.1).bind fun t => (some (t, wrap64 (b.2 + 1)))))) else (some ((⟨#[]⟩ : ByteArray), (-1 : Int)))) r → Ev (fun k => spec_XmlRef.f k s j) r := fun r hr => hS1 _ (L0 _ (Ev.ite_neg (by decide) (L1 _ (Ev.ite_neg (by decide) (L2 _ (Ev.ite_neg (by decide) (L3 _ (Ev.ite_neg (by decide) (L4 _ (Ev.ite_neg (by decide) (Ev.step (fun k => by simp only [spec_XmlRef.l0]; rw [if_neg (by decide), show spec_l5Stands.f s j (⟨#[38, 35]⟩ : ByteArray) = some th from by rw [← hth]; exact Stands_all s _ j hs (by decide) hjs, Option.bind_some]) hr)))))))))))
            replace hnone := fun r => hnone r rfl rfl rfl rfl rfl
            cases th with
            | false => exact ⟨NoRef, hS2 _ (Ev.ite_neg (by decide) (Ev.now _)), hnone _ (Ev.ite_neg (by decide) (Ev.now _)), Or.inl rfl⟩
            | true =>
              obtain ⟨L, hL⟩ : ∃ L, L = s.data.toList.drop (j + 2) := ⟨_, rfl⟩
              obtain ⟨q, h1, h2, h3, h4, h5⟩ := Number_tells s j hs hj L hL
              have hsz : (s.extract (j + 2) s.size).size ≤ 1048576 := by
                have : (s.extract (j + 2) s.size).size = s.size - (j + 2) := sub_size s (j + 2) s.size (Nat.le_refl _)
                omega
              have hdl : (s.extract (j + 2) s.size).data.toList = L := by rw [rest_list, hL]
              have hlen : L.length ≤ 1048576 := by rw [← hdl]; exact hsz
              have HLL := Aside0.mk (show L.length = s.size - (j + 2) by rw [hL, List.length_drop]; rfl)
              have hspec : ∀ r, Ev (fun k => (if (numFin j L q ((numOf 0 (L.take q) : Nat) : Int)).2 < 0 then (some ((⟨#[]⟩ : ByteArray), (-1 : Int))) else ((spec_PutSign.f k (numFin j L q ((numOf 0 (L.take q) : Nat) : Int)).1).bind fun t => (some (t, wrap64 ((numFin j L q ((numOf 0 (L.take q) : Nat) : Int)).2 + 1)))))) r → Ev (fun k => spec_XmlRef.f k s j) r := fun r hr => hS2 _ (Ev.ite_pos rfl (Ev.bind h5 hr))
              have bad : (numFin j L q ((numOf 0 (L.take q) : Nat) : Int)).2 < 0 → (¬ ∃ o n, Good L o n) → ∃ r, Ev (fun k => spec_XmlRef.f k s j) r ∧ Ev (fun k => impl_XmlRef.f k s j) r ∧ RefOk s j r := fun hlt hno => by
                rcases Impl_tail j (by omega) _ hsz L hdl _ rfl with ⟨e, _⟩ | ⟨o, n, hg, _⟩
                · exact ⟨NoRef, hspec _ (Ev.ite_pos hlt (Ev.now _)), hnone _ (Ev.ite_pos rfl e), Or.inl rfl⟩
                · exact absurd ⟨o, n, hg⟩ hno
              by_cases c0 : q = 0
              · refine bad (by unfold numFin; rw [if_pos c0]; decide) ?_
                rintro ⟨o, n, hg⟩
                exact (Good_spec hg h1 h2 h3 h4).2.2.1 c0
              by_cases c1 : (L.getD 0 0).toNat = 48
              · refine bad (by unfold numFin; rw [if_neg c0, if_pos c1]; decide) ?_
                rintro ⟨o, n, hg⟩
                exact (Good_spec hg h1 h2 h3 h4).2.2.2.1 c1
              by_cases c2 : q < L.length ∧ (L.getD q 0).toNat = 59
              case neg =>
                refine bad (by unfold numFin; rw [if_neg c0, if_neg c1, if_neg c2]; decide) ?_
                rintro ⟨o, n, hg⟩
                exact c2 (Good_spec hg h1 h2 h3 h4).2.2.2.2
              cases c3 : isT ((numOf 0 (L.take q) : Nat) : Int) with
              | false =>
                refine bad (by unfold numFin; rw [if_neg c0, if_neg c1, if_pos c2, if_neg (by rw [c3]; decide)]; decide) ?_
                rintro ⟨o, n, hg⟩
                have := (Good_spec hg h1 h2 h3 h4).2.1
                have h7 := hg.2.2.2.2.2.2
                rw [this, c3] at h7
                cases h7
              | true =>
                have hgood := spec_Good h1 h3 c0 c1 c2 c3
                rcases Impl_tail j (by omega) _ hsz L hdl _ rfl with ⟨_, hno⟩ | ⟨o, n, hg, ev⟩
                · exact absurd ⟨_, _, hgood⟩ hno
                · obtain ⟨e1, e2, _⟩ := Good_spec hg h1 h2 h3 h4
                  subst e1 e2
                  obtain ⟨t, p1, p2, p3, p4⟩ := PutSign_same ((numOf 0 (L.take q) : Nat) : Int)
                  have hfin : numFin j L q ((numOf 0 (L.take q) : Nat) : Int) = (((numOf 0 (L.take q) : Nat) : Int), ((j + 2 + q : Nat) : Int)) := by
                    unfold numFin
                    rw [if_neg c0, if_neg c1, if_pos c2, if_pos c3]
                  have E5 := Aside0.mk (show j + 2 + q + 1 ≤ s.size by have := c2.1; have := HLL.out; clear hg ev hspec hnone bad h5; omega)
                  refine ⟨(t, ((j + 2 + q + 1 : Nat) : Int)), hspec _ ?_, hnone _ (Ev.ite_pos rfl (ev t p2)), Or.inr ⟨j + 2 + q + 1, rfl, by show (j : Int) + (t.size : Int) ≤ _; omega, by omega, E5.out, by rw [show j + 2 + q + 1 - 1 = j + 2 + q by omega, bt_rest s j q L hL c2.1]; have := c2.2; omega⟩⟩
                  rw [hfin]
                  have hw3 : wrap64 (((j + 2 + q : Nat) : Int) + 1) = ((j + 2 + q + 1 : Nat) : Int) := by rw [w64 (by omega) (by omega)]; rfl
                  refine Ev.ite_neg (by show ¬ (((j + 2 + q : Nat) : Int) < 0); omega) (Ev.bind p1 ?_)
                  simp only [hw3]
                  exact Ev.now _
theorem XmlRef_same (s : ByteArray) (at_ : Int) (hs : s.size ≤ 1048576) : ∃ r, Ev (fun k => spec_XmlRef.f k s at_) r ∧ Ev (fun k => impl_XmlRef.f k s at_) r := by
  obtain ⟨r, e1, e2, _⟩ := XmlRef_full s at_ hs
  exact ⟨r, e1, e2⟩
theorem FnExactXmlRef_all (a0 : ByteArray) (a1 : Int) : ∃ k, (if (a0.size : Int) > 1048576 then (some true) else ((spec_XmlRef.f k a0 a1).bind fun t => ((impl_XmlRef.f k a0 a1).bind fun u => (if u.1.toList = t.1.toList then (if u.2 = t.2 then (some true) else (some false)) else (some false))))) = some true := by
  by_cases c : (a0.size : Int) > 1048576
  · exact (Ev.ite_pos c (Ev.now _)).rounds
  · obtain ⟨r, e1, e2⟩ := XmlRef_same a0 a1 (by omega)
    exact (Ev.ite_neg c (Ev.bind e1 (Ev.bind e2 (Ev.ite_pos rfl (Ev.ite_pos rfl (Ev.now _)))))).rounds
end Go.Proofs.YtgljgbkbjlondaaDoor.Sg
