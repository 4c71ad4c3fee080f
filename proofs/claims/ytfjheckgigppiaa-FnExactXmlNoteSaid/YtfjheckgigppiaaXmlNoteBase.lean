/- The program's XmlNote (by strings.CutPrefix, Index, HasPrefix) and the reference's (by its own searches) tell the same. No conditions but the size. -/
import Derived.Test.YtfjheckgigppiaaNoteBase
import Derived.Test.YtfjheckgigppiaaPc16
import Derived.Test.YtfjheckgigppiaaPc17
import Derived.Test.YtfjheckgigppiaaPc18
import Derived.Test.YtfjheckgigppiaaPc3
namespace Go.Proofs.Ytfjheckgigppiaa.Sg
open Go Go.RowKit Go.Proofs.Ytfjheckgigppiaa.P Go.Proofs.Ytfjheckgigppiaa.Evs Go.Proofs.YtfjheckgigppiaaW.PrintWords Go.Proofs.YtfjheckgigppiaaW.PrintLast

theorem ba_ext {a b : ByteArray} (h : a.toList = b.toList) : a = b := by
  rw [Lib.toList_data, Lib.toList_data] at h
  exact ByteArray.ext (Array.toList_inj.mp h)
theorem sub_sub (s : ByteArray) (a b c d : Nat) (h : a + d ≤ b) : (s.extract a b).extract c d = s.extract (a + c) (a + d) := by
  apply ba_ext
  rw [Lib.extract_toList, Lib.extract_data, Lib.extract_toList, List.drop_take, List.drop_drop, List.take_take]
  congr 1
  omega
theorem sub_size (s : ByteArray) (a b : Nat) (h : b ≤ s.size) : (s.extract a b).size = b - a := by
  rw [ByteArray.size_extract]; omega
theorem Stands_all (s t : ByteArray) (j : Nat) (hs : s.size ≤ 1048576) (ht : t.size ≤ 1048576) (hj : j ≤ s.size) : spec_l5Stands.f s j t = some (decide (j + t.size ≤ s.size) && ((s.extract j (j + t.size)).toList == t.toList)) := by
  by_cases c : j + t.size ≤ s.size
  · rw [stands_tells s t j hs c, decide_eq_true c, Bool.true_and]
  · have hw : wrap64 ((j : Int) + (t.size : Int)) = ((j + t.size : Nat) : Int) := by rw [w64 (by omega) (by omega)]; rfl
    unfold spec_l5Stands.f
    rw [hw, if_neg (by omega), decide_eq_false c, Bool.false_and]
theorem Prefix_all (q t : ByteArray) : stringslite_HasPrefix.f q t = some (decide (t.size ≤ q.size) && ((q.extract 0 t.size).toList == t.toList)) := by
  unfold stringslite_HasPrefix.f
  by_cases c : t.size ≤ q.size
  · rw [if_pos (by omega), if_pos (by omega), if_pos (by omega), decide_eq_true c, Bool.true_and, Int.toNat_natCast]
  · rw [if_neg (by omega), decide_eq_false c, Bool.false_and]
theorem Prefix_stands (s t : ByteArray) (a : Nat) (hs : s.size ≤ 1048576) (ht : t.size ≤ 1048576) (ha : a ≤ s.size) : stringslite_HasPrefix.f (s.extract a s.size) t = spec_l5Stands.f s a t := by
  rw [Prefix_all, Stands_all s t a hs ht ha, sub_size s a s.size (Nat.le_refl _)]
  by_cases c : a + t.size ≤ s.size
  · rw [decide_eq_true (show t.size ≤ s.size - a by omega), decide_eq_true c, sub_sub s a s.size 0 t.size c, Nat.add_zero]
  · rw [decide_eq_false (show ¬ t.size ≤ s.size - a by omega), decide_eq_false c, Bool.false_and, Bool.false_and]
theorem Search_first (s t : ByteArray) (hs : s.size ≤ 1048576) (ht : t.size ≤ 1048576) : ∀ (d j : Nat), s.size + 1 - j = d → j ≤ s.size + 1 →
    ∃ r : Int, Ev (fun k => spec_l5Search.l0 k s j t) r ∧ ((r = -1 ∧ ∀ i, j ≤ i → i + t.size ≤ s.size → (s.extract i (i + t.size)).toList ≠ t.toList) ∨
      (∃ i : Nat, r = i ∧ j ≤ i ∧ i + t.size ≤ s.size ∧ (s.extract i (i + t.size)).toList = t.toList ∧ ∀ i', j ≤ i' → i' < i → (s.extract i' (i' + t.size)).toList ≠ t.toList)) := by
  intro d
  induction d with
  | zero =>
    intro j hd hj
    refine ⟨-1, Ev.here fun k => ?_, Or.inl ⟨rfl, fun i h1 h2 => by omega⟩⟩
    simp only [spec_l5Search.l0]; rw [if_neg (by rw [w64 (by omega) (by omega)]; omega)]
  | succ d ih =>
    intro j hd hj
    have hw0 : wrap64 ((j : Int) + (t.size : Int)) = ((j + t.size : Nat) : Int) := by rw [w64 (by omega) (by omega)]; rfl
    by_cases c : j + t.size ≤ s.size
    · have hw : wrap64 ((j : Int) + 1) = ((j + 1 : Nat) : Int) := by rw [w64 (by omega) (by omega)]; rfl
      have hst := stands_tells s t j hs c
      have hA : ((j + t.size : Nat) : Int) ≤ (s.size : Int) := by omega
      have hstep : ∀ k, spec_l5Search.l0 (k + 1) s j t = if ((s.extract j (j + t.size)).toList == t.toList) = true then some (j : Int) else spec_l5Search.l0 k s ((j + 1 : Nat) : Int) t := by
        intro k
        simp only [spec_l5Search.l0, hw0, hst, hw, Option.bind_some]
        rw [if_pos hA]
      by_cases h : ((s.extract j (j + t.size)).toList == t.toList) = true
      · exact ⟨j, Ev.here fun k => by rw [hstep, if_pos h], Or.inr ⟨j, rfl, Nat.le_refl _, c, by simpa using h, fun i' h1 h2 => by omega⟩⟩
      · obtain ⟨r, er, hr⟩ := ih (j + 1) (by omega) (by omega)
        refine ⟨r, Ev.step (fun k => by rw [hstep, if_neg h]) er, ?_⟩
        have hne : (s.extract j (j + t.size)).toList ≠ t.toList := by simpa using h
        rcases hr with ⟨h1, h2⟩ | ⟨i, h1, h2, h3, h4, h5⟩
        · refine Or.inl ⟨h1, fun i h3 h4 => ?_⟩
          rcases Nat.lt_or_ge j i with h5 | h5
          · exact h2 i h5 h4
          · obtain rfl : i = j := by omega
            exact hne
        · refine Or.inr ⟨i, h1, by omega, h3, h4, fun i' h6 h7 => ?_⟩
          rcases Nat.lt_or_ge j i' with h8 | h8
          · exact h5 i' h8 h7
          · obtain rfl : i' = j := by omega
            exact hne
    · refine ⟨-1, Ev.here fun k => ?_, Or.inl ⟨rfl, fun i h1 h2 => by omega⟩⟩
      simp only [spec_l5Search.l0]; rw [hw0, if_neg (by omega)]
/-- What Search finds from a place on is where strings.Index finds it in the rest. -/
theorem Search_index (s t : ByteArray) (a : Nat) (hs : s.size ≤ 1048576) (ht : t.size ≤ 1048576) (ht1 : 1 ≤ t.size) (ha : a ≤ s.size) :
    (Lib.index (s.extract a s.size).data.toList t.data.toList = -1 ∧ Ev (fun k => spec_l5Search.f k s a t) (-1)) ∨
    (∃ i : Nat, Lib.index (s.extract a s.size).data.toList t.data.toList = i ∧ a + i + t.size ≤ s.size ∧ Ev (fun k => spec_l5Search.f k s a t) ((a + i : Nat) : Int)) := by
  obtain ⟨r, er, hr⟩ := Search_first s t hs ht (s.size + 1 - a) a rfl (by omega)
  replace er : Ev (fun k => spec_l5Search.f k s a t) r := er
  have hq : (s.extract a s.size).size = s.size - a := sub_size s a s.size (Nat.le_refl _)
  have hql : (s.extract a s.size).data.toList.length = s.size - a := hq
  have htl : t.data.toList.length = t.size := rfl
  have occ : ∀ i, a + i + t.size ≤ s.size → Lib.occAt (s.extract a s.size).data.toList t.data.toList i = ((s.extract (a + i) (a + i + t.size)).toList == t.toList) := fun i hi => by
    rw [occAt_extract (s.extract a s.size) t i (by omega), sub_sub s a s.size i (i + t.size) (by omega), Nat.add_assoc]
  rcases Lib.index_spec (s.extract a s.size).data.toList t.data.toList with ⟨h, hn⟩ | ⟨i, h, hi, ho, hno⟩
  · rcases hr with ⟨rfl, _⟩ | ⟨p, rfl, p1, p2, p3, _⟩
    · exact Or.inl ⟨h, er⟩
    · have := hn (p - a) (by omega)
      rw [occ (p - a) (by omega), show a + (p - a) = p by omega, p3] at this
      simp at this
  · have hroom := Lib.index_room (s.extract a s.size).data.toList t.data.toList (by omega)
    rw [h] at hroom
    have hi2 : a + i + t.size ≤ s.size := by omega
    rw [occ i hi2] at ho
    rcases hr with ⟨_, h2⟩ | ⟨p, rfl, p1, p2, p3, p4⟩
    · exact absurd (by simpa using ho) (h2 (a + i) (by omega) hi2)
    · have hp : p = a + i := by
        rcases Nat.lt_trichotomy p (a + i) with h5 | h5 | h5
        · have := hno (p - a) (by omega)
          rw [occ (p - a) (by omega), show a + (p - a) = p by omega, p3] at this
          simp at this
        · exact h5
        · exact absurd (by simpa using ho) (p4 (a + i) (by omega) h5)
      subst hp
      exact Or.inr ⟨i, h, hi2, er⟩
set_option maxHeartbeats 2000000 in
theorem XmlNote_same (s : ByteArray) (at_ : Int) (hs : s.size ≤ 1048576) (h0 : -9223372036854775808 ≤ at_) (h1 : at_ ≤ 9223372036854775807) : ∃ r, Ev (fun k => spec_XmlNote.f k s at_) r ∧ Ev (fun k => impl_XmlNote.f k s at_) r := by
  have hw : wrap64 ((s.size : Int) - 1) = (s.size : Int) - 1 := w64 (by omega) (by omega)
  have S0 : Ev (fun k => spec_XmlNote.j0 k s at_ true) ((⟨#[]⟩ : ByteArray), (-1 : Int)) := Ev.here fun k => by simp only [spec_XmlNote.j0]; rw [if_pos True.intro]
  by_cases c : 0 ≤ at_ ∧ at_ < s.size
  case neg =>
    refine ⟨((⟨#[]⟩ : ByteArray), (-1 : Int)), ?_, ?_⟩
    · unfold spec_XmlNote.f
      by_cases c1 : at_ < 0
      · exact Ev.ite_pos c1 S0
      · exact Ev.ite_neg c1 (Ev.ite_pos (by omega) S0)
    · unfold impl_XmlNote.f
      rw [inRange_eq, hw]
      exact Ev.opt rfl (Ev.ite_neg (by rw [decide_eq_true_iff]; omega) (Ev.now _))
  obtain ⟨j, rfl⟩ := Int.eq_ofNat_of_zero_le c.1
  have hj : j < s.size := by omega
  have h4 : (⟨#[60, 33, 45, 45]⟩ : ByteArray).size = 4 := rfl
  have hst := Stands_all s (⟨#[60, 33, 45, 45]⟩ : ByteArray) j hs (by decide) (by omega)
  have hpre := Prefix_stands s (⟨#[60, 33, 45, 45]⟩ : ByteArray) j hs (by decide) (by omega)
  generalize hb : (decide (j + (⟨#[60, 33, 45, 45]⟩ : ByteArray).size ≤ s.size) && ((s.extract j (j + (⟨#[60, 33, 45, 45]⟩ : ByteArray).size)).toList == (⟨#[60, 33, 45, 45]⟩ : ByteArray).toList)) = b at hst
  rw [hst] at hpre
  have hq : (s.extract j s.size).size = s.size - j := sub_size s j s.size (Nat.le_refl _)
  have hs1 : ∀ r, Ev (fun k => spec_XmlNote.j0 k s j (!b)) r → Ev (fun k => spec_XmlNote.f k s j) r := fun r hr => by
    unfold spec_XmlNote.f
    exact Ev.ite_neg (by omega) (Ev.ite_neg (by omega) (Ev.opt hst hr))
  have hi1 : ∀ (z : ByteArray × Bool) r, strings_CutPrefix.f (s.extract j s.size) (⟨#[60, 33, 45, 45]⟩ : ByteArray) = some z → Ev (fun k => if z.1.size ≤ 100000000 then (if z.2 = true then (if Lib.index z.1.data.toList (⟨#[45, 45]⟩ : ByteArray).data.toList < 0 then some ((⟨#[]⟩ : ByteArray), (-1 : Int)) else (if Lib.index z.1.data.toList (⟨#[45, 45]⟩ : ByteArray).data.toList ≤ (z.1.size : Int) then impl_XmlNote.g k j z.1 (Lib.index z.1.data.toList (⟨#[45, 45]⟩ : ByteArray).data.toList) else none)) else some ((⟨#[]⟩ : ByteArray), (-1 : Int))) else none) r → Ev (fun k => impl_XmlNote.f k s j) r := fun z r hz hr => by
    unfold impl_XmlNote.f
    rw [inRange_eq, hw]
    refine Ev.opt rfl (Ev.ite_pos (decide_eq_true (by omega)) (Ev.ite_pos (by omega) (Ev.ite_pos (by omega) ?_)))
    simp only [Int.toNat_natCast]
    exact Ev.opt hz hr
  have hcut : strings_CutPrefix.f (s.extract j s.size) (⟨#[60, 33, 45, 45]⟩ : ByteArray) = (if b = true then (if (4 : Int) ≤ ((s.extract j s.size).size : Int) then some ((s.extract j s.size).extract 4 (s.extract j s.size).size, true) else none) else some (s.extract j s.size, false)) := by
    unfold strings_CutPrefix.f stringslite_CutPrefix.f
    rw [hpre]
    cases b with
    | true =>
      simp only [Option.bind_some]
      rw [if_pos True.intro, if_pos True.intro, if_pos (Int.natCast_nonneg _)]
      by_cases h : (4 : Int) ≤ ((s.extract j s.size).size : Int)
      · rw [if_pos h, if_pos (by rw [h4]; exact h)]; rfl
      · rw [if_neg h, if_neg (by rw [h4]; exact h)]; rfl
    | false => rfl
  cases b with
  | false =>
    refine ⟨((⟨#[]⟩ : ByteArray), (-1 : Int)), hs1 _ S0, hi1 (s.extract j s.size, false) _ (by rw [hcut, if_neg (by decide)]) (Ev.ite_pos (by show (s.extract j s.size).size ≤ _; omega) (Ev.ite_neg (by show ¬ (false = true); decide) (Ev.now _)))⟩
  | true =>
    rw [Bool.and_eq_true, decide_eq_true_iff, h4] at hb
    have hj4 : j + 4 ≤ s.size := hb.1
    have hrest : (s.extract j s.size).extract 4 (s.extract j s.size).size = s.extract (j + 4) s.size := by rw [hq, sub_sub s j s.size 4 (s.size - j) (by omega), show j + (s.size - j) = s.size by omega]
    have hz : strings_CutPrefix.f (s.extract j s.size) (⟨#[60, 33, 45, 45]⟩ : ByteArray) = some (s.extract (j + 4) s.size, true) := by
      rw [hcut, if_pos rfl, if_pos (by omega), hrest]
    have hzs : (s.extract (j + 4) s.size).size = s.size - (j + 4) := sub_size s (j + 4) s.size (Nat.le_refl _)
    have hwj : wrap64 ((j : Int) + 4) = ((j + 4 : Nat) : Int) := by rw [w64 (by omega) (by omega)]; rfl
    have hz8 : (s.extract (j + 4) s.size).size ≤ 100000000 := by rw [hzs]; omega
    replace hzs := Aside0.mk hzs
    replace hz8 := Aside0.mk hz8
    clear hq h4 hrest hcut
    rcases Search_index s (⟨#[45, 45]⟩ : ByteArray) (j + 4) hs (by decide) (by decide) hj4 with ⟨hx, es⟩ | ⟨i, hx, hi, es⟩
    · refine ⟨((⟨#[]⟩ : ByteArray), (-1 : Int)), hs1 _ (Ev.step (fun k => by simp only [spec_XmlNote.j0, hwj]; rw [if_neg (by decide)]) (Ev.bind es (Ev.ite_pos (show (-1 : Int) < 0 by decide) (Ev.now _)))), hi1 _ _ hz ?_⟩
      exact Ev.ite_pos hz8.out (Ev.ite_pos rfl (Ev.ite_pos (by show Lib.index (s.extract (j + 4) s.size).data.toList _ < 0; rw [hx]; decide) (Ev.now _)))
    · have h2 : (⟨#[45, 45]⟩ : ByteArray).size = 2 := rfl
      rw [h2] at hi
      clear h2
      replace hx := Aside0.mk hx
      obtain ⟨q, q1, q2⟩ := NoteOk_same (s.extract (j + 4) (j + 4 + i)) (by rw [sub_size s _ _ (by omega)]; omega)
      have hp1 := Stands_all s (⟨#[45, 45, 62]⟩ : ByteArray) (j + 4 + i) hs (by decide) (by omega)
      have hp2 := Prefix_stands s (⟨#[45, 45, 62]⟩ : ByteArray) (j + 4 + i) hs (by decide) (by omega)
      generalize (decide (j + 4 + i + (⟨#[45, 45, 62]⟩ : ByteArray).size ≤ s.size) && ((s.extract (j + 4 + i) (j + 4 + i + (⟨#[45, 45, 62]⟩ : ByteArray).size)).toList == (⟨#[45, 45, 62]⟩ : ByteArray).toList)) = p at hp1
      rw [hp1] at hp2
      have hr1 : (s.extract (j + 4) s.size).extract 0 i = s.extract (j + 4) (j + 4 + i) := by rw [sub_sub s (j + 4) s.size 0 i (by omega), Nat.add_zero]
      have hr2 : (s.extract (j + 4) s.size).extract i (s.extract (j + 4) s.size).size = s.extract (j + 4 + i) s.size := by rw [hzs.out, sub_sub s (j + 4) s.size i (s.size - (j + 4)) (by omega), show j + 4 + (s.size - (j + 4)) = s.size by omega]
      have hw3 : wrap64 (((j + 4 + i : Nat) : Int) + 3) = ((j + 4 + i + 3 : Nat) : Int) := by rw [w64 (by omega) (by omega)]; rfl
      have hw4 : wrap64 (((j + 4 : Nat) : Int) + (i : Int)) = ((j + 4 + i : Nat) : Int) := by rw [w64 (by omega) (by omega)]; rfl
      have hg : ∀ r, Ev (fun k => (impl_NoteOk.f k (s.extract (j + 4) (j + 4 + i))).bind fun q => if q = true then (if p = true then some (s.extract (j + 4) (j + 4 + i), ((j + 4 + i + 3 : Nat) : Int)) else some ((⟨#[]⟩ : ByteArray), (-1 : Int))) else some ((⟨#[]⟩ : ByteArray), (-1 : Int))) r → Ev (fun k => impl_XmlNote.f k s j) r := fun r hr => by
        refine hi1 _ _ hz (Ev.ite_pos hz8.out (Ev.ite_pos rfl (Ev.ite_neg (by show ¬ Lib.index (s.extract (j + 4) s.size).data.toList _ < 0; rw [hx.out]; omega) (Ev.ite_pos (by show Lib.index (s.extract (j + 4) s.size).data.toList _ ≤ _; rw [hx.out, hzs.out]; omega) ?_))))
        simp only [hx.out]
        unfold impl_XmlNote.g strings_HasPrefix.f
        simp only [Int.toNat_natCast, hr1, hr2, hp2, Option.bind_some, hwj, hw4, hw3]
        exact hr
      have hsp : ∀ r, Ev (fun k => if p = true then ((spec_NoteOk.f k (s.extract (j + 4) (j + 4 + i))).bind fun q => if q = true then some (s.extract (j + 4) (j + 4 + i), ((j + 4 + i + 3 : Nat) : Int)) else some ((⟨#[]⟩ : ByteArray), (-1 : Int))) else some ((⟨#[]⟩ : ByteArray), (-1 : Int))) r → Ev (fun k => spec_XmlNote.f k s j) r := fun r hr => by
        refine hs1 _ (Ev.step (fun k => by simp only [spec_XmlNote.j0, hwj]; rw [if_neg (by decide)]) (Ev.bind es (Ev.ite_neg (show ¬ (((j + 4 + i : Nat) : Int) < 0) from Int.not_lt.mpr (Int.natCast_nonneg _)) (Ev.opt hp1 ?_))))
        simp only [Int.toNat_natCast, hw3]
        cases p with
        | true =>
          have hr' := hr
          simp only [if_true] at hr'
          exact Ev.ite_pos rfl (Ev.ite_pos (by omega) (Ev.ite_pos (by omega) (Ev.ite_pos (by omega) hr')))
        | false => exact Ev.ite_neg (by decide) (by simpa using hr)
      cases p with
      | false =>
        refine ⟨((⟨#[]⟩ : ByteArray), (-1 : Int)), hsp _ (Ev.ite_neg (by decide) (Ev.now _)), hg _ (Ev.bind q2 ?_)⟩
        cases q with
        | true => exact Ev.ite_pos rfl (Ev.ite_neg (by decide) (Ev.now _))
        | false => exact Ev.ite_neg (by decide) (Ev.now _)
      | true =>
        cases q with
        | true => exact ⟨_, hsp _ (Ev.ite_pos rfl (Ev.bind q1 (Ev.ite_pos rfl (Ev.now _)))), hg _ (Ev.bind q2 (Ev.ite_pos rfl (Ev.ite_pos rfl (Ev.now _))))⟩
        | false => exact ⟨_, hsp _ (Ev.ite_pos rfl (Ev.bind q1 (Ev.ite_neg (by decide) (Ev.now _)))), hg _ (Ev.bind q2 (Ev.ite_neg (by decide) (Ev.now _)))⟩
theorem FnExactXmlNote_all (a0 : ByteArray) (a1 : Int) (h0 : -9223372036854775808 ≤ a1) (h1 : a1 ≤ 9223372036854775807) : ∃ k, laws_FnExactXmlNote.f k a0 a1 = some true := by
  unfold laws_FnExactXmlNote.f
  by_cases c : (a0.size : Int) > 1048576
  · exact (Ev.ite_pos c (Ev.now _)).rounds
  · obtain ⟨r, e1, e2⟩ := XmlNote_same a0 a1 (by omega) h0 h1
    exact (Ev.ite_neg c (Ev.bind e1 (Ev.bind e2 (Ev.ite_pos rfl (Ev.ite_pos rfl (Ev.now _)))))).rounds
end Go.Proofs.Ytfjheckgigppiaa.Sg
