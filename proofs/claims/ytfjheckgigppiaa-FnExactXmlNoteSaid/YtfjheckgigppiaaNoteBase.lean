/- The program's NoteOk (by strings.Contains, HasSuffix) and the reference's (by its own searches) tell the same. No conditions but the size. -/
import Derived.Test.YtfjheckgigppiaaTextBase
import Derived.Lib.IndexMore
import Derived.Lib.IndexBytes
import Derived.Test.YtfjheckgigppiaaPc15
import Derived.Test.YtfjheckgigppiaaPc19
import Derived.Test.YtfjheckgigppiaaPc2
namespace Go.Proofs.Ytfjheckgigppiaa.Sg
open Go Go.RowKit Go.Proofs.Ytfjheckgigppiaa.P Go.Proofs.Ytfjheckgigppiaa.Evs Go.Proofs.YtfjheckgigppiaaW.PrintWords Go.Proofs.YtfjheckgigppiaaW.PrintLast

theorem bt_list (s : ByteArray) (j : Nat) (h : j < s.data.toList.length) : bt s (j : Int) = ((s.data.toList[j]).toNat : Int) := by
  have h' : j < s.size := h
  unfold bt
  rw [Int.toNat_natCast, dif_pos h']
  rfl
/-- One byte, looked for from a place on. -/
theorem Find_some (s : ByteArray) (c : UInt8) (hs : s.size ≤ 1048576) : ∀ (d j : Nat), s.size - j = d → j ≤ s.size →
    ∃ r : Int, Ev (fun k => spec_l4Find.l0 k s j (c.toNat : Int)) r ∧ (r < 0 ↔ c ∉ s.data.toList.drop j) := by
  intro d
  have hsz : s.data.toList.length = s.size := rfl
  induction d with
  | zero =>
    intro j hd hj
    refine ⟨-1, Ev.here fun k => ?_, ?_⟩
    · simp only [spec_l4Find.l0]; rw [if_neg (by omega)]
    · rw [List.drop_eq_nil_of_le (by omega)]; simp
  | succ d ih =>
    intro j hd hj
    have hjl : j < s.data.toList.length := by omega
    have hA : (j : Int) < (s.size : Int) := Int.ofNat_lt.mpr hjl
    have hB : (0 : Int) ≤ (j : Int) := Int.natCast_nonneg j
    have hw : wrap64 ((j : Int) + 1) = ((j + 1 : Nat) : Int) := by rw [w64 (by omega) (by omega)]; rfl
    rw [List.drop_eq_getElem_cons hjl]
    have hstep : ∀ k, spec_l4Find.l0 (k + 1) s j (c.toNat : Int) = if (s.data.toList[j]) = c then some (j : Int) else spec_l4Find.l0 k s ((j + 1 : Nat) : Int) (c.toNat : Int) := by
      intro k
      have hbt := bt_list s j hjl
      generalize s.data.toList[j] = b at hbt
      simp only [spec_l4Find.l0, hbt, hw]
      rw [if_pos hA, if_pos hB]
      by_cases h : b = c
      · rw [if_pos h, if_pos (by rw [h])]
      · rw [if_neg h, if_neg (fun e => h (UInt8.toNat_inj.mp (Int.ofNat_inj.mp e)))]
    by_cases h : s.data.toList[j] = c
    · refine ⟨j, Ev.here fun k => by rw [hstep, if_pos h], ?_⟩
      constructor
      · intro h0; omega
      · intro h0; exact absurd (by rw [h]; exact List.mem_cons_self) h0
    · obtain ⟨r, er, hr⟩ := ih (j + 1) (by omega) (by omega)
      refine ⟨r, Ev.step (fun k => by rw [hstep, if_neg h]) er, ?_⟩
      rw [hr, List.mem_cons]
      constructor
      · rintro h0 (h1 | h1)
        · exact h h1.symm
        · exact h0 h1
      · intro h0 h1; exact h0 (Or.inr h1)
theorem stands_tells (s t : ByteArray) (j : Nat) (hs : s.size ≤ 1048576) (ht : j + t.size ≤ s.size) : spec_l5Stands.f s j t = some ((s.extract j (j + t.size)).toList == t.toList) := by
  have hw : wrap64 ((j : Int) + (t.size : Int)) = ((j + t.size : Nat) : Int) := by rw [w64 (by omega) (by omega)]; rfl
  unfold spec_l5Stands.f
  rw [hw, if_pos (by omega), if_pos (by omega), if_pos (by omega), Int.toNat_natCast, Int.toNat_natCast]
/-- A text, looked for from a place on. -/
theorem Search_some (s t : ByteArray) (hs : s.size ≤ 1048576) (ht : t.size ≤ 1048576) : ∀ (d j : Nat), s.size + 1 - j = d → j ≤ s.size + 1 →
    ∃ r : Int, Ev (fun k => spec_l5Search.l0 k s j t) r ∧ (r < 0 ↔ ∀ i, j ≤ i → i + t.size ≤ s.size → (s.extract i (i + t.size)).toList ≠ t.toList) := by
  intro d
  induction d with
  | zero =>
    intro j hd hj
    refine ⟨-1, Ev.here fun k => ?_, ?_⟩
    · simp only [spec_l5Search.l0]; rw [if_neg (by rw [w64 (by omega) (by omega)]; omega)]
    · constructor
      · intro _ i h1 h2; omega
      · intro _; omega
  | succ d ih =>
    intro j hd hj
    have hw0 : wrap64 ((j : Int) + (t.size : Int)) = ((j + t.size : Nat) : Int) := by rw [w64 (by omega) (by omega)]; rfl
    by_cases c : j + t.size ≤ s.size
    · have hw : wrap64 ((j : Int) + 1) = ((j + 1 : Nat) : Int) := by rw [w64 (by omega) (by omega)]; rfl
      have hst := stands_tells s t j hs c
      have hA : ((j + t.size : Nat) : Int) ≤ (s.size : Int) := by omega
      have hstep : ∀ k, spec_l5Search.l0 (k + 1) s j t = if ((s.extract j (j + t.size)).toList == t.toList) = true then some (j : Int) else spec_l5Search.l0 k s ((j + 1 : Nat) : Int) t := by
        intro k
        simp only [spec_l5Search.l0, hw0, hst, hw, Option.bind_some]
        rw [if_pos hA]
      by_cases h : ((s.extract j (j + t.size)).toList == t.toList) = true
      · refine ⟨j, Ev.here fun k => by rw [hstep, if_pos h], ?_⟩
        constructor
        · intro h0; omega
        · intro h0; exact absurd (by simpa using h) (h0 j (Nat.le_refl _) c)
      · obtain ⟨r, er, hr⟩ := ih (j + 1) (by omega) (by omega)
        refine ⟨r, Ev.step (fun k => by rw [hstep, if_neg h]) er, ?_⟩
        rw [hr]
        constructor
        · intro h0 i h1 h2
          rcases Nat.lt_or_ge j i with h3 | h3
          · exact h0 i h3 h2
          · obtain rfl : i = j := by omega
            simpa using h
        · intro h0 i h1 h2; exact h0 i (by omega) h2
    · refine ⟨-1, Ev.here fun k => ?_, ?_⟩
      · simp only [spec_l5Search.l0]; rw [hw0, if_neg (by omega)]
      · constructor
        · intro _ i h1 h2; omega
        · intro _; omega
/-! ### strings.Contains, HasSuffix in the same words -/
theorem contains_one (l : List UInt8) (c : UInt8) : Lib.contains l [c] = decide (c ∈ l) := by
  unfold Lib.contains
  rw [Lib.index_one]
  induction l with
  | nil => rfl
  | cons b l ih =>
    rw [show Lib.indexByte (b :: l) c = (if (b == c) = true then 0 else if (Lib.indexByte l c == -1) = true then -1 else Lib.indexByte l c + 1) from rfl]
    by_cases h : b = c
    · rw [if_pos (by simpa using h)]
      rw [decide_eq_true (by decide), decide_eq_true (by rw [h]; exact List.mem_cons_self)]
    · rw [if_neg (by simpa using h)]
      have hge := Lib.indexByte_ge l c
      have hm : (c ∈ b :: l) ↔ (c ∈ l) := by rw [List.mem_cons]; exact ⟨fun h0 => h0.resolve_left (fun e => h e.symm), Or.inr⟩
      rw [show decide (c ∈ b :: l) = decide (c ∈ l) from decide_eq_decide.mpr hm, ← ih]
      by_cases h2 : Lib.indexByte l c = -1
      · rw [if_pos (by simpa using h2), h2]
      · rw [if_neg (by simpa using h2)]
        rw [decide_eq_true (by omega), decide_eq_true (by omega)]
theorem occAt_extract (s t : ByteArray) (i : Nat) (h : i + t.size ≤ s.size) : Lib.occAt s.data.toList t.data.toList i = ((s.extract i (i + t.size)).toList == t.toList) := by
  have hs : s.data.toList.length = s.size := rfl
  have ht : t.data.toList.length = t.size := rfl
  unfold Lib.occAt
  rw [show (t.data.toList.isPrefixOf (s.data.toList.drop i)) = Lib.hasPrefix (s.data.toList.drop i) t.data.toList from rfl, ← Lib.hasPrefix_of_take, decide_eq_true (by rw [List.length_drop]; omega), Bool.true_and, Lib.extract_toList, Lib.toList_data, ht, show i + t.size - i = t.size by omega]
theorem contains_tells (s t : ByteArray) : Lib.contains s.data.toList t.data.toList = false ↔ ∀ i, 0 ≤ i → i + t.size ≤ s.size → (s.extract i (i + t.size)).toList ≠ t.toList := by
  have hs : s.data.toList.length = s.size := rfl
  have ht : t.data.toList.length = t.size := rfl
  unfold Lib.contains
  rcases Lib.index_spec s.data.toList t.data.toList with ⟨h, hn⟩ | ⟨i, h, hi, ho, _⟩
  · rw [h]
    constructor
    · intro _ j _ hj he
      have := hn j (by omega)
      rw [occAt_extract s t j hj] at this
      simp [he] at this
    · intro _; rfl
  · have hr := Lib.index_room s.data.toList t.data.toList (by omega)
    rw [h] at hr
    rw [occAt_extract s t i (by omega)] at ho
    constructor
    · intro h0; rw [h, decide_eq_false_iff_not] at h0; omega
    · intro h0; exact absurd (by simpa using ho) (h0 i (Nat.zero_le _) (by omega))
theorem suffix_one (init : List UInt8) (x c : UInt8) : Lib.hasSuffix (init ++ [x]) [c] = decide (x = c) := by
  unfold Lib.hasSuffix
  rw [Bool.eq_iff_iff, List.isSuffixOf_iff_suffix, decide_eq_true_iff]
  constructor
  · rintro ⟨t, ht⟩
    have := (List.append_inj' ht rfl).2
    exact (List.cons.inj this).1.symm
  · rintro rfl; exact List.suffix_append _ _
theorem NoteOk_same (s : ByteArray) (hs : s.size ≤ 1048576) : ∃ b, Ev (fun k => spec_NoteOk.f k s) b ∧ Ev (fun k => impl_NoteOk.f k s) b := by
  obtain ⟨t, t1, t2⟩ := TextOk_same s hs
  obtain ⟨r1, f1, hr1⟩ := Find_some s 13 hs s.size 0 (by omega) (by omega)
  obtain ⟨r2, f2, hr2⟩ := Search_some s (⟨#[45, 45]⟩ : ByteArray) hs (by decide) (s.size + 1) 0 (by omega) (by omega)
  rw [List.drop_zero] at hr1
  replace f1 : Ev (fun k => spec_l4Find.f k s 0 13) r1 := f1
  replace f2 : Ev (fun k => spec_l5Search.f k s 0 (⟨#[45, 45]⟩ : ByteArray)) r2 := f2
  have hc2 := contains_tells s (⟨#[45, 45]⟩ : ByteArray)
  rw [← hr2] at hc2
  have hc1 : Lib.contains s.data.toList (⟨#[13]⟩ : ByteArray).data.toList = decide (¬ r1 < 0) := by
    show Lib.contains s.data.toList [13] = _
    rw [contains_one, decide_eq_decide, hr1, Classical.not_not]
  have hi : ∀ (b : Bool), (t && !(Lib.contains s.data.toList (⟨#[13]⟩ : ByteArray).data.toList) && !(Lib.contains s.data.toList (⟨#[45, 45]⟩ : ByteArray).data.toList) && !(Lib.hasSuffix s.data.toList (⟨#[45]⟩ : ByteArray).data.toList)) = b → Ev (fun k => impl_NoteOk.f k s) b := fun b hb => by
    unfold impl_NoteOk.f
    subst hb
    exact Ev.ite_pos (by omega) (Ev.bind t2 (Ev.now _))
  unfold spec_NoteOk.f
  cases t with
  | false => exact ⟨false, Ev.bind t1 (Ev.ite_neg (by decide) (Ev.now _)), hi false rfl⟩
  | true =>
    by_cases c1 : r1 < 0
    case neg => exact ⟨false, Ev.bind t1 (Ev.ite_pos rfl (Ev.bind f1 (Ev.ite_neg c1 (Ev.now _)))), hi false (by rw [hc1, decide_eq_true c1]; rfl)⟩
    rw [decide_eq_false (fun h => h c1)] at hc1
    by_cases c2 : r2 < 0
    case neg =>
      have h2 : Lib.contains s.data.toList (⟨#[45, 45]⟩ : ByteArray).data.toList = true := by
        cases h : Lib.contains s.data.toList (⟨#[45, 45]⟩ : ByteArray).data.toList with
        | true => rfl
        | false => exact absurd (hc2.mp h) c2
      exact ⟨false, Ev.bind t1 (Ev.ite_pos rfl (Ev.bind f1 (Ev.ite_pos c1 (Ev.bind f2 (Ev.ite_neg c2 (Ev.now _)))))), hi false (by rw [hc1, h2]; rfl)⟩
    have h2 := hc2.mpr c2
    rcases List.eq_nil_or_concat s.data.toList with hnil | ⟨init, x, hl⟩
    · have h0 : s.toList = [] := by rw [Lib.toList_data]; exact hnil
      exact ⟨true, Ev.bind t1 (Ev.ite_pos rfl (Ev.bind f1 (Ev.ite_pos c1 (Ev.bind f2 (Ev.ite_pos c2 (Ev.ite_pos h0 (Ev.now _))))))), hi true (by rw [hc1, h2, hnil]; rfl)⟩
    · rw [List.concat_eq_append] at hl
      have h0 : ¬ s.toList = [] := by rw [Lib.toList_data, hl]; simp
      have hsz : s.size = init.length + 1 := by
        show s.data.toList.length = _
        rw [hl]; simp
      have hlast : bt s ((init.length : Nat) : Int) = (x.toNat : Int) := by
        rw [bt_list s init.length (by show init.length < s.size; omega)]
        congr 2
        have : s.data.toList[init.length]? = some x := by rw [hl]; simp
        exact (List.getElem?_eq_some_iff.mp this).2
      have hw : wrap64 ((s.size : Int) - 1) = ((init.length : Nat) : Int) := by rw [w64 (by omega) (by omega)]; omega
      have hA : (0 : Int) ≤ ((init.length : Nat) : Int) := Int.natCast_nonneg _
      have hB : ((init.length : Nat) : Int) < (s.size : Int) := by omega
      have hx : (((x.toNat : Int)) != 45) = !(decide (x = 45)) := by
        by_cases h : x = 45
        · subst h; rfl
        · rw [decide_eq_false h]
          show _ = true
          rw [bne_iff_ne]
          intro e
          exact h (UInt8.toNat_inj.mp (by simpa using Int.ofNat_inj.mp (show ((x.toNat : Nat) : Int) = ((45 : Nat) : Int) from e)))
      refine ⟨!(decide (x = 45)), Ev.bind t1 (Ev.ite_pos rfl (Ev.bind f1 (Ev.ite_pos c1 (Ev.bind f2 (Ev.ite_pos c2 (Ev.ite_neg h0 ?_)))))), hi _ (by rw [hc1, h2, hl]; show (!(Lib.hasSuffix (init ++ [x]) [45])) = _; rw [suffix_one])⟩
      simp only [hw, hlast, hx]
      exact Ev.ite_pos hA (Ev.ite_pos hB (Ev.now _))
theorem FnExactNoteOk_all (a0 : ByteArray) : ∃ k, (if (a0.size : Int) > 1048576 then (some true) else ((spec_NoteOk.f k a0).bind fun t => ((impl_NoteOk.f k a0).bind fun u => (if (u != t) = true then (some false) else (some true))))) = some true := by
  by_cases c : (a0.size : Int) > 1048576
  · exact (Ev.ite_pos c (Ev.now _)).rounds
  · obtain ⟨b, h1, h2⟩ := NoteOk_same a0 (by omega)
    exact (Ev.ite_neg c (Ev.bind h1 (Ev.bind h2 (Ev.ite_neg (by simp) (Ev.now _))))).rounds
end Go.Proofs.Ytfjheckgigppiaa.Sg
