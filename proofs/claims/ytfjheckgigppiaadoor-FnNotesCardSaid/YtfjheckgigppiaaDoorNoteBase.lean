/- The program's NoteOk (by strings.Contains, HasSuffix) and the reference's (by its own searches) tell the same. No conditions but the size. -/
import Derived.Test.YtfjheckgigppiaaDoorTextBase
import Derived.Test.YtfjheckgigppiaaDoorFindBase
import Derived.Test.YtfjheckgigppiaaDoorPn20
import Derived.Test.YtfjheckgigppiaaDoorPn23
set_option linter.unusedVariables false
set_option linter.unusedSimpArgs false
namespace Go.Proofs.YtfjheckgigppiaaDoor.Sg
open Go Go.RowKit Go.Proofs.YtfjheckgigppiaaDoor.P Go.Proofs.YtfjheckgigppiaaDoor.Evs Go.Proofs.YtfjheckgigppiaaDoorW.PrintWords Go.Proofs.YtfjheckgigppiaaDoorW.PrintLast

theorem NoteOk_same (s : ByteArray) (hs : s.size ≤ 1048576) : ∃ b, Ev (fun k => spec_NoteOk.f k s) b ∧ Ev (fun k => impl_NoteOk.f k s) b := by
 obtain ⟨t, t1, t2⟩ := TextOk_same s hs
 obtain ⟨r1, f1, hr1⟩ := Find_some s 13 hs s.size 0 (by omega) (by omega)
 obtain ⟨r2, f2, hr2⟩ := Search_some s (⟨#[45, 45]⟩ : ByteArray) hs (by decide) (s.size + 1) 0 (by omega) (by omega)
 rw [List.drop_zero] at hr1
 replace f1 : Ev (fun k => spec_l4Find.f k s 0 13) r1 := f1
 replace f2 : Ev (fun k => spec_l5Search.f k s 0 (⟨#[45, 45]⟩ : ByteArray)) r2 := f2
 have hc2 := contains_tells s (⟨#[45, 45]⟩ : ByteArray)
 rw [← hr2] at hc2
 have hc1 : Lib.contains s.data.toList (⟨#[13]⟩ : ByteArray).data.toList = decide (¬ r1 < 0) := by
  show Lib.contains s.data.toList [13] = _
  rw [contains_one, decide_eq_decide, hr1, Classical.not_not]
 have hi : ∀ (b : Bool), (t && !(Lib.contains s.data.toList (⟨#[13]⟩ : ByteArray).data.toList) && !(Lib.contains s.data.toList (⟨#[45, 45]⟩ : ByteArray).data.toList) && !(Lib.hasSuffix s.data.toList (⟨#[45]⟩ : ByteArray).data.toList)) = b → Ev (fun k => impl_NoteOk.f k s) b := fun b hb => by
  unfold impl_NoteOk.f
  subst hb
  exact Ev.ite_pos (by omega) (Ev.bind t2 (Ev.now _))
 unfold spec_NoteOk.f
 cases t with
 | false => exact ⟨false, Ev.bind t1 (Ev.ite_neg (by decide) (Ev.now _)), hi false rfl⟩
 | true =>
  by_cases c1 : r1 < 0
  case neg => exact ⟨false, Ev.bind t1 (Ev.ite_pos rfl (Ev.bind f1 (Ev.ite_neg c1 (Ev.now _)))), hi false (by rw [hc1, decide_eq_true c1]; rfl)⟩
  rw [decide_eq_false (fun h => h c1)] at hc1
  by_cases c2 : r2 < 0
  case neg =>
   have h2 : Lib.contains s.data.toList (⟨#[45, 45]⟩ : ByteArray).data.toList = true := by
    cases h : Lib.contains s.data.toList (⟨#[45, 45]⟩ : ByteArray).data.toList with
    | true => rfl
    | false => exact absurd (hc2.mp h) c2
   exact ⟨false, Ev.bind t1 (Ev.ite_pos rfl (Ev.bind f1 (Ev.ite_pos c1 (Ev.bind f2 (Ev.ite_neg c2 (Ev.now _)))))), hi false (by rw [hc1, h2]; rfl)⟩
  have h2 := hc2.mpr c2
  rcases List.eq_nil_or_concat s.data.toList with hnil | ⟨init, x, hl⟩
  ·have h0 : s.toList = [] := by rw [Lib.toList_data]; exact hnil
   exact ⟨true, Ev.bind t1 (Ev.ite_pos rfl (Ev.bind f1 (Ev.ite_pos c1 (Ev.bind f2 (Ev.ite_pos c2 (Ev.ite_pos h0 (Ev.now _))))))), hi true (by rw [hc1, h2, hnil]; rfl)⟩
  ·rw [List.concat_eq_append] at hl
   have h0 : ¬ s.toList = [] := by rw [Lib.toList_data, hl]; simp
   have hsz : s.size = init.length + 1 := by
    show s.data.toList.length = _
    rw [hl]; simp
   have hlast : bt s ((init.length : Nat) : Int) = (x.toNat : Int) := by
    rw [bt_list s init.length (by show init.length < s.size; omega)]
    congr 2
    have : s.data.toList[init.length]? = some x := by rw [hl]; simp
    exact (List.getElem?_eq_some_iff.mp this).2
   have hw : wrap64 ((s.size : Int) - 1) = ((init.length : Nat) : Int) := by rw [w64 (by omega) (by omega)]; omega
   have hA : (0 : Int) ≤ ((init.length : Nat) : Int) := Int.natCast_nonneg _
   have hB : ((init.length : Nat) : Int) < (s.size : Int) := by omega
   have hx : (((x.toNat : Int)) != 45) = !(decide (x = 45)) := by
    by_cases h : x = 45
    ·subst h; rfl
    ·rw [decide_eq_false h]
     show _ = true
     rw [bne_iff_ne]
     intro e
     exact h (UInt8.toNat_inj.mp (by simpa using Int.ofNat_inj.mp (show ((x.toNat : Nat) : Int) = ((45 : Nat) : Int) from e)))
   refine ⟨!(decide (x = 45)), Ev.bind t1 (Ev.ite_pos rfl (Ev.bind f1 (Ev.ite_pos c1 (Ev.bind f2 (Ev.ite_pos c2 (Ev.ite_neg h0 ?_)))))), hi _ (by rw [hc1, h2, hl]; show (!(Lib.hasSuffix (init ++ [x]) [45])) = _; rw [suffix_one])⟩
   simp only [hw, hlast, hx]
   exact Ev.ite_pos hA (Ev.ite_pos hB (Ev.now _))
theorem FnExactNoteOk_all (a0 : ByteArray) : ∃ k, (if (a0.size : Int) > 1048576 then (some true) else ((spec_NoteOk.f k a0).bind fun t => ((impl_NoteOk.f k a0).bind fun u => (if (u != t) = true then (some false) else (some true))))) = some true := by
 by_cases c : (a0.size : Int) > 1048576
 ·exact (Ev.ite_pos c (Ev.now _)).rounds
 ·obtain ⟨b, h1, h2⟩ := NoteOk_same a0 (by omega)
  exact (Ev.ite_neg c (Ev.bind h1 (Ev.bind h2 (Ev.ite_neg (by simp) (Ev.now _))))).rounds
end Go.Proofs.YtfjheckgigppiaaDoor.Sg
