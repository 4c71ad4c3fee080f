/- The program's TextOk and the reference's tell the same. No conditions but the size. -/
import Derived.Test.YtfjheckgigppiaaDoorCleanBase
import Derived.Test.YtfjheckgigppiaaDoorIsTextBase
import Derived.Test.YtfjheckgigppiaaDoorPn16
import Derived.Test.YtfjheckgigppiaaDoorPn23
set_option linter.unusedVariables false
set_option linter.unusedSimpArgs false
namespace Go.Proofs.YtfjheckgigppiaaDoor.Sg
open Go.RowKit Go.Proofs.YtfjheckgigppiaaDoor.P Go.Proofs.YtfjheckgigppiaaDoor.Evs Go.Proofs.YtfjheckgigppiaaDoorW.PrintWords Go.Proofs.YtfjheckgigppiaaDoorW.PrintLast

theorem TextOk_loop (s : ByteArray) (l : List Int) (hs : s.size ≤ 1048576) (hl : l.length ≤ 1048576) : ∀ (d j : Nat), l.length - j = d → j ≤ l.length →
  ∃ b, Ev (fun k => spec_TextOk.l0 k s l j) b ∧ Ev (fun k => impl_TextOk.l0 k s l l.length j) b := by
 intro d
 induction d with
 | zero =>
  intro j hd hj
  obtain ⟨b, e1, e2⟩ := CleanOk_same s hs
  refine ⟨b, ?_, ?_⟩
  ·exact Ev.step (fun k => by simp only [spec_TextOk.l0]; rw [if_neg (by omega)]) (Ev.bind e1 (Ev.now _))
  ·exact Ev.step (fun k => by simp only [impl_TextOk.l0]; rw [if_neg (by omega)]) (Ev.bind e2 (Ev.now _))
 | succ d ih =>
  intro j hd hj
  have hjl : j < l.length := by omega
  obtain ⟨t, ht⟩ := IsText_tells l[j]
  obtain ⟨b, e1, e2⟩ := ih (j + 1) (by omega) (by omega)
  have hw : wrap64 ((j : Int) + 1) = ((j + 1 : Nat) : Int) := by rw [w64 (by omega) (by omega)]; rfl
  have h1 : ∀ k, spec_TextOk.l0 (k + 1) s l j = if t = true then spec_TextOk.l0 k s l ((j + 1 : Nat) : Int) else some false := fun k => by
   simp only [spec_TextOk.l0]; rw [if_pos (by omega), if_pos (by omega), rdI l j hjl, IsText_same, ht, hw]; rfl
  have h2 : ∀ k, impl_TextOk.l0 (k + 1) s l l.length j = if t = true then impl_TextOk.l0 k s l l.length ((j + 1 : Nat) : Int) else some false := fun k => by
   simp only [impl_TextOk.l0]; rw [if_pos (by omega), if_pos (by omega), if_pos (by omega), rdI l j hjl, ht, hw]; rfl
  by_cases c : t = true
  ·exact ⟨b, Ev.step h1 (Ev.ite_pos c e1), Ev.step h2 (Ev.ite_pos c e2)⟩
  ·exact ⟨false, Ev.step h1 (Ev.ite_neg c (Ev.now _)), Ev.step h2 (Ev.ite_neg c (Ev.now _))⟩
theorem TextOk_same (s : ByteArray) (hs : s.size ≤ 1048576) : ∃ b, Ev (fun k => spec_TextOk.f k s) b ∧ Ev (fun k => impl_TextOk.f k s) b := by
 obtain ⟨l, e1, e2, hl⟩ := Signs_same s hs
 obtain ⟨b, h1, h2⟩ := TextOk_loop s l hs (by omega) l.length 0 (by omega) (by omega)
 exact ⟨b, Ev.bind e1 h1, Ev.bind e2 h2⟩
end Go.Proofs.YtfjheckgigppiaaDoor.Sg
