/- The program's TextOf and the reference's tell the same. No conditions but the size. -/
import Derived.Test.YtfjheckgigppiaaDoorSignList
import Derived.Test.YtfjheckgigppiaaDoorIsTextBase
import Derived.Test.YtfjheckgigppiaaDoorPn10
import Derived.Test.YtfjheckgigppiaaDoorPn2
set_option linter.unusedVariables false
set_option linter.unusedSimpArgs false
namespace Go.Proofs.YtfjheckgigppiaaDoor.Sg
open Go.RowKit Go.Proofs.YtfjheckgigppiaaDoor.P Go.Proofs.YtfjheckgigppiaaDoor.Evs Go.Proofs.YtfjheckgigppiaaDoorW.PrintWords Go.Proofs.YtfjheckgigppiaaDoorW.PrintLast

theorem TextOf_loop : ∀ (d j : Nat) (l : List Int), l.length ≤ 1048576 → l.length - j = d → j ≤ l.length →
  ∃ t : ByteArray, Ev (fun k => spec_TextOf.l0 k l j) t ∧ Ev (fun k => impl_TextOf.l0 k l l.length j) t ∧ t.size ≤ 4 * l.length := by
 intro d
 induction d with
 | zero =>
  intro j l hl hd hj
  obtain ⟨t, e1, e2, ht⟩ := SignText_same l hl
  refine ⟨t, ?_, ?_, ht⟩
  ·exact Ev.step (fun k => by simp only [spec_TextOf.l0]; rw [if_neg (by omega)]) (Ev.bind e1 (Ev.now _))
  ·exact Ev.step (fun k => by simp only [impl_TextOf.l0]; rw [if_neg (by omega)]) (Ev.bind e2 (Ev.now _))
 | succ d ih =>
  intro j l hl hd hj
  have hjl : j < l.length := by omega
  have hw : wrap64 ((j : Int) + 1) = ((j + 1 : Nat) : Int) := by rw [w64 (by omega) (by omega)]; rfl
  have hset : ∀ v : Int, ∃ t : ByteArray, Ev (fun k => spec_TextOf.l0 k (l.set j v) ((j + 1 : Nat) : Int)) t ∧ Ev (fun k => impl_TextOf.l0 k (l.set j v) l.length ((j + 1 : Nat) : Int)) t ∧ t.size ≤ 4 * l.length := fun v => by
   have h := ih (j + 1) (l.set j v) (by rw [List.length_set]; omega) (by rw [List.length_set]; omega) (by rw [List.length_set]; omega)
   simpa only [List.length_set] using h
  have h1 : ∀ k, spec_TextOf.l0 (k + 1) l j = if l[j] = 12 then spec_TextOf.l0 k (l.set j 32) ((j + 1 : Nat) : Int) else (impl_IsText.f l[j]).bind fun t => if t = true then spec_TextOf.l0 k l ((j + 1 : Nat) : Int) else spec_TextOf.l0 k (l.set j 65533) ((j + 1 : Nat) : Int) := fun k => by
   simp only [spec_TextOf.l0]; rw [if_pos (by omega), if_pos (by omega), rdI l j hjl, IsText_same, hw, Int.toNat_natCast]
  have h2 : ∀ k, impl_TextOf.l0 (k + 1) l l.length j = if l[j] = 12 then impl_TextOf.l0 k (l.set j 32) l.length ((j + 1 : Nat) : Int) else (impl_IsText.f l[j]).bind fun t => if t = true then impl_TextOf.l0 k l l.length ((j + 1 : Nat) : Int) else impl_TextOf.l0 k (l.set j 65533) l.length ((j + 1 : Nat) : Int) := fun k => by
   simp only [impl_TextOf.l0]; rw [if_pos (by omega), if_pos (by omega), if_pos (by omega), rdI l j hjl, hw, Int.toNat_natCast]
  by_cases c : l[j] = 12
  ·obtain ⟨t, e1, e2, ht⟩ := hset 32
   exact ⟨t, Ev.step h1 (Ev.ite_pos c e1), Ev.step h2 (Ev.ite_pos c e2), ht⟩
  ·obtain ⟨q, hq⟩ := IsText_tells l[j]
   by_cases cq : q = true
   ·obtain ⟨t, e1, e2, ht⟩ := ih (j + 1) l hl (by omega) (by omega)
    exact ⟨t, Ev.step h1 (Ev.ite_neg c (Ev.opt hq (Ev.ite_pos cq e1))), Ev.step h2 (Ev.ite_neg c (Ev.opt hq (Ev.ite_pos cq e2))), ht⟩
   ·obtain ⟨t, e1, e2, ht⟩ := hset 65533
    exact ⟨t, Ev.step h1 (Ev.ite_neg c (Ev.opt hq (Ev.ite_neg cq e1))), Ev.step h2 (Ev.ite_neg c (Ev.opt hq (Ev.ite_neg cq e2))), ht⟩
theorem TextOf_same (s : ByteArray) (hs : s.size ≤ 1048576) : ∃ t : ByteArray, Ev (fun k => spec_TextOf.f k s) t ∧ Ev (fun k => impl_TextOf.f k s) t ∧ t.size ≤ 4 * s.size := by
 obtain ⟨l, e1, e2, hl⟩ := Signs_same s hs
 obtain ⟨t, h1, h2, ht⟩ := TextOf_loop l.length 0 l (by omega) (by omega) (by omega)
 exact ⟨t, Ev.bind e1 h1, Ev.bind e2 h2, by omega⟩
end Go.Proofs.YtfjheckgigppiaaDoor.Sg
