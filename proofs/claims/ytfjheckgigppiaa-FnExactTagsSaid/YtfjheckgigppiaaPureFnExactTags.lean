/- The tags of a name: the program's Tags and the reference's tell the same, and what is told is the call's own: the pure statement of the law FnExactTags. No conditions but the row's. -/
import Derived.Test.YtfjheckgigppiaaTagsBase
import Derived.Test.YtfjheckgigppiaaMarkItemBase
import Derived.Test.YtfjheckgigppiaaTreeSmall
import Derived.Test.YtfjheckgigppiaaPg14
set_option linter.unusedVariables false
set_option linter.unusedSimpArgs false
namespace Go.Proofs.Ytfjheckgigppiaa.Pure
open Go.RowKit Go.Proofs.Ytfjheckgigppiaa.P Go.Proofs.Ytfjheckgigppiaa.Evs Go.Proofs.Ytfjheckgigppiaa.It Go.Proofs.Ytfjheckgigppiaa.Tr Go.Proofs.Ytfjheckgigppiaa.Mk Go.Proofs.YtfjheckgigppiaaW.PrintWords Go.Proofs.YtfjheckgigppiaaW.PrintLast

theorem FnExactTags : laws_FnExactTags.Pure := by
 intro n l nm ⟨h1, h2⟩ _
 suffices h : Ev (fun k => laws_FnExactTags.f k l nm) true from h.rounds
 unfold laws_FnExactTags.f
 by_cases c0 : (nm.size : Int) > 1048576
 ·exact Ev.ite_pos c0 (Ev.now _)
 refine Ev.ite_neg c0 ?_
 obtain ⟨t, et, _, _, tq⟩ := szItemS_tells n l 1048576 h1 h2 (by omega) (by omega)
 by_cases c : t < 0
 ·exact Ev.bind et (Ev.ite_pos c (Ev.now _))
 obtain ⟨q1, q2⟩ := tq (by omega)
 obtain ⟨s1, s2⟩ := toItems_small n l q1 q2
 have e2 := toItemS_tells n l q1 q2
 obtain ⟨v, hv, e3, e4⟩ := Tags_same (l.map toI) s1 nm
 have eq1 := eqIntS_self v hv
 obtain ⟨r, em⟩ := markItemS_tells (l.map toI) s1.1 s1.2
 have m1 := markIntS_tells v 1 hv (by omega)
 have m2 := heldIntS_tells 1 v.length hv (by omega)
 refine Ev.bind et (Ev.ite_neg c (Ev.bind e2 (Ev.bind e3 (Ev.bind e2 (Ev.bind e4 (Ev.bind eq1 (Ev.ite_pos rfl (Ev.bind e2 (Ev.bind (eqItemS_self n _ s1.1 s2) (Ev.ite_pos rfl (Ev.bind em (Ev.ite_neg (by omega) (Ev.bind eq1 ?_)))))))))))))
 refine Ev.step (fun k => by simp only [laws_FnExactTags.j0]; rw [if_neg (by decide)]) ?_
 exact Ev.bind m1 (Ev.bind m2 (Ev.ite_neg (by omega) (Ev.ite_pos rfl (Ev.bind e2 (Ev.bind e4 (Ev.bind eq1 (Ev.ite_pos rfl (Ev.bind m2 (Ev.ite_neg (by omega) (Ev.ite_pos rfl (Ev.now _)))))))))))
end Go.Proofs.Ytfjheckgigppiaa.Pure
