/- The texts under an item: the program's Inner and the reference's tell the same: the pure statement of the law FnExactInner. No conditions but the row's. -/
import Derived.Test.YtfjheckgigppiaaInnerBase
import Derived.Test.YtfjheckgigppiaaTreeSmall
import Derived.Test.YtfjheckgigppiaaPi19
set_option linter.unusedVariables false
set_option linter.unusedSimpArgs false
namespace Go.Proofs.Ytfjheckgigppiaa.Pure
open Go.RowKit Go.Proofs.Ytfjheckgigppiaa.P Go.Proofs.Ytfjheckgigppiaa.Evs Go.Proofs.Ytfjheckgigppiaa.It Go.Proofs.Ytfjheckgigppiaa.Tr Go.Proofs.YtfjheckgigppiaaW.PrintWords Go.Proofs.YtfjheckgigppiaaW.PrintLast

theorem FnExactInner : laws_FnExactInner.Pure := by
  intro n l a ⟨h1, h2⟩ _
  suffices h : Ev (fun k => laws_FnExactInner.f k l a) true from h.rounds
  unfold laws_FnExactInner.f
  obtain ⟨t, et, _, _, tq⟩ := szItemS_tells n l 1048576 h1 h2 (by omega) (by omega)
  by_cases c : t < 0
  · exact Ev.bind et (Ev.ite_pos c (Ev.now _))
  obtain ⟨q1, q2⟩ := tq (by omega)
  obtain ⟨s1, s2⟩ := toItems_small n l q1 q2
  have e2 := toItemS_tells n l q1 q2
  obtain ⟨v, e3, e4⟩ := Inner_same (l.map toI) s1 (fun y hy => (s2 y hy).2.2.2.2.1) a
  exact Ev.bind et (Ev.ite_neg c (Ev.bind e2 (Ev.bind e3 (Ev.bind e2 (Ev.bind e4 (Ev.ite_pos rfl (Ev.bind e2 (Ev.bind (eqItemS_self n _ s1.1 s2) (Ev.ite_pos rfl (Ev.now _))))))))))
end Go.Proofs.Ytfjheckgigppiaa.Pure
