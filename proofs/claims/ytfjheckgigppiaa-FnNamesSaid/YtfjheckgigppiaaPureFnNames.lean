/- Any drawn name made strict is strict, and one that is strict stays: the pure statement of the law FnNames. No conditions but the row's. -/
import Derived.Test.YtfjheckgigppiaaDrawAll
import Derived.Test.YtfjheckgigppiaaRoundAll
import Derived.Test.YtfjheckgigppiaaPf12
import Derived.Test.YtfjheckgigppiaaPf16
import Derived.Test.YtfjheckgigppiaaPf2
namespace Go.Proofs.Ytfjheckgigppiaa.Pure
open Go Go.RowKit Go.Proofs.Ytfjheckgigppiaa Go.Proofs.Ytfjheckgigppiaa.P Go.Proofs.Ytfjheckgigppiaa.Evs Go.Proofs.Ytfjheckgigppiaa.Sg Go.Proofs.Ytfjheckgigppiaa.Dr Go.Proofs.YtfjheckgigppiaaW.PrintWords Go.Proofs.YtfjheckgigppiaaW.PrintLast

theorem Drawn (b : List Int) (hb : b.length ≤ 1048576) : ∃ s : ByteArray, Ev (fun k => spec_DrawNameOf.f k b) s ∧ Ev (fun k => spec_DrawNameOk.f k b) s ∧ s.size ≤ 20 := by
  obtain ⟨h, e⟩ := New_tells b hb
  obtain ⟨t, i', h', e2, ht, _, _⟩ := Draw13_tells b 0 h hb (by omega) (by omega)
  unfold spec_DrawNameOf.f spec_DrawNameOk.f
  exact ⟨t, Ev.bind e (Ev.bind e2 (Ev.now _)), Ev.bind e (Ev.bind e2 (Ev.now _)), ht⟩
theorem FnNames : laws_FnNames.Pure := by
  intro b _ _ _
  suffices h : Ev (fun k => laws_FnNames.f k b) true from h.rounds
  unfold laws_FnNames.f laws_big.f
  by_cases c : (b.length : Int) > 1048576
  · exact Ev.opt (congrArg some (decide_eq_true c)) (Ev.ite_pos rfl (Ev.now _))
  obtain ⟨s, es, et, hs⟩ := Drawn b (by omega)
  obtain ⟨n, en, en2, hn⟩ := NameOf_same s (by omega)
  obtain ⟨n2, en3, eok⟩ := NameOf_strict s (by omega)
  obtain rfl : n2 = n := Ev.uniq en3 en2
  obtain ⟨x, ex, ex2⟩ := NameOk_same s (by omega)
  refine Ev.opt (congrArg some (decide_eq_false c)) (Ev.ite_neg Bool.false_ne_true (Ev.bind es (Ev.bind en2 (Ev.bind et (Ev.bind en (Ev.ite_pos rfl ?_))))))
  refine Ev.bind ex2 (Ev.bind ex (Ev.ite_neg (by cases x <;> decide) (Ev.bind eok (Ev.ite_pos rfl (Ev.bind ex2 ?_)))))
  cases x with
  | false => exact Ev.ite_neg Bool.false_ne_true (Ev.now _)
  | true =>
    have e5 := Ev.uniq (NameOf_stays s (by omega) ex2) en2
    subst e5
    exact Ev.ite_pos rfl (Ev.const fun _ => by simp)
end Go.Proofs.Ytfjheckgigppiaa.Pure
