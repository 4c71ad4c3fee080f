/- The program's NameOf and the reference's tell the same: the pure statement of the law FnExactNameOf. No conditions but the row's. -/
import Derived.Test.YtjkhalcdigneoaaNameBase
import Derived.Test.YtjkhalcdigneoaaPm17
namespace Go.Proofs.Ytjkhalcdigneoaa.Pure
open Go.RowKit Go.Proofs.Ytjkhalcdigneoaa Go.Proofs.Ytjkhalcdigneoaa.P Go.Proofs.Ytjkhalcdigneoaa.Evs Go.Proofs.Ytjkhalcdigneoaa.Sg Go.Proofs.YtjkhalcdigneoaaW.PrintWords Go.Proofs.YtjkhalcdigneoaaW.PrintLast

theorem FnExactNameOf : laws_FnExactNameOf.Pure := by
  intro s _
  unfold laws_FnExactNameOf.f
  by_cases c : (s.size : Int) > 1048576
  · exact (Ev.ite_pos c (Ev.now _)).rounds
  · obtain ⟨t, h1, h2, _⟩ := NameOf_same s (by omega)
    exact (Ev.ite_neg c (Ev.bind h1 (Ev.bind h2 (Ev.ite_pos rfl (Ev.now _))))).rounds
end Go.Proofs.Ytjkhalcdigneoaa.Pure
