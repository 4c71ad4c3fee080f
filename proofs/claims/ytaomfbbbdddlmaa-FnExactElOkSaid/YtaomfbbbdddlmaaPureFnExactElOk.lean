/- A strict element: the program's ElOk and the reference's tell the same: the pure statement of the law FnExactElOk. No conditions but the row's. -/
import Derived.Test.YtaomfbbbdddlmaaElOkBase
import Derived.Test.YtaomfbbbdddlmaaElTree
import Derived.Test.YtaomfbbbdddlmaaQe32
set_option linter.unusedVariables false
set_option linter.unusedSimpArgs false
namespace Go.Proofs.Ytaomfbbbdddlmaa.Pure
open Go.RowKit Go.Proofs.Ytaomfbbbdddlmaa.P Go.Proofs.Ytaomfbbbdddlmaa.Evs Go.Proofs.Ytaomfbbbdddlmaa.Le Go.Proofs.YtaomfbbbdddlmaaW.PrintWords Go.Proofs.YtaomfbbbdddlmaaW.PrintLast

theorem FnExactElOk : laws_FnExactElOk.Pure := by
  intro n x hx
  suffices h : Ev (fun k => laws_FnExactElOk.f k x.f0 x.f1 x.f2 x.f3 x.f4 x.f5) true from h.rounds
  obtain ⟨t, et, t0, t1, tq⟩ := szEl_tells n x hx 1048576 (by omega) (by omega)
  unfold laws_FnExactElOk.f
  by_cases c : t < 0
  · exact Ev.bind et (Ev.ite_pos c (Ev.const fun _ => rfl))
  · obtain ⟨z, ez, gz⟩ := toEl_tells _ x (tq (by omega))
    obtain ⟨r, e1, e2⟩ := ElOk_same _ z gz (by omega)
    exact Ev.bind et (Ev.ite_neg c (Ev.bind ez (Ev.bind e1 (Ev.bind ez (Ev.bind e2 (Ev.ite_neg (by simp) (Ev.bind ez (Ev.bind (eqEl_self _ z gz) (Ev.ite_pos rfl (Ev.const fun _ => rfl))))))))))
end Go.Proofs.Ytaomfbbbdddlmaa.Pure
