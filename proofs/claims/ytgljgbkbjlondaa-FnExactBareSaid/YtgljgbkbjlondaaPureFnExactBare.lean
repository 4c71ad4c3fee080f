/- The names of the tags: the program's Bare and the reference's tell the same, and what is told is the call's own: the pure statement of the law FnExactBare. No conditions but the row's. -/
import Derived.Test.YtgljgbkbjlondaaBareBase
import Derived.Test.YtgljgbkbjlondaaStrRowBase
import Derived.Test.YtgljgbkbjlondaaMarkItemBase
import Derived.Test.YtgljgbkbjlondaaItemBase
import Derived.Test.YtgljgbkbjlondaaPb8
set_option linter.unusedVariables false
set_option linter.unusedSimpArgs false
namespace Go.Proofs.Ytgljgbkbjlondaa.Pure
open Go.RowKit Go.Proofs.Ytgljgbkbjlondaa.P Go.Proofs.Ytgljgbkbjlondaa.Evs Go.Proofs.Ytgljgbkbjlondaa.It Go.Proofs.Ytgljgbkbjlondaa.Mk Go.Proofs.Ytgljgbkbjlondaa.Ba Go.Proofs.YtgljgbkbjlondaaW.PrintWords Go.Proofs.YtgljgbkbjlondaaW.PrintLast

theorem FnExactBare : laws_FnExactBare.Pure := by
 intro n l ⟨h1, h2⟩
 suffices h : Ev (fun k => laws_FnExactBare.f k l) true from h.rounds
 unfold laws_FnExactBare.f
 obtain ⟨t, et, _, _, tq⟩ := szItemS_tells n l 1048576 h1 h2 (by omega) (by omega)
 by_cases c : t < 0
 ·exact Ev.bind et (Ev.ite_pos c (Ev.now _))
 obtain ⟨q1, q2⟩ := tq (by omega)
 have s0 : (l.map toI).length ≤ 1048576 := by rw [List.length_map]; exact q1
 have s2 : ∀ y ∈ l.map toI, G50 1048576 n y := fun y hy => by
  obtain ⟨x, hx, rfl⟩ := List.mem_map.mp hy
  exact toI_good n x (q2 x hx)
 have e2 := toItemS_tells n l q1 q2
 obtain ⟨v, hv, e3, e4⟩ := Bare_same (l.map toI) s0
 have eq1 := eqStringS_self v hv
 obtain ⟨r, em⟩ := markItemS_tells (l.map toI) s0 (fun y hy => by
  obtain ⟨_, _, _, ⟨g3, _⟩, _, _, ⟨g6, _⟩⟩ := s2 y hy
  exact ⟨g3, g6⟩)
 have m1 := markStringS_tells v 1 hv (by omega)
 have m2 := heldStringS_tells 1 v.length hv (by omega)
 refine Ev.bind et (Ev.ite_neg c (Ev.bind e2 (Ev.bind e3 (Ev.bind e2 (Ev.bind e4 (Ev.bind eq1 (Ev.ite_pos rfl (Ev.bind e2 (Ev.bind (eqItemS_self n _ s0 s2) (Ev.ite_pos rfl (Ev.bind em (Ev.ite_neg (by omega) (Ev.bind eq1 ?_)))))))))))))
 refine Ev.step (fun k => by simp only [laws_FnExactBare.j0]; rw [if_neg (by decide)]) ?_
 exact Ev.bind m1 (Ev.bind m2 (Ev.ite_neg (by omega) (Ev.ite_pos rfl (Ev.bind e2 (Ev.bind e4 (Ev.bind eq1 (Ev.ite_pos rfl (Ev.bind m2 (Ev.ite_neg (by omega) (Ev.ite_pos rfl (Ev.now _)))))))))))
end Go.Proofs.Ytgljgbkbjlondaa.Pure
