/- Mild texts and notes: the drawn ones are small; made strict they are strict, a strict one stays, the program's and the reference's tell the same: the pure statement of the law FnMild. No conditions but the row's. -/
import Derived.Test.YtfjheckgigppiaaDoorMildNote
import Derived.Test.YtfjheckgigppiaaDoorMildDraw
import Derived.Test.YtfjheckgigppiaaDoorPm22
set_option linter.unusedVariables false
set_option linter.unusedSimpArgs false
namespace Go.Proofs.YtfjheckgigppiaaDoor.Pure
open Go Go.RowKit Go.Proofs.YtfjheckgigppiaaDoor.P Go.Proofs.YtfjheckgigppiaaDoor.Evs Go.Proofs.YtfjheckgigppiaaDoor.Sg Go.Proofs.YtfjheckgigppiaaDoorW.PrintWords Go.Proofs.YtfjheckgigppiaaDoorW.PrintLast

theorem FnMild_ev (b : List Int) : Ev (fun k => laws_FnMild.f k b) true := by
  unfold laws_FnMild.f
  by_cases c : (b.length : Int) > 1048576
  · exact Ev.opt (show laws_big.f b = some true by unfold laws_big.f; rw [decide_eq_true c]) (Ev.ite_pos rfl (Ev.now _))
  have hbig : laws_big.f b = some false := by unfold laws_big.f; rw [decide_eq_false c]
  obtain ⟨t, ht, d1, d2, d3, d4⟩ := Dr.draws b (by omega)
  obtain ⟨x, x1, x2, x3⟩ := TextOf_strict t (by omega)
  obtain ⟨y, y1, y2, y3⟩ := NoteOf_strict t (by omega)
  obtain ⟨x', sx, ix, _⟩ := TextOf_same t (by omega)
  obtain rfl := Ev.uniq ix x1
  obtain ⟨y', sy, iy⟩ := NoteOf_same t (by omega)
  obtain rfl := Ev.uniq iy y1
  obtain ⟨p, p1, p2⟩ := TextOk_same t (by omega)
  obtain ⟨q, q1, q2⟩ := NoteOk_same t (by omega)
  have xs := TextOf_stays x' (by omega) x2
  have ys := NoteOf_stays y' (by omega) y2
  have last : Ev (fun k => (impl_TextOf.f k x').bind fun t313 => (if t313.toList = x'.toList then ((impl_NoteOf.f k y').bind fun t314 => (some (t314.toList == y'.toList))) else (some false))) true :=
    Ev.bind xs (Ev.ite_pos rfl (Ev.bind ys (by rw [beq_self_eq_true]; exact Ev.now _)))
  have noted : Ev (fun k => (impl_NoteOk.f k t).bind fun t312 => (if t312 = true then (if y'.toList = t.toList then ((impl_TextOf.f k x').bind fun t313 => (if t313.toList = x'.toList then ((impl_NoteOf.f k y').bind fun t314 => (some (t314.toList == y'.toList))) else (some false))) else (some false)) else ((impl_TextOf.f k x').bind fun t315 => (if t315.toList = x'.toList then ((impl_NoteOf.f k y').bind fun t316 => (some (t316.toList == y'.toList))) else (some false))))) true := by
    cases q with
    | true =>
      have := Ev.uniq (NoteOf_stays t (by omega) q2) y1
      exact Ev.bind q2 (Ev.ite_pos rfl (Ev.ite_pos (by rw [← this]) last))
    | false => exact Ev.bind q2 (Ev.ite_neg Bool.false_ne_true last)
  have hj : Ev (fun k => laws_FnMild.j0 k t t x' y' false) true := by
    refine Ev.step (fun k => by simp only [laws_FnMild.j0]; rw [if_neg Bool.false_ne_true]) ?_
    cases p with
    | true =>
      have := Ev.uniq (TextOf_stays t (by omega) p2) x1
      exact Ev.bind p2 (Ev.ite_pos rfl (Ev.ite_pos (by rw [← this]) noted))
    | false => exact Ev.bind p2 (Ev.ite_neg Bool.false_ne_true noted)
  refine Ev.opt hbig (Ev.ite_neg Bool.false_ne_true (Ev.bind d1 (Ev.bind d2 (Ev.bind x1 (Ev.bind y1 (Ev.bind d3 (Ev.bind d4 (Ev.bind sx (Ev.ite_pos rfl (Ev.bind sy (Ev.ite_pos rfl (Ev.bind p2 (Ev.bind p1 (Ev.ite_neg (by simp) (Ev.bind q2 (Ev.bind q1 (Ev.ite_neg (by simp) (Ev.bind x2 (Ev.ite_pos rfl (Ev.bind y2 ?_))))))))))))))))))))
  exact hj
theorem FnMild : laws_FnMild.Pure := fun l0 _ _ _ => (FnMild_ev l0).rounds
end Go.Proofs.YtfjheckgigppiaaDoor.Pure
