-- WRITTEN BY hprint.py, this session's own program, over the kit's printer: not typed by hand; Lean checks it
import Derived.Test.YtfjheckgigppiaaDoorPa0
import Derived.Test.YtfjheckgigppiaaDoorPa2
import Derived.Test.YtfjheckgigppiaaDoorPa15
namespace Go.Proofs.YtfjheckgigppiaaDoor.P
open Go.RowKit Go.Proofs.YtfjheckgigppiaaDoorW.PrintWords Go.Proofs.YtfjheckgigppiaaDoorW.PrintLast Go.Proofs.YtfjheckgigppiaaDoorW.PrintMore
attribute [local go_sem] max2_int min2_int max_two min_two max_three min_three max_four min_four   -- for this text's walks alone
set_option linter.unusedVariables false
set_option linter.unusedSimpArgs false

/-! ### laws_FnExactNoteOf: function 3 (by hand) -/
def laws_FnExactNoteOf.f (k : Nat) (a0 : ByteArray) : Option (Bool) := if (a0.size : Int) > 1048576 then (some true) else ((spec_NoteOf.f k a0).bind fun t => ((impl_NoteOf.f k a0).bind fun u => (if u.toList = t.toList then (some true) else (some false))))
set_option maxHeartbeats 8000000 in
set_option maxRecDepth 100000 in
theorem laws_FnExactNoteOf.calls_m (k : Nat) (a0 : ByteArray) (m : Int) (w : World) (hm : w.cell? ⟨0, 0, none⟩ = some (.int .i64 m)) (h : laws_FnExactNoteOf.f k a0 = some true) :
    Calls Tryd.prog 3 #[.string a0] w fun e w' => e = .returned (.bool true) ∧ Below w.heap.size w w' := by
  have HB := Aside0.mk (Below.refl w.heap.size w)
  have M0 := Aside0.mk hm
  clear hm
  unfold laws_FnExactNoteOf.f at h
  by_cases c2 : (a0.size : Int) > 1048576
  · have c2b0 : decide (1048576 < (a0.size : Int)) = true := decide_eq_true c2
    have c2b1 : decide (1048576 < a0.size) = true := decide_eq_true (by omega)
    clear c2 h
    go_enter Tryd.func3, Tryd.ntmps3
    go_wp2
    go_ret
    exact ⟨rfl, HB.out⟩
  · rw [if_neg c2] at h
    have c2b0 : decide (1048576 < (a0.size : Int)) = false := decide_eq_false c2
    have c2b1 : decide (1048576 < a0.size) = false := decide_eq_false (by omega)
    clear c2
    obtain ⟨t, h1, h⟩ := Option.bind_eq_some_iff.mp h
    obtain ⟨u, h2, h⟩ := Option.bind_eq_some_iff.mp h
    have A1 := Aside0.mk h1
    have A2 := Aside0.mk h2
    clear h1 h2
    by_cases c5 : u.toList = t.toList
    · have c5b0 : (u.toList == t.toList) = true := beq_iff_eq.mpr c5
      have c5b1 : (u.toList != t.toList) = false := bne_eq_false_iff_eq.mpr c5
      clear c5 h
      go_enter Tryd.func3, Tryd.ntmps3
      go_wp2_with (go_at_call 6; (with_reducible refine (spec_NoteOf.calls k a0 t _ A1.out).mono ?_); rintro e w1 ⟨rfl, b1⟩)
      have M1 := Aside0.mk (pw_cell_below b1 M0.out)
      have B1 := Aside0.mk b1
      clear b1
      go_wp2_with (go_at_call 7; (with_reducible refine (impl_NoteOf.calls_m k a0 u m _ M1.out A2.out).mono ?_); rintro e w2 ⟨rfl, b2⟩)
      go_ret
      exact ⟨rfl, below_step B1.out b2⟩
    · rw [if_neg c5] at h
      exact absurd h (by simp)


end Go.Proofs.YtfjheckgigppiaaDoor.P
