-- WRITTEN BY hprint.py, this session's own program, over the kit's printer: not typed by hand; Lean checks it
import Derived.Test.YtgljgbkbjlondaaDoorPt0
import Derived.Test.YtgljgbkbjlondaaDoorPt4
import Derived.Test.YtgljgbkbjlondaaDoorPt12
import Derived.Test.YtgljgbkbjlondaaDoorPt21
namespace Go.Proofs.YtgljgbkbjlondaaDoor.P
open Go.RowKit Go.Proofs.YtgljgbkbjlondaaDoorW.PrintWords Go.Proofs.YtgljgbkbjlondaaDoorW.PrintLast Go.Proofs.YtgljgbkbjlondaaDoorW.PrintMore
attribute [local go_sem] max2_int min2_int max_two min_two max_three min_three max_four min_four   -- for this text's walks alone
set_option linter.unusedVariables false
set_option linter.unusedSimpArgs false

/-! ### laws_FnExactXmlText: function 4 (by hand) -/
def laws_FnExactXmlText.f (k : Nat) (a0 : ByteArray) (a1 : Int) (a2 : ByteArray) : Option (Bool) := if (a0.size : Int) > 1048576 then (some true) else (if (a2.size : Int) > 1048576 then (some true) else ((spec_XmlText.f k a0 a1 a2).bind fun t => ((impl_XmlText.f k a0 a1 a2).bind fun u => (if u.1.toList = t.1.toList then (if u.2 = t.2 then (some true) else (some false)) else (some false)))))
set_option maxHeartbeats 8000000 in
set_option maxRecDepth 100000 in
theorem laws_FnExactXmlText.calls_x (k : Nat) (a0 : ByteArray) (a1 : Int) (a2 : ByteArray) (w : World) (hx : XrW w) (h : laws_FnExactXmlText.f k a0 a1 a2 = some true) :
    Calls Tryd.prog 4 #[.string a0, .int .i64 a1, .string a2] w fun e w' => e = .returned (.bool true) ∧ Below w.heap.size w w' := by
  have HB := Aside0.mk (Below.refl w.heap.size w)
  have M0 := Aside0.mk hx
  clear hx
  unfold laws_FnExactXmlText.f at h
  by_cases c2 : (a0.size : Int) > 1048576
  · have c2b0 : decide (1048576 < (a0.size : Int)) = true := decide_eq_true c2
    have c2b1 : decide (1048576 < a0.size) = true := decide_eq_true (by omega)
    clear c2 h
    go_enter Tryd.func4, Tryd.ntmps4
    go_wp2
    go_ret
    exact ⟨rfl, HB.out⟩
  · rw [if_neg c2] at h
    have c2b0 : decide (1048576 < (a0.size : Int)) = false := decide_eq_false c2
    have c2b1 : decide (1048576 < a0.size) = false := decide_eq_false (by omega)
    clear c2
    by_cases c3 : (a2.size : Int) > 1048576
    · have c3b0 : decide (1048576 < (a2.size : Int)) = true := decide_eq_true c3
      have c3b1 : decide (1048576 < a2.size) = true := decide_eq_true (by omega)
      clear c3 h
      go_enter Tryd.func4, Tryd.ntmps4
      go_wp2
      go_ret
      exact ⟨rfl, HB.out⟩
    rw [if_neg c3] at h
    have c3b0 : decide (1048576 < (a2.size : Int)) = false := decide_eq_false c3
    have c3b1 : decide (1048576 < a2.size) = false := decide_eq_false (by omega)
    clear c3
    obtain ⟨t, h1, h⟩ := Option.bind_eq_some_iff.mp h
    obtain ⟨u, h2, h⟩ := Option.bind_eq_some_iff.mp h
    have A1 := Aside0.mk h1
    have A2 := Aside0.mk h2
    clear h1 h2
    obtain ⟨t1, t2⟩ := t
    obtain ⟨u1, u2⟩ := u
    by_cases c5 : u1.toList = t1.toList
    case neg => rw [if_neg c5] at h; exact absurd h (by simp)
    rw [if_pos c5] at h
    by_cases c6 : u2 = t2
    case neg => rw [if_neg c6] at h; exact absurd h (by simp)
    subst c6
    have c5b0 : (u1.toList == t1.toList) = true := beq_iff_eq.mpr c5
    have c5b1 : (u1.toList != t1.toList) = false := bne_eq_false_iff_eq.mpr c5
    clear c5 h
    go_enter Tryd.func4, Tryd.ntmps4
    go_wp2_with (go_at_call 9; (with_reducible refine (spec_XmlText.calls k a0 a1 a2 t1 u2 _ A1.out).mono ?_); rintro e w1 ⟨rfl, b1⟩)
    have M1 := Aside0.mk (M0.out.below b1)
    have B1 := Aside0.mk b1
    clear b1
    go_wp2_with (go_at_call 10; (with_reducible refine (impl_XmlText.calls_x k a0 a1 a2 u1 u2 _ M1.out A2.out).mono ?_); rintro e w2 ⟨rfl, b2⟩)
    go_ret
    exact ⟨rfl, below_step B1.out b2⟩


end Go.Proofs.YtgljgbkbjlondaaDoor.P
