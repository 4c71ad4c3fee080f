-- WRITTEN BY hprint.py
import Derived.Test.YthpdpnpojgegiaaGreatDoorPw0
import Derived.Test.YthpdpnpojgegiaaGreatDoorPw25
import Derived.Test.YthpdpnpojgegiaaGreatDoorPw26
namespace Go.Proofs.YthpdpnpojgegiaaGreatDoor.P
open Go.RowKit Go.Proofs.YthpdpnpojgegiaaGreatDoorW.PrintWords Go.Proofs.YthpdpnpojgegiaaGreatDoorW.PrintLast Go.Proofs.YthpdpnpojgegiaaGreatDoorW.PrintMore
attribute [local go_sem] max2_int min2_int max_two min_two max_three min_three max_four min_four
set_option linter.unusedVariables false
set_option linter.unusedSimpArgs false
set_option maxHeartbeats 8000000
set_option maxRecDepth 100000

/-! ### impl_IsNext: function 70 (by hand) -/
def spansNext : List (Int × Int) := [(45, 46), (48, 57), (183, 183), (768, 879), (8255, 8256)]
def impl_IsNext.f (a0 : Int) : Option Bool := (impl_IsFirst.f a0).bind fun t => if t = true then some true else some (inSp a0 spansNext)
theorem impl_IsNext.calls (a0 : Int) (r : Bool) (w : World) (h : impl_IsNext.f a0 = some r) :
  Calls Tryz.prog 70 #[.int .i64 a0] w fun e w' => e = .returned (.bool r) ∧ Below w.heap.size w w' := by
 have hu := Tryz.underlying93
 obtain ⟨t, hl, H⟩ := Option.bind_eq_some_iff.mp (show (impl_IsFirst.f a0).bind _ = some r from h)
 have A1 := am hl
 clear hl h
 by_cases c1 : t = true
 ·subst c1
  rw [if_pos rfl] at H
  obtain rfl := Option.some.inj H
  clear H
  go_enter Tryz.func70, Tryz.ntmps70
  go_wp2_with (go_at_call 69; (with_reducible refine (impl_IsFirst.calls a0 true _ A1.out).mono ?_); rintro e w' ⟨rfl, hb1⟩)
  go_ret
  exact ⟨rfl, hb1⟩
 ·replace c1 := Bool.eq_false_iff.mpr c1
  subst c1
  rw [if_neg (by decide)] at H
  obtain rfl := Option.some.inj H
  clear H
  go_enter Tryz.func70, Tryz.ntmps70
  go_wp2_with (go_at_call 69; (with_reducible refine (impl_IsFirst.calls a0 false _ A1.out).mono ?_); rintro e w1 ⟨rfl, hb1⟩)
  go_wp2_with (go_at_call 86; refine (bu_inSpans a0 _ _ spansNext _ (by decide) (lit_cells _ spansNext _ _ _ (by rfl))).mono ?_; rintro e w' ⟨rfl, hb⟩)
  go_ret
  exact ⟨rfl, below_then (hb1.alloc hb1.size _) (by have := hb1.size; show w.heap.size ≤ (w1.heap.push _).size; rw [Array.size_push]; omega) hb⟩


end Go.Proofs.YthpdpnpojgegiaaGreatDoor.P
