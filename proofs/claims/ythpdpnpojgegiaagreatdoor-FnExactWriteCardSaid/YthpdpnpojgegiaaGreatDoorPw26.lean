-- WRITTEN BY hprint.py
import Derived.Test.YthpdpnpojgegiaaGreatDoorPw0
import Derived.Test.YthpdpnpojgegiaaGreatDoorPw24
import Derived.Test.YthpdpnpojgegiaaGreatDoorPw25
namespace Go.Proofs.YthpdpnpojgegiaaGreatDoor.P
open Go.RowKit Go.Proofs.YthpdpnpojgegiaaGreatDoorW.PrintWords Go.Proofs.YthpdpnpojgegiaaGreatDoorW.PrintLast Go.Proofs.YthpdpnpojgegiaaGreatDoorW.PrintMore
attribute [local go_sem] max2_int min2_int max_two min_two max_three min_three max_four min_four
set_option linter.unusedVariables false
set_option linter.unusedSimpArgs false
set_option maxHeartbeats 8000000
set_option maxRecDepth 100000

/-! ### impl_IsFirst: function 69 (by hand) -/
def spansFirst : List (Int × Int) := [(192, 214), (216, 246), (248, 767), (880, 893), (895, 8191), (8204, 8205), (8304, 8591), (11264, 12271), (12289, 55295), (63744, 64975), (65008, 65533), (65536, 983039)]
def impl_IsFirst.f (a0 : Int) : Option Bool := (impl_IsLetter.f a0).bind fun t => if t = true then some true else if a0 = 95 then some true else some (inSp a0 spansFirst)
theorem impl_IsFirst.calls (a0 : Int) (r : Bool) (w : World) (h : impl_IsFirst.f a0 = some r) :
  Calls Tryz.prog 69 #[.int .i64 a0] w fun e w' => e = .returned (.bool r) ∧ Below w.heap.size w w' := by
 have hu := Tryz.underlying93
 have HB := am (Below.refl w.heap.size w)
 obtain ⟨t, hl, H⟩ := Option.bind_eq_some_iff.mp (show (impl_IsLetter.f a0).bind _ = some r from h)
 have A1 := am hl
 clear hl h
 by_cases c1 : t = true
 ·subst c1
  rw [if_pos rfl] at H
  obtain rfl := Option.some.inj H
  clear H
  go_enter Tryz.func69, Tryz.ntmps69
  go_wp2_with (go_at_call 85; (with_reducible refine (impl_IsLetter.calls a0 true _ A1.out).mono ?_); rintro e w' ⟨rfl, ⟨nd, rfl⟩⟩)
  go_ret
  exact ⟨by first | rfl | (simp; done), ab1⟩
 ·replace c1 := Bool.eq_false_iff.mpr c1
  subst c1
  rw [if_neg (by decide)] at H
  by_cases c2 : a0 = 95
  ·rw [if_pos c2] at H
   obtain rfl := Option.some.inj H
   clear H
   have c2b0 : (a0 == 95) = true := beq_iff_eq.mpr c2
   clear c2
   go_enter Tryz.func69, Tryz.ntmps69
   go_wp2_with (go_at_call 85; (with_reducible refine (impl_IsLetter.calls a0 false _ A1.out).mono ?_); rintro e w' ⟨rfl, ⟨nd, rfl⟩⟩)
   go_ret
   exact ⟨by first | rfl | (simp; done), ab1⟩
  ·rw [if_neg c2] at H
   obtain rfl := Option.some.inj H
   clear H
   have c2b0 : (a0 == 95) = false := beq_eq_false_iff_ne.mpr c2
   clear c2
   go_enter Tryz.func69, Tryz.ntmps69
   go_wp2_with (go_at_call 85; (with_reducible refine (impl_IsLetter.calls a0 false _ A1.out).mono ?_); rintro e w' ⟨rfl, ⟨nd, rfl⟩⟩)
   go_wp2_with (go_at_call 86; refine (bu_inSpans a0 _ _ spansFirst _ (by decide) (lit_cells _ spansFirst _ _ _ (by rfl))).mono ?_; rintro e w' ⟨rfl, hb⟩)
   go_ret
   exact ⟨rfl, below_then ((pw_below_drewN HB.out nd).alloc (Nat.le_refl _) _) (by show w.heap.size ≤ (w.heap.push _).size; rw [Array.size_push]; omega) hb⟩


end Go.Proofs.YthpdpnpojgegiaaGreatDoor.P
