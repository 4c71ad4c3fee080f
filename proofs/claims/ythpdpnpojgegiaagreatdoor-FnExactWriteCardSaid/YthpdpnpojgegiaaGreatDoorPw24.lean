-- WRITTEN BY hprint.py
import Derived.Test.YthpdpnpojgegiaaGreatDoorPw0
import Derived.Test.YthpdpnpojgegiaaGreatDoorPw11
namespace Go.Proofs.YthpdpnpojgegiaaGreatDoor.P
open Go.RowKit Go.Proofs.YthpdpnpojgegiaaGreatDoorW.PrintWords Go.Proofs.YthpdpnpojgegiaaGreatDoorW.PrintLast Go.Proofs.YthpdpnpojgegiaaGreatDoorW.PrintMore
attribute [local go_sem] max2_int min2_int max_two min_two max_three min_three max_four min_four
set_option linter.unusedVariables false
set_option linter.unusedSimpArgs false
set_option maxHeartbeats 8000000
set_option maxRecDepth 100000

/-! ### impl_IsLetter: function 85 -/
def impl_IsLetter.f (a0 : Int) : Option (Bool) := (impl_inRange.f a0 97 122).bind fun t364 => (if t364 = true then (some true) else ((impl_inRange.f a0 65 90).bind fun t365 => (some t365)))
theorem impl_IsLetter.calls (a0 : Int) (r : Bool) (w : World) (h : impl_IsLetter.f a0 = some r) :
  Calls Tryz.prog 85 #[.int .i64 a0] w fun e w' => e = .returned (.bool r) ∧ Drawn0 w w' := by
 have H : ((impl_inRange.f a0 97 122).bind fun t364 => (if t364 = true then (some true) else ((impl_inRange.f a0 65 90).bind fun t365 => (some t365)))) = some r := h
 clear h
 replace H := bi_ H; obtain ⟨t364, A2, H⟩ := H
 replace H := ib_ H; rcases H with ⟨rfl, H⟩ | ⟨rfl, H⟩
 ·obtain rfl := Option.some.inj H
  go_enter Tryz.func85, Tryz.ntmps85
  go_wp2_with (first | ((with_reducible refine gf_ 50 ?_); refine gc_ Tryz.func50 (impl_inRange.calls a0 97 122 true _ A2.out) ?_; rintro w' ⟨nd, rfl⟩))
  go_ret
  exact ⟨ab6, by repeat (first | exact Drawn0.refl _ | apply Drawn0.step)⟩
 ·replace H := bi_ H; obtain ⟨t365, A4, H⟩ := H
  obtain rfl := Option.some.inj H
  go_enter Tryz.func85, Tryz.ntmps85
  go_wp2_with (first | ((with_reducible refine gf_ 50 ?_); refine gc_ Tryz.func50 (impl_inRange.calls a0 97 122 false _ A2.out) ?_; rintro w' ⟨nd, rfl⟩) | (go_at_call 50; (with_reducible refine (impl_inRange.calls a0 65 90 t365 _ A4.out).mono ?_); rintro e w' ⟨rfl, ⟨nd, rfl⟩⟩))
  go_ret
  exact ⟨ab6, by repeat (first | exact Drawn0.refl _ | apply Drawn0.step)⟩

end Go.Proofs.YthpdpnpojgegiaaGreatDoor.P
