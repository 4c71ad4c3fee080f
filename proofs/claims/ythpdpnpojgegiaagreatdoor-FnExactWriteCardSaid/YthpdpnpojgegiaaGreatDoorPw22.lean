-- WRITTEN BY hprint.py
import Derived.Test.YthpdpnpojgegiaaGreatDoorPw0
namespace Go.Proofs.YthpdpnpojgegiaaGreatDoor.P
open Go.RowKit Go.Proofs.YthpdpnpojgegiaaGreatDoorW.PrintWords Go.Proofs.YthpdpnpojgegiaaGreatDoorW.PrintLast Go.Proofs.YthpdpnpojgegiaaGreatDoorW.PrintMore
attribute [local go_sem] max2_int min2_int max_two min_two max_three min_three max_four min_four
set_option linter.unusedVariables false
set_option linter.unusedSimpArgs false

/-! ### strings_HasSuffix: function 68 (by hand) -/
theorem bu_HasSuffix (s p : ByteArray) (b : Bool) (w : World) (h : Lib.hasSuffix s.data.toList p.data.toList = b) (hs : s.size ≤ 100000000) :
  Calls Tryz.prog 68 #[.string s, .string p] w fun e w' => e = .returned (.bool b) ∧ w' = w := by
 subst h
 exact Tryz.strings_HasSuffix s p w (by omega)
def strings_HasSuffix.f (a0 a1 : ByteArray) : Option Bool := if a0.size ≤ 100000000 then some (Lib.hasSuffix a0.data.toList a1.data.toList) else none
theorem strings_HasSuffix.calls (a0 a1 : ByteArray) (r : Bool) (w : World) (h : strings_HasSuffix.f a0 a1 = some r) :
  Calls Tryz.prog 68 #[.string a0, .string a1] w fun e w' => e = .returned (.bool r) ∧ Drawn0 w w' := by
 unfold strings_HasSuffix.f at h
 by_cases hs : a0.size ≤ 100000000
 ·rw [if_pos hs] at h
  exact (bu_HasSuffix a0 a1 r w (Option.some.inj h) hs).mono fun e w' ⟨he, hw⟩ => ⟨he, by rw [hw]; exact Drawn0.refl _⟩
 ·rw [if_neg hs] at h; cases h


end Go.Proofs.YthpdpnpojgegiaaGreatDoor.P
