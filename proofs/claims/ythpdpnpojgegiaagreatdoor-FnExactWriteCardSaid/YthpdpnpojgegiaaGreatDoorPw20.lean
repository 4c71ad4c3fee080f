-- WRITTEN BY hprint.py
import Derived.Test.YthpdpnpojgegiaaGreatDoorPw0
namespace Go.Proofs.YthpdpnpojgegiaaGreatDoor.P
open Go.RowKit Go.Proofs.YthpdpnpojgegiaaGreatDoorW.PrintWords Go.Proofs.YthpdpnpojgegiaaGreatDoorW.PrintLast Go.Proofs.YthpdpnpojgegiaaGreatDoorW.PrintMore
attribute [local go_sem] max2_int min2_int max_two min_two max_three min_three max_four min_four
set_option linter.unusedVariables false
set_option linter.unusedSimpArgs false

/-! ### strings_Contains: function 67 (by hand) -/
theorem bu_Contains (s sub : ByteArray) (b : Bool) (m : Int) (w : World) (h : Lib.contains s.data.toList sub.data.toList = b) (hs : s.size ≤ 100000000) (hm : w.cell? ⟨0, 0, none⟩ = some (.int .i64 m)) :
  Calls Tryz.prog 67 #[.string s, .string sub] w fun e w' => e = .returned (.bool b) ∧ w' = w := by
 subst h
 exact Tryz.strings_Contains s sub m w (by omega) hm
def strings_Contains.f (a0 a1 : ByteArray) : Option Bool := if a0.size ≤ 100000000 then some (Lib.contains a0.data.toList a1.data.toList) else none
theorem strings_Contains.calls (a0 a1 : ByteArray) (r : Bool) (w : World) (M_ : Int) (hm_ : w.cell? ⟨0, 0, none⟩ = some (.int .i64 M_)) (h : strings_Contains.f a0 a1 = some r) :
  Calls Tryz.prog 67 #[.string a0, .string a1] w fun e w' => e = .returned (.bool r) ∧ Drawn0 w w' := by
 unfold strings_Contains.f at h
 by_cases hs : a0.size ≤ 100000000
 ·rw [if_pos hs] at h
  exact (bu_Contains a0 a1 r M_ w (Option.some.inj h) hs hm_).mono fun e w' ⟨he, hw⟩ => ⟨he, by rw [hw]; exact Drawn0.refl _⟩
 ·rw [if_neg hs] at h; cases h


end Go.Proofs.YthpdpnpojgegiaaGreatDoor.P
