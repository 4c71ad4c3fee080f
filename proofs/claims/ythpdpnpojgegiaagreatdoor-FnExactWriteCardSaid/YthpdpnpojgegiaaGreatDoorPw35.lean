-- WRITTEN BY hprint.py
import Derived.Test.YthpdpnpojgegiaaGreatDoorPw0
namespace Go.Proofs.YthpdpnpojgegiaaGreatDoor.P
open Go.RowKit Go.Proofs.YthpdpnpojgegiaaGreatDoorW.PrintWords Go.Proofs.YthpdpnpojgegiaaGreatDoorW.PrintLast Go.Proofs.YthpdpnpojgegiaaGreatDoorW.PrintMore
attribute [local go_sem] max2_int min2_int max_two min_two max_three min_three max_four min_four
set_option linter.unusedVariables false
set_option linter.unusedSimpArgs false

/-! ### strings_ReplaceAll: function 54 (by hand) -/
def replB (s old new : ByteArray) : ByteArray := ⟨(Lib.replaceAll s.data.toList old.data.toList new.data.toList).toArray⟩
def repl (s old new : ByteArray) : Option ByteArray := if s.size ≤ 100000000 then some (replB s old new) else none
theorem bu_Replace (s old new r : ByteArray) (m : Int) (w : World) (h : repl s old new = some r) (h1 : old.size = 1) (h6 : new.size ≤ 6) (hm : w.cell? ⟨0, 0, none⟩ = some (.int .i64 m)) :
  Calls Tryz.prog 54 #[.string s, .string old, .string new] w fun e w' => e = .returned (.string r) ∧ Below w.heap.size w w' := by
 unfold repl at h
 by_cases c : s.size ≤ 100000000
 ·rw [if_pos c] at h
  obtain rfl := Option.some.inj h
  have hc : Lib.countB s old * old.size ≤ s.size := Lib.countB_mul_le old (by omega) s.size s (Nat.le_refl _)
  rw [h1, Nat.mul_one] at hc
  exact Tryz.strings_ReplaceAll s old new m w (by omega) hm (by omega) (by have := Nat.mul_le_mul hc h6; omega)
 ·rw [if_neg c] at h; cases h
def strings_ReplaceAll.f (a0 a1 a2 : ByteArray) : Option ByteArray := if a1.size = 1 then (if a2.size ≤ 6 then repl a0 a1 a2 else none) else none
theorem strings_ReplaceAll.calls (a0 a1 a2 : ByteArray) (r : ByteArray) (w : World) (M_ : Int) (hm_ : w.cell? ⟨0, 0, none⟩ = some (.int .i64 M_)) (h : strings_ReplaceAll.f a0 a1 a2 = some r) :
  Calls Tryz.prog 54 #[.string a0, .string a1, .string a2] w fun e w' => e = .returned (.string r) ∧ Below w.heap.size w w' := by
 unfold strings_ReplaceAll.f at h
 by_cases c1 : a1.size = 1
 case neg => rw [if_neg c1] at h; cases h
 rw [if_pos c1] at h
 by_cases c2 : a2.size ≤ 6
 case neg => rw [if_neg c2] at h; cases h
 rw [if_pos c2] at h
 exact bu_Replace a0 a1 a2 r M_ w h c1 c2 hm_


end Go.Proofs.YthpdpnpojgegiaaGreatDoor.P
