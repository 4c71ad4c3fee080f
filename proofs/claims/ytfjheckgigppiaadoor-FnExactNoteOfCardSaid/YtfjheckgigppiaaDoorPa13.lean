-- WRITTEN BY hprint.py, this session's own program, over the kit's printer: not typed by hand; Lean checks it
import Derived.Test.YtfjheckgigppiaaDoorPa0
namespace Go.Proofs.YtfjheckgigppiaaDoor.P
open Go.RowKit Go.Proofs.YtfjheckgigppiaaDoorW.PrintWords Go.Proofs.YtfjheckgigppiaaDoorW.PrintLast Go.Proofs.YtfjheckgigppiaaDoorW.PrintMore
attribute [local go_sem] max2_int min2_int max_two min_two max_three min_three max_four min_four   -- for this text's walks alone
set_option linter.unusedVariables false
set_option linter.unusedSimpArgs false

/-! ### strings_ReplaceAll: function 20 (by hand) -/
def replB (s old new : ByteArray) : ByteArray := ⟨(Lib.replaceAll s.data.toList old.data.toList new.data.toList).toArray⟩
def repl (s old new : ByteArray) : Option ByteArray := if s.size ≤ 100000000 then some (replB s old new) else none
theorem bu_Replace (s old new r : ByteArray) (m : Int) (w : World) (h : repl s old new = some r) (h1 : old.size = 1) (h6 : new.size ≤ 6) (hm : w.cell? ⟨0, 0, none⟩ = some (.int .i64 m)) :
    Calls Tryd.prog 20 #[.string s, .string old, .string new] w fun e w' => e = .returned (.string r) ∧ Below w.heap.size w w' := by
  unfold repl at h
  by_cases c : s.size ≤ 100000000
  · rw [if_pos c] at h
    obtain rfl := Option.some.inj h
    have hc : Lib.countB s old * old.size ≤ s.size := Lib.countB_mul_le old (by omega) s.size s (Nat.le_refl _)
    rw [h1, Nat.mul_one] at hc
    exact Tryd.strings_ReplaceAll s old new m w (by omega) hm (by omega) (by have := Nat.mul_le_mul hc h6; omega)
  · rw [if_neg c] at h; cases h


end Go.Proofs.YtfjheckgigppiaaDoor.P
