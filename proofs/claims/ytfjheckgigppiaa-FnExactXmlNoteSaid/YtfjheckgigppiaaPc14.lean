-- WRITTEN BY hprint.py, this session's own program, over the kit's printer: not typed by hand; Lean checks it
import Derived.Test.YtfjheckgigppiaaPc0
namespace Go.Proofs.Ytfjheckgigppiaa.P
open Go.RowKit Go.Proofs.YtfjheckgigppiaaW.PrintWords Go.Proofs.YtfjheckgigppiaaW.PrintLast Go.Proofs.YtfjheckgigppiaaW.PrintMore
attribute [local go_sem] max2_int min2_int max_two min_two max_three min_three max_four min_four   -- for this text's walks alone
set_option linter.unusedVariables false
set_option linter.unusedSimpArgs false

/-! ### strings_HasSuffix: function 41 (by hand) -/
theorem bu_HasSuffix (s p : ByteArray) (b : Bool) (w : World) (h : Lib.hasSuffix s.data.toList p.data.toList = b) (hs : s.size ≤ 100000000) :
    Calls Try.prog 41 #[.string s, .string p] w fun e w' => e = .returned (.bool b) ∧ w' = w := by
  subst h
  exact Try.strings_HasSuffix s p w (by omega)


end Go.Proofs.Ytfjheckgigppiaa.P
