/- Signs of texts: the program's IsText and the reference's tell the same. No conditions. -/
import Derived.Test.YtfjheckgigppiaaDoorSignBase
import Derived.Test.YtfjheckgigppiaaDoorPn1
import Derived.Test.YtfjheckgigppiaaDoorPn3
set_option linter.unusedVariables false
set_option linter.unusedSimpArgs false
namespace Go.Proofs.YtfjheckgigppiaaDoor.Sg
open Go Go.RowKit Go.Proofs.YtfjheckgigppiaaDoor.P Go.Proofs.YtfjheckgigppiaaDoor.Evs Go.Proofs.YtfjheckgigppiaaDoorW.PrintWords Go.Proofs.YtfjheckgigppiaaDoorW.PrintLast

theorem IsText_same (a : Int) : spec_IsText.f a = impl_IsText.f a := rfl
theorem IsText_tells (a : Int) : ∃ b, impl_IsText.f a = some b := by
 unfold impl_IsText.f
 rw [SignOk_tells]
 simp only [Option.bind_some]
 repeat' split
 all_goals exact ⟨_, rfl⟩
end Go.Proofs.YtfjheckgigppiaaDoor.Sg
