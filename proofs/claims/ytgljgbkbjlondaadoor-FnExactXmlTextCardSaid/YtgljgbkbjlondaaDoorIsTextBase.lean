/- Signs of texts: the program's IsText and the reference's tell the same. No conditions. -/
import Derived.Test.YtgljgbkbjlondaaDoorSignBase
import Derived.Test.YtgljgbkbjlondaaDoorPt1
import Derived.Test.YtgljgbkbjlondaaDoorPt13
set_option linter.unusedVariables false
set_option linter.unusedSimpArgs false
namespace Go.Proofs.YtgljgbkbjlondaaDoor.Sg
open Go Go.RowKit Go.Proofs.YtgljgbkbjlondaaDoor.P Go.Proofs.YtgljgbkbjlondaaDoor.Evs Go.Proofs.YtgljgbkbjlondaaDoorW.PrintWords Go.Proofs.YtgljgbkbjlondaaDoorW.PrintLast

theorem IsText_same (a : Int) : spec_IsText.f a = impl_IsText.f a := rfl
theorem IsText_tells (a : Int) : ∃ b, impl_IsText.f a = some b := by
  unfold impl_IsText.f
  rw [SignOk_tells]
  simp only [Option.bind_some]
  repeat' split
  all_goals exact ⟨_, rfl⟩
end Go.Proofs.YtgljgbkbjlondaaDoor.Sg
