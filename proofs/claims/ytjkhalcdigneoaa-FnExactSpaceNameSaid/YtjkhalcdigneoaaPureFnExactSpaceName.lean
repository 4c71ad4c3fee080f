/- The program's SpaceName and the reference's tell the same text for every number: the pure statement of the law FnExactSpaceName. No conditions. -/
import Derived.Test.YtjkhalcdigneoaaSNx1
namespace Go.Proofs.Ytjkhalcdigneoaa.Pure
open Go.RowKit Go.Proofs.Ytjkhalcdigneoaa.P Go.Proofs.YtjkhalcdigneoaaW.PrintWords Go.Proofs.YtjkhalcdigneoaaW.PrintLast

theorem FnExactSpaceName : laws_FnExactSpaceName.Pure := by
  intro a0 _
  unfold laws_FnExactSpaceName.f
  have h : spec_SpaceName.f a0 = impl_SpaceName.f a0 := rfl
  have h2 : ∃ r, impl_SpaceName.f a0 = some r := by
    unfold impl_SpaceName.f
    repeat' split
    all_goals exact ⟨_, rfl⟩
  obtain ⟨r, hr⟩ := h2
  rw [h, hr]
  simp

end Go.Proofs.Ytjkhalcdigneoaa.Pure
