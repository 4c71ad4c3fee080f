/- The sizes of copied items. No conditions. -/
import Derived.Test.YtgljgbkbjlondaaItemBase
import Derived.Test.YtgljgbkbjlondaaTreeLinks
set_option linter.unusedVariables false
set_option linter.unusedSimpArgs false
namespace Go.Proofs.Ytgljgbkbjlondaa.Tr
open Go.RowKit Go.Proofs.Ytgljgbkbjlondaa.P Go.Proofs.Ytgljgbkbjlondaa.It Go.Proofs.YtgljgbkbjlondaaW.PrintWords

theorem toItems_small (m : Nat) (l : List S47) (h1 : l.length ≤ 1048576) (h2 : ∀ y ∈ l, G47 1048576 m y) : Small (l.map toI) ∧ ∀ y ∈ l.map toI, G50 1048576 m y := by
 have h : ∀ y ∈ l.map toI, G50 1048576 m y := fun y hy => by
  obtain ⟨x, hx, rfl⟩ := List.mem_map.mp hy
  exact toI_good m x (h2 x hx)
 refine ⟨⟨by rw [List.length_map]; exact h1, fun y hy => ?_⟩, h⟩
 obtain ⟨_, _, _, ⟨g3, _⟩, _, _, ⟨g6, _⟩⟩ := h y hy
 exact ⟨g3, g6⟩
end Go.Proofs.Ytgljgbkbjlondaa.Tr
