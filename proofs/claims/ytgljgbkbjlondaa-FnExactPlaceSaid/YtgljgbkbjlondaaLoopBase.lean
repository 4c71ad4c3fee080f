/- Loops that go over places and ask something at each: all the same shape. No conditions: over any program. -/
import Derived.Test.YtgljgbkbjlondaaEvBase
set_option linter.unusedVariables false
set_option linter.unusedSimpArgs false
namespace Go.Proofs.Ytgljgbkbjlondaa.Evs
open Go.RowKit Go.Proofs.YtgljgbkbjlondaaW.PrintWords

theorem Ev.all {β : Type} {n : Nat} {g : Nat → Nat → Option β} {e : β} {ok : Nat → Prop} {j0 : Nat} (h0 : j0 ≤ n)
  (yes : ∀ j, j0 ≤ j → j < n → (∀ i, j0 ≤ i → i < j → ok i) → ok j → ∀ r, Ev (fun k => g k (j + 1)) r → Ev (fun k => g k j) r)
  (no : ∀ j, j0 ≤ j → j < n → (∀ i, j0 ≤ i → i < j → ok i) → ¬ ok j → Ev (fun k => g k j) e) :
  ((∀ i, j0 ≤ i → i < n → ok i) → ∀ r, Ev (fun k => g k n) r → Ev (fun k => g k j0) r) ∧ ((¬ ∀ i, j0 ≤ i → i < n → ok i) → Ev (fun k => g k j0) e) := by
 have main : ∀ d j, n - j = d → j0 ≤ j → j ≤ n → (∀ i, j0 ≤ i → i < j → ok i) → ((∀ i, j ≤ i → i < n → ok i) → ∀ r, Ev (fun k => g k n) r → Ev (fun k => g k j) r) ∧ ((¬ ∀ i, j ≤ i → i < n → ok i) → Ev (fun k => g k j) e) := by
  intro d
  induction d with
  | zero =>
   intro j hd _ hj _
   obtain rfl : j = n := by omega
   exact ⟨fun _ r h => h, fun h => absurd (fun i h1 h2 => absurd h2 (by omega)) h⟩
  | succ d ih =>
   intro j hd h1 hj hb
   by_cases c : ok j
   ·have hb2 : ∀ i, j0 ≤ i → i < j + 1 → ok i := fun i q1 q2 => by
     rcases Nat.lt_or_ge i j with q | q
     ·exact hb i q1 q
     ·obtain rfl : i = j := by omega
      exact c
    obtain ⟨y, x⟩ := ih (j + 1) (by omega) (by omega) (by omega) hb2
    refine ⟨fun hall r hr => yes j h1 (by omega) hb c r (y (fun i q1 q2 => hall i (by omega) q2) r hr), fun hn => yes j h1 (by omega) hb c e (x fun hall => hn fun i q1 q2 => ?_)⟩
    rcases Nat.lt_or_ge j i with q | q
    ·exact hall i (by omega) q2
    ·obtain rfl : i = j := by omega
     exact c
   ·exact ⟨fun hall => absurd (hall j (Nat.le_refl _) (by omega)) c, fun _ => no j h1 (by omega) hb c⟩
 exact main (n - j0) j0 rfl (Nat.le_refl _) h0 (fun i h1 h2 => by omega)
theorem Ev.uniq {α : Type} {g : Nat → Option α} {a b : α} (h1 : Ev g a) (h2 : Ev g b) : a = b := by
 obtain ⟨K1, k1⟩ := h1
 obtain ⟨K2, k2⟩ := h2
 exact Option.some.inj ((k1 (K1 + K2) (by omega)).symm.trans (k2 (K1 + K2) (by omega)))
theorem Ev.cast {α : Type} {g : Nat → Option α} {a b : α} (h : Ev g a) (e : a = b) : Ev g b := e ▸ h
theorem succ64 {j : Nat} (h : j < 9223372036854775807) : wrap64 ((j : Int) + 1) = ((j + 1 : Nat) : Int) := by rw [w64 (by omega) (by omega)]; rfl
end Go.Proofs.Ytgljgbkbjlondaa.Evs
