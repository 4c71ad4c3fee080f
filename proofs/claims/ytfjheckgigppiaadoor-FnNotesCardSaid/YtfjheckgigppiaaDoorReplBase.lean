/- strings.ReplaceAll of one byte: what each byte becomes, in the text's order. -/
import Derived.Test.YtfjheckgigppiaaDoorEvBase
import Derived.Lib.ReplaceLaws
import Derived.Lib.IndexBytes
set_option linter.unusedVariables false
set_option linter.unusedSimpArgs false
namespace Go.Proofs.YtfjheckgigppiaaDoor.Esc
open Go Go.RowKit

/-! ### strings.ReplaceAll of one byte -/
def one (c : UInt8) (new : List UInt8) (b : UInt8) : List UInt8 := if b = c then new else [b]
theorem skipK (c : UInt8) (new : List UInt8) (b : UInt8) (hb : b ≠ c) (l : List UInt8) : ∀ k, Lib.replaceK [c] new k (b :: l) = b :: Lib.replaceK [c] new k l := by
 intro k
 cases k with
 | zero => rfl
 | succ k =>
  have hi : Lib.index (b :: l) [c] = if Lib.index l [c] == -1 then -1 else Lib.index l [c] + 1 := by
   rw [Lib.index_one, Lib.index_one]
   rw [show Lib.indexByte (b :: l) c = (if (b == c) = true then 0 else if (Lib.indexByte l c == -1) = true then -1 else Lib.indexByte l c + 1) from rfl, if_neg (by simpa using hb)]
  rcases Lib.index_spec l [c] with ⟨h, _⟩ | ⟨i, h, _⟩
  ·have h2 : Lib.index (b :: l) [c] = -1 := by rw [hi, h]; rfl
   simp only [Lib.replaceK, h, h2]
   rfl
  ·have h2 : Lib.index (b :: l) [c] = ((i + 1 : Nat) : Int) := by
    rw [hi, h, if_neg (by rw [beq_iff_eq]; omega)]; rfl
   rw [Lib.replaceK_hit [c] new k (b :: l) (i + 1) h2, Lib.replaceK_hit [c] new k l i h]
   rfl
theorem replaceK_one (c : UInt8) (new : List UInt8) : ∀ l : List UInt8, Lib.replaceK [c] new (Lib.count l [c]) l = l.flatMap (one c new) := by
 intro l
 induction l with
 | nil => rfl
 | cons b l ih =>
  by_cases h : b = c
  ·subst h
   rw [Lib.count_cons_eq, Nat.add_comm 1, Lib.replaceK_hit [b] new _ (b :: l) 0 (by rw [Lib.index_one]; simp [Lib.indexByte])]
   show [] ++ new ++ Lib.replaceK [b] new (Lib.count l [b]) l = _
   rw [ih, List.flatMap_cons]
   simp [one]
  ·rw [Lib.count_cons_ne b c l h, skipK c new b h, ih, List.flatMap_cons]
   simp [one, h]
theorem one_self (c : UInt8) (l : List UInt8) : l.flatMap (one c [c]) = l := by
 induction l with
 | nil => rfl
 | cons b l ih =>
  rw [List.flatMap_cons, ih]
  unfold one
  by_cases h : b = c
  ·rw [if_pos h, h]; rfl
  ·rw [if_neg h]; rfl
theorem replaceAll_one (c : UInt8) (new l : List UInt8) : Lib.replaceAll l [c] new = l.flatMap (one c new) := by
 unfold Lib.replaceAll Lib.replace
 by_cases h : [c] = new
 ·rw [if_pos (by simpa using h), ← h, one_self]
 ·rw [if_neg (by simpa using h)]
  have e : Lib.replaceNum l [c] (-1) = Lib.count l [c] := by
   unfold Lib.replaceNum
   rw [if_pos (Or.inl (by decide))]
  rw [e, replaceK_one]
theorem one_map (c d : UInt8) (l : List UInt8) : l.flatMap (one c [d]) = l.map fun b => if b = c then d else b := by
 induction l with
 | nil => rfl
 | cons b l ih =>
  rw [List.flatMap_cons, ih, List.map_cons]
  unfold one
  by_cases h : b = c
  ·rw [if_pos h, if_pos h]; rfl
  ·rw [if_neg h, if_neg h]; rfl
end Go.Proofs.YtfjheckgigppiaaDoor.Esc
