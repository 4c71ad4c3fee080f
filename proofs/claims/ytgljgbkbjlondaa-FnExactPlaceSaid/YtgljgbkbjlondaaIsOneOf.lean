/- The program's test by one row of names: what it tells. No conditions but the sizes. -/
import Derived.Test.YtgljgbkbjlondaaEvBase
import Derived.Test.YtgljgbkbjlondaaOneOf
import Derived.Test.YtgljgbkbjlondaaPl10
import Derived.Test.YtgljgbkbjlondaaPl9
set_option linter.unusedVariables false
set_option linter.unusedSimpArgs false
namespace Go.Proofs.Ytgljgbkbjlondaa.Sg
open Go Go.RowKit Go.Proofs.Ytgljgbkbjlondaa.P Go.Proofs.Ytgljgbkbjlondaa.Evs Go.Proofs.YtgljgbkbjlondaaW.PrintWords Go.Proofs.YtgljgbkbjlondaaW.PrintLast

theorem contains_f (a b : ByteArray) (h : a.size ≤ 100000000) : strings_Contains.f a b = some (Lib.contains a.data.toList b.data.toList) := by
 unfold strings_Contains.f; rw [if_pos h]
theorem toList_data (a : ByteArray) : a.toList = a.data.toList := ByteArray.toList_eq a
/-- The program's test by one row of names. -/
theorem isOneOf_tells (a names : ByteArray) (ws : List (List UInt8)) (ha : a.size ≤ 1048576) (hn : names.size ≤ 1048576) (he : names.data.toList ++ [32] = Oo.rows ws) (hw : ∀ w, w ∈ ws → (32 : UInt8) ∉ w) (h0 : [] ∉ ws) :
  impl_isOneOf.f a names = some (ws.any (a.toList == ·)) := by
 unfold impl_isOneOf.f
 rw [contains_f a _ (by omega)]
 by_cases c : a.toList = []
 ·rw [if_pos c, c]
  have : ws.any (([] : List UInt8) == ·) = false := by
   rw [List.any_eq_false]
   intro w hw' q
   have e : [] = w := by simpa using q
   exact h0 (by rw [e]; exact hw')
  rw [this]
 rw [if_neg c, toList_data]
 have hne : a.data.toList ≠ [] := by rw [← toList_data]; exact c
 have h := Oo.is_one_of a.data.toList ws hw hne
 rw [← h]
 simp only [Option.bind_some]
 have s1 : ((⟨#[32]⟩ : ByteArray) ++ names).size = 1 + names.size := by rw [ByteArray.size_append]; rfl
 have s2 : ((⟨#[32]⟩ : ByteArray) ++ a).size = 1 + a.size := by rw [ByteArray.size_append]; rfl
 cases Lib.contains a.data.toList [32] with
 | true => rw [if_pos rfl]; rfl
 | false =>
  rw [if_neg Bool.false_ne_true, if_pos (by omega), if_pos (by omega), if_pos (by omega), if_pos (by omega), contains_f _ _ (by rw [ByteArray.size_append, s1]; show 1 + names.size + 1 ≤ _; omega)]
  simp only [Option.bind_some]
  have e1 : (((⟨#[32]⟩ : ByteArray) ++ names) ++ (⟨#[32]⟩ : ByteArray)).data.toList = 32 :: Oo.rows ws := by
   rw [← he]; simp [ByteArray.data_append]
  have e2 : (((⟨#[32]⟩ : ByteArray) ++ a) ++ (⟨#[32]⟩ : ByteArray)).data.toList = 32 :: (a.data.toList ++ [32]) := by
   simp [ByteArray.data_append]
  rw [e1, e2]; rfl
end Go.Proofs.Ytgljgbkbjlondaa.Sg
