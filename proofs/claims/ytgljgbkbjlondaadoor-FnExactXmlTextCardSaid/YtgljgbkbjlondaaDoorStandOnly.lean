/- A text that stands at a place: the reference's l5Stands and the library's HasPrefix. No conditions but the size. -/
import Derived.Test.YtgljgbkbjlondaaDoorEvBase
import Derived.Lib.IndexMore
import Derived.Lib.IndexBytes
import Derived.Test.YtgljgbkbjlondaaDoorPt1
import Derived.Test.YtgljgbkbjlondaaDoorPt5
set_option linter.unusedVariables false
set_option linter.unusedSimpArgs false
namespace Go.Proofs.YtgljgbkbjlondaaDoor.Sg
open Go Go.RowKit Go.Proofs.YtgljgbkbjlondaaDoor.P Go.Proofs.YtgljgbkbjlondaaDoor.Evs Go.Proofs.YtgljgbkbjlondaaDoorW.PrintWords Go.Proofs.YtgljgbkbjlondaaDoorW.PrintLast

theorem bt_list (s : ByteArray) (j : Nat) (h : j < s.data.toList.length) : bt s (j : Int) = ((s.data.toList[j]).toNat : Int) := by
  have h' : j < s.size := h
  unfold bt
  rw [Int.toNat_natCast, dif_pos h']
  rfl
theorem stands_tells (s t : ByteArray) (j : Nat) (hs : s.size ≤ 1048576) (ht : j + t.size ≤ s.size) : spec_l5Stands.f s j t = some ((s.extract j (j + t.size)).toList == t.toList) := by
  have hw : wrap64 ((j : Int) + (t.size : Int)) = ((j + t.size : Nat) : Int) := by rw [w64 (by omega) (by omega)]; rfl
  unfold spec_l5Stands.f
  rw [hw, if_pos (by omega), if_pos (by omega), if_pos (by omega), Int.toNat_natCast, Int.toNat_natCast]
theorem ba_ext {a b : ByteArray} (h : a.toList = b.toList) : a = b := by
  rw [Lib.toList_data, Lib.toList_data] at h
  exact ByteArray.ext (Array.toList_inj.mp h)
theorem sub_sub (s : ByteArray) (a b c d : Nat) (h : a + d ≤ b) : (s.extract a b).extract c d = s.extract (a + c) (a + d) := by
  apply ba_ext
  rw [Lib.extract_toList, Lib.extract_data, Lib.extract_toList, List.drop_take, List.drop_drop, List.take_take]
  congr 1
  omega
theorem sub_size (s : ByteArray) (a b : Nat) (h : b ≤ s.size) : (s.extract a b).size = b - a := by
  rw [ByteArray.size_extract]; omega
theorem Stands_all (s t : ByteArray) (j : Nat) (hs : s.size ≤ 1048576) (ht : t.size ≤ 1048576) (hj : j ≤ s.size) : spec_l5Stands.f s j t = some (decide (j + t.size ≤ s.size) && ((s.extract j (j + t.size)).toList == t.toList)) := by
  by_cases c : j + t.size ≤ s.size
  · rw [stands_tells s t j hs c, decide_eq_true c, Bool.true_and]
  · have hw : wrap64 ((j : Int) + (t.size : Int)) = ((j + t.size : Nat) : Int) := by rw [w64 (by omega) (by omega)]; rfl
    unfold spec_l5Stands.f
    rw [hw, if_neg (by omega), decide_eq_false c, Bool.false_and]
theorem Prefix_all (q t : ByteArray) : stringslite_HasPrefix.f q t = some (decide (t.size ≤ q.size) && ((q.extract 0 t.size).toList == t.toList)) := by
  unfold stringslite_HasPrefix.f
  by_cases c : t.size ≤ q.size
  · rw [if_pos (by omega), if_pos (by omega), if_pos (by omega), decide_eq_true c, Bool.true_and, Int.toNat_natCast]
  · rw [if_neg (by omega), decide_eq_false c, Bool.false_and]
theorem Prefix_stands (s t : ByteArray) (a : Nat) (hs : s.size ≤ 1048576) (ht : t.size ≤ 1048576) (ha : a ≤ s.size) : stringslite_HasPrefix.f (s.extract a s.size) t = spec_l5Stands.f s a t := by
  rw [Prefix_all, Stands_all s t a hs ht ha, sub_size s a s.size (Nat.le_refl _)]
  by_cases c : a + t.size ≤ s.size
  · rw [decide_eq_true (show t.size ≤ s.size - a by omega), decide_eq_true c, sub_sub s a s.size 0 t.size c, Nat.add_zero]
  · rw [decide_eq_false (show ¬ t.size ≤ s.size - a by omega), decide_eq_false c, Bool.false_and, Bool.false_and]
end Go.Proofs.YtgljgbkbjlondaaDoor.Sg
