/- Notes: a drawn text made a note reads back, whole and to its end: the pure statement of the law FnNotes. No conditions but the row's. -/
import Derived.Test.YtfjheckgigppiaaDoorMildNote
import Derived.Test.YtfjheckgigppiaaDoorMildDrawN
import Derived.Test.YtfjheckgigppiaaDoorStandBase
import Derived.Test.YtfjheckgigppiaaDoorPn21
import Derived.Test.YtfjheckgigppiaaDoorPn22
import Derived.Test.YtfjheckgigppiaaDoorPn23
import Derived.Test.YtfjheckgigppiaaDoorPn3
set_option linter.unusedVariables false
set_option linter.unusedSimpArgs false
namespace Go.Proofs.YtfjheckgigppiaaDoor.Pure
open Go Go.RowKit Go.Proofs.YtfjheckgigppiaaDoor.P Go.Proofs.YtfjheckgigppiaaDoor.Evs Go.Proofs.YtfjheckgigppiaaDoor.Sg Go.Proofs.YtfjheckgigppiaaDoorW.PrintWords Go.Proofs.YtfjheckgigppiaaDoorW.PrintLast

theorem index_after (R T : List UInt8) (hf : ∀ (i : Nat) (h : i < R.length), R[i] = 45 → ∃ h : i + 1 < R.length, ¬ R[i + 1] = 45) : Lib.index (R ++ 45 :: 45 :: T) [45, 45] = (R.length : Int) := by
 have ho : Lib.occAt (R ++ 45 :: 45 :: T) [45, 45] R.length = true := by
  unfold Lib.occAt
  rw [List.drop_left]
  simp
 rcases Lib.index_spec (R ++ 45 :: 45 :: T) [45, 45] with ⟨_, hn⟩ | ⟨i, h, hi, h1, hno⟩
 ·rw [hn R.length (by rw [List.length_append]; omega)] at ho
  cases ho
 ·rw [h]
  rcases Nat.lt_trichotomy i R.length with c | c | c
  ·unfold Lib.occAt at h1
   rw [List.isPrefixOf_iff_prefix] at h1
   obtain ⟨t, ht⟩ := h1
   have e0 : (R ++ 45 :: 45 :: T)[i]? = some 45 := by
    have := congrArg (fun l => l[0]?) ht
    simpa [List.getElem?_drop] using this.symm
   have e1 : (R ++ 45 :: 45 :: T)[i + 1]? = some 45 := by
    have := congrArg (fun l => l[1]?) ht
    simpa [List.getElem?_drop] using this.symm
   rw [List.getElem?_append_left c, List.getElem?_eq_getElem c] at e0
   obtain ⟨q1, q2⟩ := hf i c (Option.some.inj e0)
   rw [List.getElem?_append_left q1, List.getElem?_eq_getElem q1] at e1
   exact absurd (Option.some.inj e1) q2
  ·rw [c]
  ·rw [hno R.length c] at ho
   cases ho
theorem fine_u (s : ByteArray) (hf : fine (bytesOf s)) : ∀ (i : Nat) (h : i < s.data.toList.length), s.data.toList[i] = 45 → ∃ h : i + 1 < s.data.toList.length, ¬ s.data.toList[i + 1] = 45 := by
 intro i h e
 have hlen : (bytesOf s).length = s.data.toList.length := by unfold bytesOf; rw [List.length_map]
 have hg : ∀ (j : Nat) (h : j < s.data.toList.length) (h' : j < (bytesOf s).length), (bytesOf s)[j]'h' = ((s.data.toList[j]).toNat : Int) := fun j h h' => by simp [bytesOf]
 have hi' : i < (bytesOf s).length := by rw [hlen]; exact h
 obtain ⟨q1, q2⟩ := fine_get _ hf i hi' (by rw [hg i h hi', e]; rfl)
 have q1' := q1
 rw [hlen] at q1'
 exact ⟨q1', fun e2 => q2 (by rw [hg (i + 1) q1' q1, e2]; rfl)⟩
theorem wsum (n : Int) (h0 : 0 ≤ n) (h1 : n ≤ 100000) : wrap64 (wrap64 (wrap64 (0 + 4) + n) + 3) = wrap64 (n + 7) := by unfold wrap64; omega
theorem XmlNote_made (r s : ByteArray) (hs : s.data.toList = [60, 33, 45, 45] ++ (r.data.toList ++ [45, 45, 62, 120])) (hr : r.size ≤ 100000) (hk : Ev (fun k => impl_NoteOk.f k r) true) (hf : fine (bytesOf r)) :
  Ev (fun k => impl_XmlNote.f k s 0) (r, wrap64 ((r.size : Int) + 7)) := by
 have hrl : r.data.toList.length = r.size := rfl
 have hsl : s.data.toList.length = s.size := rfl
 have hsz : s.size = r.size + 8 := by rw [← hsl, hs, List.length_append, List.length_append, hrl]; show 4 + (r.size + 4) = _; omega
 have hw : wrap64 ((s.size : Int) - 1) = (s.size : Int) - 1 := by rw [w64 (by omega) (by omega)]
 have hin : impl_inRange.f 0 0 (wrap64 ((s.size : Int) - 1)) = some true := by
  unfold impl_inRange.f
  rw [hw]
  rw [if_pos (by omega), decide_eq_true (by omega)]
 have hex : s.extract (0 : Int).toNat s.size = s := by
  apply ba_ext
  rw [Lib.extract_toList, Lib.toList_data]
  show (s.data.toList.drop 0).take (s.size - 0) = _
  rw [List.drop_zero, Nat.sub_zero, ← hsl, List.take_length]
 have h4 : (s.extract 0 4).toList = [60, 33, 45, 45] := by
  rw [Lib.extract_toList, hs]; rfl
 have hz : (s.extract 4 s.size).data.toList = r.data.toList ++ [45, 45, 62, 120] := by
  rw [Lib.extract_data, hs]
  show (r.data.toList ++ [45, 45, 62, 120]).take (s.size - 4) = _
  rw [List.take_of_length_le (by simp; omega)]
 have hcut : strings_CutPrefix.f (s.extract (0 : Int).toNat s.size) (⟨#[60, 33, 45, 45]⟩ : ByteArray) = some (s.extract 4 s.size, true) := by
  have hp : stringslite_HasPrefix.f s (⟨#[60, 33, 45, 45]⟩ : ByteArray) = some true := by
   rw [Prefix_all]
   show some (decide (4 ≤ s.size) && ((s.extract 0 4).toList == _)) = _
   rw [decide_eq_true (by omega), h4, Lib.toList_data]; rfl
  unfold strings_CutPrefix.f stringslite_CutPrefix.f
  rw [hex, hp]
  simp only [Option.bind_some]
  rw [if_pos trivial]
  show Option.bind (if (0 : Int) ≤ ((4 : Nat) : Int) then (if ((4 : Nat) : Int) ≤ (s.size : Int) then some (s.extract 4 s.size, true) else none) else none) _ = _
  rw [if_pos (by omega), if_pos (by omega)]
  rfl
 generalize s.extract 4 s.size = z at hz hcut
 have hzl : z.data.toList.length = z.size := rfl
 have hzs : z.size = r.size + 4 := by rw [← hzl, hz, List.length_append, hrl]; rfl
 have hix : Lib.index z.data.toList (⟨#[45, 45]⟩ : ByteArray).data.toList = (r.size : Int) := by
  rw [hz]
  exact index_after r.data.toList [62, 120] (fine_u r hf)
 have hzr : z.extract 0 r.size = r := by
  apply ba_ext
  rw [Lib.extract_toList, Lib.toList_data, hz]
  show ((r.data.toList ++ [45, 45, 62, 120]).drop 0).take (r.size - 0) = _
  rw [List.drop_zero, Nat.sub_zero, ← hrl, List.take_left]
 have hzp : strings_HasPrefix.f (z.extract r.size z.size) (⟨#[45, 45, 62]⟩ : ByteArray) = some true := by
  have hq : (z.extract r.size z.size).data.toList = [45, 45, 62, 120] := by
   rw [Lib.extract_data, hz, ← hrl, List.drop_left, hrl, List.take_of_length_le (by simp; omega)]
  have hql : (z.extract r.size z.size).size = 4 := by
   show (z.extract r.size z.size).data.toList.length = 4
   rw [hq]; rfl
  unfold strings_HasPrefix.f
  rw [Prefix_all]
  generalize z.extract r.size z.size = y at hq hql
  show Option.bind (some (decide (3 ≤ y.size) && ((y.extract 0 3).toList == _))) _ = _
  rw [decide_eq_true (by omega), Lib.extract_toList, hq, Lib.toList_data]; rfl
 unfold impl_XmlNote.f
 refine Ev.opt hin (Ev.ite_pos rfl (Ev.ite_pos (by omega) (Ev.ite_pos (by omega) (Ev.opt hcut (Ev.ite_pos (by show z.size ≤ _; omega) (Ev.ite_pos rfl ?_))))))
 rw [show ((z, true) : ByteArray × Bool).1 = z from rfl, hix]
 refine Ev.ite_neg (by omega) (Ev.ite_pos (by omega) ?_)
 unfold impl_XmlNote.g
 rw [Int.toNat_natCast, hzr]
 refine Ev.bind hk (Ev.ite_pos rfl (Ev.opt hzp (Ev.ite_pos rfl ?_)))
 rw [wsum (r.size : Int) (Int.natCast_nonneg _) (by omega)]
 exact Ev.now _
theorem FnNotes_ev (b : List Int) : Ev (fun k => laws_FnNotes.f k b) true := by
 unfold laws_FnNotes.f
 by_cases c : (b.length : Int) > 1048576
 ·exact Ev.opt (show laws_big.f b = some true by unfold laws_big.f; rw [decide_eq_true c]) (Ev.ite_pos rfl (Ev.now _))
 have hbig : laws_big.f b = some false := by unfold laws_big.f; rw [decide_eq_false c]
 obtain ⟨t, ht, d2⟩ := Dr.draws b (by omega)
 obtain ⟨y, y1, y2, y3⟩ := NoteOf_strict t (by omega)
 obtain ⟨y', sy, iy⟩ := NoteOf_same t (by omega)
 obtain rfl := Ev.uniq iy y1
 obtain ⟨_, _, hf⟩ := NoteOk_has y' (by omega) y2
 have hx := XmlNote_made y' (((⟨#[60, 33, 45, 45]⟩ : ByteArray) ++ y') ++ (⟨#[45, 45, 62, 120]⟩ : ByteArray)) (by simp [ByteArray.data_append]) (by omega) y2 hf
 refine Ev.opt hbig (Ev.ite_neg Bool.false_ne_true (Ev.bind d2 (Ev.bind y1 (Ev.bind sy (Ev.ite_pos rfl (Ev.ite_pos (by omega) (Ev.ite_pos ?_ (Ev.bind hx (Ev.ite_pos rfl ?_)))))))))
 ·rw [ByteArray.size_append]; show 4 + y'.size + 4 ≤ _; omega
 ·rw [beq_self_eq_true]; exact Ev.now _
theorem FnNotes : laws_FnNotes.Pure := fun l0 _ _ _ => (FnNotes_ev l0).rounds
end Go.Proofs.YtfjheckgigppiaaDoor.Pure
