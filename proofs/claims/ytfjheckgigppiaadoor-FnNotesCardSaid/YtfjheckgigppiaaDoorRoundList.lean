/- A text of right signs, read back sign by sign. No conditions but the size. -/
import Derived.Test.YtfjheckgigppiaaDoorRoundBase
import Derived.Test.YtfjheckgigppiaaDoorPn3
set_option linter.unusedVariables false
set_option linter.unusedSimpArgs false
namespace Go.Proofs.YtfjheckgigppiaaDoor.Sg
open Go Go.RowKit Go.Proofs.YtfjheckgigppiaaDoor.P Go.Proofs.YtfjheckgigppiaaDoor.Evs Go.Proofs.YtfjheckgigppiaaDoorW.PrintWords Go.Proofs.YtfjheckgigppiaaDoorW.PrintLast

theorem bt_nums (xs : List Int) (i : Nat) (b : Int) (h : xs[i]? = some b) (h0 : 0 ≤ b) (h1 : b ≤ 255) : bt (strOfNums xs) (i : Int) = b := by
 have hi : i < xs.length := (List.getElem?_eq_some_iff.mp h).1
 have hs : i < (strOfNums xs).size := by rw [strOfNums_size]; exact hi
 have hx : (strOfNums xs).data.toList[i]? = some (UInt8.ofNat b.toNat) := by
  rw [strOfNums_data, List.getElem?_map, h]; rfl
 unfold bt
 rw [Int.toNat_natCast, dif_pos hs]
 have he : (strOfNums xs)[i]'hs = UInt8.ofNat b.toNat := (List.getElem?_eq_some_iff.mp hx).2
 rw [he]
 show ((b.toNat % 256 : Nat) : Int) = b
 omega
theorem pb_byte (n : Int) (hn : okS n) (i : Nat) (b : Int) (h : (pb n)[i]? = some b) : 0 ≤ b ∧ b ≤ 255 := by
 obtain ⟨⟨h0, h1⟩, _⟩ := hn
 have hm : b ∈ pb n := List.mem_of_getElem? h
 unfold pb at hm
 repeat' split at hm
 all_goals simp only [List.mem_cons, or_false, List.not_mem_nil] at hm
 ·omega
 ·rcases hm with rfl | rfl <;> omega
 ·rcases hm with rfl | rfl | rfl <;> omega
 ·rcases hm with rfl | rfl | rfl | rfl <;> omega
theorem pb_length (n : Int) : 1 ≤ (pb n).length ∧ (pb n).length ≤ 4 := by
 unfold pb
 repeat' split
 all_goals exact ⟨by simp, by simp⟩
theorem Signs_back_loop (l : List Int) (hl : ∀ n ∈ l, okS n) (hsz : (l.flatMap pb).length ≤ 1048576) : ∀ (r done_ : List Int), l = done_ ++ r →
  Ev (fun k => impl_Signs.l0 k (strOfNums (l.flatMap pb)) done_ ((done_.flatMap pb).length : Int)) l := by
 have hS : (strOfNums (l.flatMap pb)).size = (l.flatMap pb).length := strOfNums_size _
 intro r
 induction r with
 | nil =>
  intro dn hd
  rw [List.append_nil] at hd
  subst hd
  refine Ev.here fun k => ?_
  simp only [impl_Signs.l0]; rw [if_neg (by omega)]
 | cons n r ih =>
  intro dn hd
  have hn : okS n := hl n (by rw [hd]; simp)
  obtain ⟨p1, p4⟩ := pb_length n
  have hlen : (l.flatMap pb).length = (dn.flatMap pb).length + (pb n).length + (r.flatMap pb).length := by
   rw [hd, List.flatMap_append, List.flatMap_cons]; simp; omega
  have hdn : dn.length ≤ (dn.flatMap pb).length := by
   clear hd ih hlen hS hsz
   induction dn with
   | nil => exact Nat.zero_le _
   | cons a t iht => rw [List.flatMap_cons, List.length_append, List.length_cons]; have := (pb_length a).1; omega
  have e := GetSign_back (strOfNums (l.flatMap pb)) (dn.flatMap pb).length n hn (by omega) (fun i b hb => by
   obtain ⟨b0, b1⟩ := pb_byte n hn i b hb
   have hi : i < (pb n).length := (List.getElem?_eq_some_iff.mp hb).1
   refine ⟨by omega, bt_nums _ _ b ?_ b0 b1⟩
   rw [hd, List.flatMap_append, List.flatMap_cons, List.getElem?_append_right (by omega), show (dn.flatMap pb).length + i - (dn.flatMap pb).length = i by omega, List.getElem?_append_left hi]
   exact hb)
  have hw : wrap64 (((dn.flatMap pb).length : Int) + ((pb n).length : Int)) = (((dn ++ [n]).flatMap pb).length : Int) := by
   rw [w64 (by omega) (by omega), List.flatMap_append]; simp
  have hacc : dn.length < 17592186044416 := by omega
  have hA : ((dn.flatMap pb).length : Int) < ((strOfNums (l.flatMap pb)).size : Int) := by omega
  refine Ev.step (fun k => by simp only [impl_Signs.l0]; rw [if_pos hA]) (Ev.bind e (Ev.ite_pos hacc ?_))
  simp only [hw]
  exact ih (dn ++ [n]) (by rw [hd]; simp)
theorem Signs_back (l : List Int) (hl : ∀ n ∈ l, okS n) (hsz : (l.flatMap pb).length ≤ 1048576) : Ev (fun k => impl_Signs.f k (strOfNums (l.flatMap pb))) l := by
 unfold impl_Signs.f
 exact Signs_back_loop l hl hsz l [] rfl
end Go.Proofs.YtfjheckgigppiaaDoor.Sg
