/- A text of right signs is clean: written anew it stays as it is. No conditions but the size. -/
import Derived.Test.YtfjheckgigppiaaDoorRoundList
import Derived.Test.YtfjheckgigppiaaDoorSignList
import Derived.Test.YtfjheckgigppiaaDoorPn16
import Derived.Test.YtfjheckgigppiaaDoorPn9
set_option linter.unusedVariables false
set_option linter.unusedSimpArgs false
namespace Go.Proofs.YtfjheckgigppiaaDoor.Sg
open Go Go.RowKit Go.Proofs.YtfjheckgigppiaaDoor.P Go.Proofs.YtfjheckgigppiaaDoor.Evs Go.Proofs.YtfjheckgigppiaaDoorW.PrintWords Go.Proofs.YtfjheckgigppiaaDoorW.PrintLast

theorem SignText_back_loop (l : List Int) (hl : ∀ n ∈ l, okS n) (hll : l.length ≤ 1048576) : ∀ (r done_ : List Int), l = done_ ++ r →
  Ev (fun k => impl_SignText.l0 k l (strOfNums (done_.flatMap pb)) (done_.length : Int)) (strOfNums (l.flatMap pb)) := by
 intro r
 induction r with
 | nil =>
  intro dn hd
  rw [List.append_nil] at hd
  subst hd
  refine Ev.here fun k => ?_
  simp only [impl_SignText.l0]; rw [if_neg (by omega)]
 | cons n r ih =>
  intro dn hd
  have hn : okS n := hl n (by rw [hd]; simp)
  have hlen : l.length = dn.length + (r.length + 1) := by rw [hd]; simp
  have hdn4 : (dn.flatMap pb).length ≤ 4 * dn.length := by
   clear hd ih hlen
   induction dn with
   | nil => exact Nat.zero_le _
   | cons a t iht => rw [List.flatMap_cons, List.length_append, List.length_cons]; have := (pb_length a).2; omega
  have hj : dn.length < l.length := by omega
  have hget : l[dn.length] = n := by
   have : l[dn.length]? = some n := by rw [hd, List.getElem?_append_right (Nat.le_refl _), Nat.sub_self]; rfl
   exact (List.getElem?_eq_some_iff.mp this).2
  have hrd : rd l (dn.length : Int) = n := by rw [rdI l dn.length hj, hget]
  have hw : wrap64 ((dn.length : Int) + 1) = (((dn ++ [n]).length : Nat) : Int) := by rw [w64 (by omega) (by omega), List.length_append]; rfl
  have hsz : (strOfNums (dn.flatMap pb)).size + (strOfNums (pb n)).size ≤ 140737488355328 := by
   rw [strOfNums_size, strOfNums_size]; have := (pb_length n).2; omega
  have hap : strOfNums (dn.flatMap pb) ++ strOfNums (pb n) = strOfNums ((dn ++ [n]).flatMap pb) := by
   rw [← nums_append, List.flatMap_append]; simp
  refine Ev.step (fun k => by simp only [impl_SignText.l0]; rw [if_pos (by omega), if_pos (by omega), hrd]) (Ev.bind (PutSign_bytes n hn) (Ev.ite_pos hsz ?_))
  simp only [hw, hap]
  exact ih (dn ++ [n]) (by rw [hd]; simp)
theorem SignText_back (l : List Int) (hl : ∀ n ∈ l, okS n) (hll : l.length ≤ 1048576) : Ev (fun k => impl_SignText.f k l) (strOfNums (l.flatMap pb)) := by
 unfold impl_SignText.f
 exact SignText_back_loop l hl hll l [] rfl
theorem flat_le (l : List Int) : l.length ≤ (l.flatMap pb).length := by
 induction l with
 | nil => exact Nat.zero_le _
 | cons a t iht => rw [List.flatMap_cons, List.length_append, List.length_cons]; have := (pb_length a).1; omega
theorem CleanOk_back (l : List Int) (hl : ∀ n ∈ l, okS n) (hsz : (l.flatMap pb).length ≤ 1048576) : Ev (fun k => impl_CleanOk.f k (strOfNums (l.flatMap pb))) true := by
 have h1 := Signs_back l hl hsz
 have h2 := SignText_back l hl (Nat.le_trans (flat_le l) hsz)
 have h3 : Ev (fun k => impl_Clean.f k (strOfNums (l.flatMap pb))) (strOfNums (l.flatMap pb)) := by
  unfold impl_Clean.f
  exact Ev.bind h1 (Ev.bind h2 (Ev.now _))
 unfold impl_CleanOk.f
 refine Ev.bind h3 ?_
 have e : ((strOfNums (l.flatMap pb)).toList == (strOfNums (l.flatMap pb)).toList) = true := by simp
 simp only [e]
 exact Ev.now _
end Go.Proofs.YtfjheckgigppiaaDoor.Sg
