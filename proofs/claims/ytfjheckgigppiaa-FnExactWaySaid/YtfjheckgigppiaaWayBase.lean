/- The way to an item: the program goes up and turns the row round, the reference puts each ahead: they tell the same. No conditions but the sizes. -/
import Derived.Test.YtfjheckgigppiaaTreeOkBase
import Derived.Test.YtfjheckgigppiaaPw14
import Derived.Test.YtfjheckgigppiaaPw8
set_option linter.unusedVariables false
set_option linter.unusedSimpArgs false
namespace Go.Proofs.Ytfjheckgigppiaa.Tr
open Go.RowKit Go.Proofs.Ytfjheckgigppiaa.P Go.Proofs.Ytfjheckgigppiaa.Evs Go.Proofs.YtfjheckgigppiaaW.PrintWords Go.Proofs.YtfjheckgigppiaaW.PrintLast

/-- A row turned round by swapping from both ends. -/
theorem Reverse_loop (xs : List Int) (hl : xs.length ≤ 1048576) : ∀ (d i : Nat) (ys : List Int), xs.length - 2 * i ≤ d + 1 → 2 * i ≤ xs.length + 1 → ys.length = xs.length →
  (∀ j, ∀ h : j < xs.length, (i ≤ j ∧ j + i < xs.length → ys[j]? = some xs[j]) ∧ (¬ (i ≤ j ∧ j + i < xs.length) → ys[j]? = xs.reverse[j]?)) →
  Ev (fun k => slices_Reverse_int_int.l0 k ys (i : Int) ((xs.length : Int) - 1 - i)) xs.reverse := by
 intro d
 induction d with
 | zero =>
  intro i ys hd hi hlen hall
  have e : ys = xs.reverse := by
   apply List.ext_getElem?
   intro j
   by_cases hj : j < xs.length
   ·by_cases c : i ≤ j ∧ j + i < xs.length
    ·rw [(hall j hj).1 c, List.getElem?_reverse (by exact hj), show xs.length - 1 - j = j by omega, List.getElem?_eq_getElem hj]
    ·exact (hall j hj).2 c
   ·rw [List.getElem?_eq_none (by omega), List.getElem?_eq_none (by rw [List.length_reverse]; omega)]
  subst e
  refine Ev.here fun k => ?_
  simp only [slices_Reverse_int_int.l0]
  rw [if_neg (by omega)]
 | succ d ih =>
  intro i ys hd hi hlen hall
  by_cases c : 2 * i + 1 < xs.length
  ·have hw1 : wrap64 ((i : Int) + 1) = ((i + 1 : Nat) : Int) := succ64 (by omega)
   have hw2 : wrap64 ((xs.length : Int) - 1 - i - 1) = (xs.length : Int) - 1 - ((i + 1 : Nat) : Int) := by rw [w64 (by omega) (by omega)]; omega
   have hJ : (xs.length : Int) - 1 - i = ((xs.length - 1 - i : Nat) : Int) := by omega
   have b1 : (i : Int) < ((xs.length - 1 - i : Nat) : Int) := by omega
   have b2 : ((xs.length - 1 - i : Nat) : Int) < (ys.length : Int) := by omega
   have b3 : (i : Int) < (ys.length : Int) := by omega
   have hri : rd ys (i : Int) = xs[i] := by
    have h := (hall i (by omega)).1 (by omega)
    show ys.getD ((i : Int)).toNat 0 = _
    rw [Int.toNat_natCast, List.getD_eq_getElem?_getD, h]; rfl
   have hrj : rd ys ((xs.length - 1 - i : Nat) : Int) = xs[xs.length - 1 - i] := by
    have h := (hall (xs.length - 1 - i) (by omega)).1 (by omega)
    show ys.getD (((xs.length - 1 - i : Nat) : Int)).toNat 0 = _
    rw [Int.toNat_natCast, List.getD_eq_getElem?_getD, h]; rfl
   have h2 := ih (i + 1) ((ys.set i xs[xs.length - 1 - i]).set (xs.length - 1 - i) xs[i]) (by omega) (by omega) (by rw [List.length_set, List.length_set]; exact hlen) (fun j hj => by
    by_cases c1 : j = xs.length - 1 - i
    ·subst c1
     refine ⟨fun h => by omega, fun _ => ?_⟩
     rw [List.getElem?_set_self (by rw [List.length_set]; omega), List.getElem?_reverse (by omega), show xs.length - 1 - (xs.length - 1 - i) = i by omega, List.getElem?_eq_getElem]
    ·rw [List.getElem?_set_ne (by omega)]
     by_cases c2 : j = i
     ·subst c2
      refine ⟨fun h => by omega, fun _ => ?_⟩
      rw [List.getElem?_set_self (by omega), List.getElem?_reverse (by omega), List.getElem?_eq_getElem]
     ·rw [List.getElem?_set_ne (by omega)]
      exact ⟨fun h => (hall j hj).1 (by omega), fun h => (hall j hj).2 (by omega)⟩)
   refine Ev.step (fun k => ?_) h2
   simp only [slices_Reverse_int_int.l0, hw1, hw2]
   rw [hJ]
   simp only [hri, hrj, Int.toNat_natCast]
   rw [if_pos b1, if_pos (Int.natCast_nonneg _), if_pos b2, if_pos (Int.natCast_nonneg _), if_pos b3]
  ·exact ih i ys (by omega) hi hlen hall
theorem Reverse_tells (xs : List Int) (hl : xs.length ≤ 1048576) : Ev (fun k => slices_Reverse_int_int.f k xs) xs.reverse := by
 have h := Reverse_loop xs hl xs.length 0 xs (by omega) (by omega) rfl (fun j hj => ⟨fun _ => List.getElem?_eq_getElem hj, fun h => by omega⟩)
 unfold slices_Reverse_int_int.f
 have hw : wrap64 ((xs.length : Int) - 1) = (xs.length : Int) - 1 - ((0 : Nat) : Int) := by rw [w64 (by omega) (by omega)]; omega
 rw [hw]
 exact h
/-- Each number below n stands in a list of n unlike ones. -/
theorem all_here (n : Nat) (l : List Nat) (h1 : l.Nodup) (h2 : ∀ x, x ∈ l → x < n) (h3 : l.length = n) (x : Nat) (hx : x < n) : x ∈ l := by
 apply Classical.byContradiction
 intro hn
 have := nodup_le n (x :: l) (List.nodup_cons.mpr ⟨hn, h1⟩) (fun y hy => by
  rcases List.mem_cons.mp hy with e | e
  ·subst e; exact hx
  ·exact h2 y e)
 rw [List.length_cons] at this
 omega
/-- In a right tree each item stands at a depth. -/
theorem item_at (L : List S70) (h : Right L) (i : Nat) (hi : i < L.length) : ∃ d, At (upp L) d i ∧ d < L.length := by
 obtain ⟨out, w, hl⟩ := h.2.2.2.2
 have ok := Links_ok L h.1.1 h.2.2.2.1
 have hm := all_here L.length (out.map Prod.fst) w.once (fun x hx => by
  obtain ⟨p, hp, e⟩ := List.mem_map.mp hx
  rw [← e]; exact (w.all p hp).1) (by rw [List.length_map]; exact hl) i hi
 obtain ⟨p, hp, e⟩ := List.mem_map.mp hm
 have ha := (w.all p hp).2
 rw [e] at ha
 exact ⟨p.2, ha, At_lt ok ha hi⟩
def ups (L : List S70) (d i : Nat) : List Int := (chain (upp L) d i).map fun n : Nat => (n : Int)
theorem ups_length (L : List S70) (d i : Nat) : (ups L d i).length = d + 1 := by unfold ups; rw [List.length_map, chain_length]
/-- The number above an item. -/
theorem up_of (L : List S70) (hk : LinksP L) (i : Nat) (hi : i < L.length) : rd_T70 L (i : Int) = it L i ∧ (i = 0 → (it L i).f5 = -1) ∧ (i ≠ 0 → (it L i).f5 = ((upp L i : Nat) : Int) ∧ upp L i < L.length) := by
 have hu := (hk i hi).1
 unfold UpOk at hu
 refine ⟨rfl, fun h => ?_, fun h => ?_⟩
 ·rw [if_pos h] at hu; exact hu
 ·rw [if_neg h] at hu
  obtain ⟨u0, u1, _⟩ := hu
  unfold upp
  exact ⟨(ofNat_of _ u0).symm, by omega⟩
theorem impl_up (L : List S70) (hL : Small L) (hk : LinksP L) : ∀ (d i : Nat), At (upp L) d i → i < L.length → ∀ acc : List Int, acc.length + d < 1048576 →
  Ev (fun k => impl_Way.l0 k L (i : Int) acc) (acc ++ ups L d i).reverse := by
 intro d
 induction d with
 | zero =>
  intro i ha hi acc hacc
  obtain rfl : i = 0 := ha
  obtain ⟨e1, e2, _⟩ := up_of L hk 0 hi
  replace e2 := e2 rfl
  rw [show ((0 : Nat) : Int) = 0 from rfl] at e1
  have b1 : (0 : Int) < (L.length : Int) := by omega
  have hr := Reverse_tells (acc ++ ups L 0 0) (by rw [List.length_append, ups_length]; omega)
  refine Ev.step (f := fun k => impl_Way.l0 k L (-1) (acc ++ ups L 0 0)) (fun k => ?_) (Ev.step (f := fun k => (slices_Reverse_int_int.f k (acc ++ ups L 0 0)).bind fun t => some t) (fun k => ?_) (Ev.bind hr (Ev.now _)))
  ·show impl_Way.l0 (k + 1) L 0 acc = _
   simp only [impl_Way.l0, e1, e2]
   rw [if_pos (by decide), if_pos (by omega), if_pos (by decide), if_pos b1]
   rfl
  ·simp only [impl_Way.l0]
   rw [if_neg (by decide)]
 | succ d ih =>
  intro i ha hi acc hacc
  obtain ⟨e1, _, e3⟩ := up_of L hk i hi
  obtain ⟨e4, e5⟩ := e3 ha.1
  have h := ih (upp L i) ha.2 e5 (acc ++ [(i : Int)]) (by rw [List.length_append, List.length_singleton]; omega)
  rw [List.append_assoc, show [(i : Int)] ++ ups L d (upp L i) = ups L (d + 1) i from rfl] at h
  refine Ev.step (fun k => ?_) h
  simp only [impl_Way.l0, e1, e4]
  rw [if_pos (by omega), if_pos (by omega), if_pos (by omega), if_pos (by omega)]
theorem spec_up (L : List S70) (hL : Small L) (hk : LinksP L) : ∀ (d i : Nat), At (upp L) d i → i < L.length → ∀ acc : List Int, acc.length + d < 1048576 →
  Ev (fun k => spec_Way.l0 k L acc (i : Int)) ((ups L d i).reverse ++ acc) := by
 intro d
 induction d with
 | zero =>
  intro i ha hi acc hacc
  obtain rfl : i = 0 := ha
  obtain ⟨e1, e2, _⟩ := up_of L hk 0 hi
  replace e2 := e2 rfl
  rw [show ((0 : Nat) : Int) = 0 from rfl] at e1
  have b1 : (0 : Int) < (L.length : Int) := by omega
  refine Ev.step (f := fun k => spec_Way.l0 k L ([((0 : Nat) : Int)] ++ acc) (-1)) (fun k => ?_) (Ev.here fun k => ?_)
  ·show spec_Way.l0 (k + 1) L acc 0 = _
   simp only [spec_Way.l0, e1, e2, Option.bind_some]
   rw [if_pos (by decide), if_pos (by rw [List.length_singleton]; omega), if_pos (by decide), if_pos b1]
   rfl
  ·simp only [spec_Way.l0]
   rw [if_neg (by decide)]
   rfl
 | succ d ih =>
  intro i ha hi acc hacc
  obtain ⟨e1, _, e3⟩ := up_of L hk i hi
  obtain ⟨e4, e5⟩ := e3 ha.1
  have h := ih (upp L i) ha.2 e5 ([(i : Int)] ++ acc) (by rw [List.length_append, List.length_singleton]; omega)
  rw [show (ups L d (upp L i)).reverse ++ ([(i : Int)] ++ acc) = (ups L (d + 1) i).reverse ++ acc by rw [show ups L (d + 1) i = (i : Int) :: ups L d (upp L i) from rfl, List.reverse_cons, List.append_assoc]] at h
  refine Ev.step (fun k => ?_) h
  simp only [spec_Way.l0, e1, e4, Option.bind_some]
  rw [if_pos (by omega), if_pos (by rw [List.length_singleton]; omega), if_pos (by omega), if_pos (by omega)]
theorem Way_same (L : List S70) (hL : Small L) (a : Int) : ∃ v : List Int, v.length ≤ 1048576 ∧ Ev (fun k => spec_Way.f k L a) v ∧ Ev (fun k => impl_Way.f k L a) v := by
 have hL1 := hL.1
 have hw : wrap64 ((L.length : Int) - 1) = (L.length : Int) - 1 := w64 (by omega) (by omega)
 obtain ⟨s1, s2⟩ := spec_tells L hL
 obtain ⟨i1, i2⟩ := impl_tells L hL
 have J1 : Ev (fun k => spec_Way.j0 k L a [] true) [] := Ev.here fun k => by simp only [spec_Way.j0]; rw [if_pos True.intro]
 have J2 : Ev (fun k => impl_Way.j0 k L a true) [] := Ev.here fun k => by simp only [impl_Way.j0]; rw [if_pos True.intro]
 unfold spec_Way.f impl_Way.f
 rw [inRange_eq, l1In_eq, hw]
 simp only [Option.bind_some]
 by_cases hR : Right L
 ·by_cases c : 0 ≤ a ∧ a ≤ (L.length : Int) - 1
  ·obtain ⟨i, rfl⟩ := Int.eq_ofNat_of_zero_le c.1
   have hi : i < L.length := by omega
   obtain ⟨d, hd, hdl⟩ := item_at L hR i hi
   have e1 := spec_up L hL hR.2.2.2.1 d i hd hi [] (by simp only [List.length_nil]; omega)
   have e2 := impl_up L hL hR.2.2.2.1 d i hd hi [] (by simp only [List.length_nil]; omega)
   rw [List.append_nil] at e1
   rw [List.nil_append] at e2
   refine ⟨(ups L d i).reverse, by rw [List.length_reverse, ups_length]; omega, ?_, ?_⟩
   ·refine Ev.bind (s1 hR) (Ev.ite_pos rfl ?_)
    refine Ev.step (fun k => ?_) e1
    simp only [spec_Way.j0]
    rw [if_neg (by rw [decide_eq_true c]; decide)]
   ·refine Ev.ite_pos (decide_eq_true c) (Ev.bind (i1 hR) (Ev.step (fun k => ?_) e2))
    simp only [impl_Way.j0]
    rw [if_neg (by decide)]
  ·refine ⟨[], by simp, Ev.bind (s1 hR) (Ev.ite_pos rfl ?_), Ev.ite_neg (by rw [decide_eq_true_iff]; exact c) J2⟩
   rw [decide_eq_false c]
   exact J1
 ·refine ⟨[], by simp, Ev.bind (s2 hR) (Ev.ite_neg (by decide) J1), ?_⟩
  by_cases c : 0 ≤ a ∧ a ≤ (L.length : Int) - 1
  ·exact Ev.ite_pos (decide_eq_true c) (Ev.bind (i2 hR) J2)
  ·exact Ev.ite_neg (by rw [decide_eq_true_iff]; exact c) J2
end Go.Proofs.Ytfjheckgigppiaa.Tr
