/- The tags of a name, in order: the program's Tags and the reference's tell the same. No conditions but the sizes. -/
import Derived.Test.YtfjheckgigppiaaTreeOkBase
import Derived.Test.YtfjheckgigppiaaPg11
import Derived.Test.YtfjheckgigppiaaPg6
set_option linter.unusedVariables false
set_option linter.unusedSimpArgs false
namespace Go.Proofs.Ytfjheckgigppiaa.Tr
open Go.RowKit Go.Proofs.Ytfjheckgigppiaa.P Go.Proofs.Ytfjheckgigppiaa.Evs Go.Proofs.YtfjheckgigppiaaW.PrintWords Go.Proofs.YtfjheckgigppiaaW.PrintLast

theorem Order_same (L : List S70) (hL : Small L) : ∃ O : List Int, O.length ≤ 1048576 ∧ (∀ x, x ∈ O → 0 ≤ x ∧ x < L.length) ∧ Ev (fun k => spec_Order.f k L) O ∧ Ev (fun k => impl_Order.f k L) O := by
 obtain ⟨s1, s2⟩ := spec_tells L hL
 obtain ⟨i1, i2⟩ := impl_tells L hL
 unfold spec_Order.f impl_Order.f
 by_cases hR : Right L
 ·obtain ⟨out, w, e1, e2⟩ := Order_tells L hL hR.1.1 hR.2.2.2.1
  refine ⟨nums out, ?_, ?_, Ev.bind (s1 hR) (Ev.ite_pos rfl (Ev.bind e2 (Ev.now _))), Ev.bind (i1 hR) (Ev.ite_pos rfl (Ev.bind e1 (Ev.now _)))⟩
  ·rw [nums_length]
   exact Nat.le_trans w.len hL.1
  ·intro x hx
   unfold nums ints at hx
   obtain ⟨i, hi, rfl⟩ := List.mem_map.mp hx
   obtain ⟨p, hp, rfl⟩ := List.mem_map.mp hi
   have := (w.all p hp).1
   omega
 ·exact ⟨[], by simp, (fun x hx => by simp at hx), Ev.bind (s2 hR) (Ev.ite_neg (by decide) (Ev.now _)), Ev.bind (i2 hR) (Ev.ite_neg (by decide) (Ev.now _))⟩
theorem Tags_loop (L : List S70) (nm : ByteArray) (O : List Int) (hO : O.length ≤ 1048576) (hx : ∀ x, x ∈ O → 0 ≤ x ∧ x < L.length) : ∀ (d j : Nat) (acc : List Int), O.length - j = d → j ≤ O.length → acc.length ≤ j →
  ∃ v : List Int, v.length ≤ O.length ∧ Ev (fun k => spec_Tags.l0 k L nm acc O j) v ∧ Ev (fun k => impl_Tags.l0 k L nm acc O O.length j) v := by
 intro d
 induction d with
 | zero =>
  intro j acc hd hj hacc
  refine ⟨acc, by omega, Ev.here fun k => ?_, Ev.here fun k => ?_⟩
  ·simp only [spec_Tags.l0]; rw [if_neg (by omega)]
  ·simp only [impl_Tags.l0]; rw [if_neg (by omega)]
 | succ d ih =>
  intro j acc hd hj hacc
  have hjl : j < O.length := by omega
  have hrd : rd O (j : Int) = O[j] := rdI O j hjl
  obtain ⟨x0, x1⟩ := hx O[j] (List.getElem_mem hjl)
  generalize O[j] = x at hrd x0 x1
  have a1 : (j : Int) < (O.length : Int) := by omega
  have a2 : (0 : Int) ≤ (j : Int) := Int.natCast_nonneg j
  have a3 : acc.length < 17592186044416 := by omega
  have hw : wrap64 ((j : Int) + 1) = ((j + 1 : Nat) : Int) := succ64 (by omega)
  obtain ⟨v1, l1, p1, q1⟩ := ih (j + 1) acc (by omega) (by omega) (by omega)
  obtain ⟨v2, l2, p2, q2⟩ := ih (j + 1) (acc ++ [x]) (by omega) (by omega) (by rw [List.length_append, List.length_singleton]; omega)
  have hs : ∀ k, spec_Tags.l0 (k + 1) L nm acc O j = (if (rd_T70 L x).f0 = 2 then (if (rd_T70 L x).f2.toList = nm.toList then spec_Tags.l0 k L nm (acc ++ [x]) O ((j + 1 : Nat) : Int) else spec_Tags.l0 k L nm acc O ((j + 1 : Nat) : Int)) else spec_Tags.l0 k L nm acc O ((j + 1 : Nat) : Int)) := fun k => by
   simp only [spec_Tags.l0, hrd, hw]
   rw [if_pos a1, if_pos a2, if_pos x0, if_pos x1]
   simp only [if_pos a3]
  have hi : ∀ k, impl_Tags.l0 (k + 1) L nm acc O O.length j = (if (rd_T70 L x).f0 = 2 then (if (rd_T70 L x).f2.toList = nm.toList then impl_Tags.l0 k L nm (acc ++ [x]) O O.length ((j + 1 : Nat) : Int) else impl_Tags.l0 k L nm acc O O.length ((j + 1 : Nat) : Int)) else impl_Tags.l0 k L nm acc O O.length ((j + 1 : Nat) : Int)) := fun k => by
   simp only [impl_Tags.l0, hrd, hw]
   rw [if_pos a1, if_pos a2, if_pos a1, if_pos x0, if_pos x1]
   simp only [if_pos a3]
  by_cases c1 : (rd_T70 L x).f0 = 2
  ·by_cases c2 : (rd_T70 L x).f2.toList = nm.toList
   ·exact ⟨v2, l2, Ev.step hs (Ev.ite_pos c1 (Ev.ite_pos c2 p2)), Ev.step hi (Ev.ite_pos c1 (Ev.ite_pos c2 q2))⟩
   ·exact ⟨v1, l1, Ev.step hs (Ev.ite_pos c1 (Ev.ite_neg c2 p1)), Ev.step hi (Ev.ite_pos c1 (Ev.ite_neg c2 q1))⟩
  ·exact ⟨v1, l1, Ev.step hs (Ev.ite_neg c1 p1), Ev.step hi (Ev.ite_neg c1 q1)⟩
theorem Tags_same (L : List S70) (hL : Small L) (nm : ByteArray) : ∃ v : List Int, v.length ≤ 1048576 ∧ Ev (fun k => spec_Tags.f k L nm) v ∧ Ev (fun k => impl_Tags.f k L nm) v := by
 obtain ⟨O, h1, h2, e1, e2⟩ := Order_same L hL
 obtain ⟨v, hv, p, q⟩ := Tags_loop L nm O h1 h2 O.length 0 [] (by omega) (by omega) (by simp)
 unfold spec_Tags.f impl_Tags.f
 exact ⟨v, Nat.le_trans hv h1, Ev.bind e1 p, Ev.bind e2 q⟩
end Go.Proofs.Ytfjheckgigppiaa.Tr
