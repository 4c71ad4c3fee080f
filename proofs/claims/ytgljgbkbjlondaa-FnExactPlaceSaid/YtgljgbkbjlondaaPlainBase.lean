/- An item by itself: the program's namesOnce, itemOk and the reference's l6Plain tell the same (the reference's is of the first item, too). No conditions but the size. -/
import Derived.Test.YtgljgbkbjlondaaEvBase
import Derived.Test.YtgljgbkbjlondaaPl1
import Derived.Test.YtgljgbkbjlondaaPl10
import Derived.Test.YtgljgbkbjlondaaPl11
import Derived.Test.YtgljgbkbjlondaaPl12
import Derived.Test.YtgljgbkbjlondaaPl2
import Derived.Test.YtgljgbkbjlondaaPl7
set_option linter.unusedVariables false
set_option linter.unusedSimpArgs false
namespace Go.Proofs.Ytgljgbkbjlondaa.Pl
open Go.RowKit Go.Proofs.Ytgljgbkbjlondaa.P Go.Proofs.Ytgljgbkbjlondaa.Evs Go.Proofs.YtgljgbkbjlondaaW.PrintWords Go.Proofs.YtgljgbkbjlondaaW.PrintLast

theorem inRange_eq (a l m : Int) : impl_inRange.f a l m = some (decide (l ≤ a ∧ a ≤ m)) := by
 unfold impl_inRange.f
 by_cases h : a ≥ l
 ·rw [if_pos h]; simp [h]
 ·rw [if_neg h]; simp; omega
theorem l1In_eq (a l m : Int) : spec_l1In.f a l m = some (decide (l ≤ a ∧ a ≤ m)) := inRange_eq a l m
theorem Has_loop (nm : ByteArray) (l : List S71) (hl : l.length ≤ 1048576) : ∀ (d j : Nat), l.length - j = d → j ≤ l.length → Ev (fun k => spec_l4Has.l0 k l nm j) ((l.drop j).any (hasA nm)) := by
 intro d
 induction d with
 | zero =>
  intro j hd hj
  rw [List.drop_eq_nil_of_le (by omega)]
  refine Ev.here fun k => ?_
  simp only [spec_l4Has.l0]; rw [if_neg (by omega)]; rfl
 | succ d ih =>
  intro j hd hj
  have hjl : j < l.length := by omega
  have hrd : rd_T71 l (j : Int) = l[j] := rdT l _ j hjl
  have hw : wrap64 ((j : Int) + 1) = ((j + 1 : Nat) : Int) := by rw [w64 (by omega) (by omega)]; rfl
  rw [List.drop_eq_getElem_cons hjl, List.any_cons]
  have hstep : ∀ k, spec_l4Has.l0 (k + 1) l nm j = if hasA nm l[j] = true then some true else spec_l4Has.l0 k l nm ((j + 1 : Nat) : Int) := fun k => by
   simp only [spec_l4Has.l0, hrd, hw]
   rw [if_pos (by omega), if_pos (by omega)]
   by_cases c : l[j].f0.toList = nm.toList
   ·rw [if_pos c, if_pos (by unfold hasA; rw [c]; simp)]
   ·rw [if_neg c, if_neg (by unfold hasA; simpa using c)]
  by_cases c : hasA nm l[j] = true
  ·rw [c, Bool.true_or]; exact Ev.here fun k => by rw [hstep, if_pos c]
  ·rw [Bool.eq_false_iff.mpr c, Bool.false_or]; exact Ev.step (fun k => by rw [hstep, if_neg c]) (ih (j + 1) (by omega) (by omega))
theorem Has_tells (nm : ByteArray) (l : List S71) (hl : l.length ≤ 1048576) : Ev (fun k => spec_l4Has.f k l nm) (l.any (hasA nm)) := by
 have h := Has_loop nm l hl l.length 0 (by omega) (by omega)
 rw [List.drop_zero] at h
 exact h
def tailP (f0 : Int) (f4 : ByteArray) (kids : List Int) (x3 : Bool) : Bool := if f0 = 1 then (f4.toList == ([] : List UInt8)) else if f0 = 3 ∨ f0 = 4 ∨ f0 = 5 then ((kids.length : Int) == 0) else x3
theorem Names_loop (l : List S71) (hl : l.length ≤ 1048576) (x3 : Bool) (f0 f1 f5 : Int) (f2 f4 : ByteArray) (kids : List Int) : ∀ (d j : Nat), l.length - j = d → j ≤ l.length →
  ∃ b : Bool, Ev (fun k => impl_namesOnce.l0 k l l l.length j) b ∧ Ev (fun k => spec_l6Plain.l0 k x3 j f0 f1 f2 l f4 f5 kids) (b && tailP f0 f4 kids x3) := by
 intro d
 induction d with
 | zero =>
  intro j hd hj
  refine ⟨true, Ev.here fun k => ?_, Ev.here fun k => ?_⟩
  ·simp only [impl_namesOnce.l0]; rw [if_neg (by omega)]
  ·simp only [spec_l6Plain.l0]; rw [if_neg (by omega), Bool.true_and]
   unfold tailP
   by_cases c1 : f0 = 1
   ·rw [if_pos c1, if_pos c1]
   rw [if_neg c1, if_neg c1]
   by_cases c3 : f0 = 3
   ·rw [if_pos c3, if_pos (Or.inl c3)]
   rw [if_neg c3]
   by_cases c4 : f0 = 4
   ·rw [if_pos c4, if_pos (Or.inr (Or.inl c4))]
   rw [if_neg c4]
   by_cases c5 : f0 = 5
   ·rw [if_pos c5, if_pos (Or.inr (Or.inr c5))]
   rw [if_neg c5, if_neg (by omega)]
 | succ d ih =>
  intro j hd hj
  have hjl : j < l.length := by omega
  have hrd : rd_T71 l (j : Int) = l[j] := rdT l _ j hjl
  have hw : wrap64 ((j : Int) + 1) = ((j + 1 : Nat) : Int) := by rw [w64 (by omega) (by omega)]; rfl
  have hh := Has_tells l[j].f0 (l.take j) (by rw [List.length_take]; omega)
  have hA : (j : Int) < (l.length : Int) := Int.ofNat_lt.mpr hjl
  have hB : (0 : Int) ≤ (j : Int) := Int.natCast_nonneg j
  have hC : (j : Int) ≤ (l.length : Int) := Int.le_of_lt hA
  have hi : ∀ k, impl_namesOnce.l0 (k + 1) l l l.length j = if (l.take j).any (hasA l[j].f0) = true then some false else impl_namesOnce.l0 k l l l.length ((j + 1 : Nat) : Int) := fun k => by
   simp only [impl_namesOnce.l0, hrd, hw, Int.toNat_natCast, impl_hasAttr.f, Option.bind_some]
   rw [if_pos hA, if_pos hB, if_pos hA, if_pos hC]
  have hs : ∀ k, spec_l6Plain.l0 (k + 1) x3 j f0 f1 f2 l f4 f5 kids = (spec_l4Has.f k (l.take j) l[j].f0).bind fun t => if t = true then some false else spec_l6Plain.l0 k x3 ((j + 1 : Nat) : Int) f0 f1 f2 l f4 f5 kids := fun k => by
   simp only [spec_l6Plain.l0, hrd, hw, Int.toNat_natCast]
   rw [if_pos hA, if_pos hB, if_pos hC]
  by_cases c : (l.take j).any (hasA l[j].f0) = true
  ·exact ⟨false, Ev.here fun k => by rw [hi, if_pos c], Ev.step hs (Ev.bind hh (Ev.ite_pos c (Ev.const fun _ => rfl)))⟩
  ·obtain ⟨b, e1, e2⟩ := ih (j + 1) (by omega) (by omega)
   exact ⟨b, Ev.step (fun k => by rw [hi, if_neg c]) e1, Ev.step hs (Ev.bind hh (Ev.ite_neg c e2))⟩
/-- Of an item: what the reference tells, and what the program tells of one that is not the first. -/
theorem Plain_same (f0 f1 f5 : Int) (f2 f4 : ByteArray) (l : List S71) (kids : List Int) (hl : l.length ≤ 1048576) :
  ∃ b : Bool, Ev (fun k => spec_l6Plain.f k f0 f1 f2 l f4 f5 kids) b ∧ Ev (fun k => impl_itemOk.f k f0 f1 f2 l f4 f5 kids) (b && !(f0 == 1)) ∧ (f0 = 1 → impl_pageOk.f f0 f1 f2 l f4 f5 kids = some (b && f5 == -1)) := by
 obtain ⟨b, e1, e2⟩ := Names_loop l hl (f0 == 2) f0 f1 f5 f2 f4 kids l.length 0 (by omega) (by omega)
 replace e1 : Ev (fun k => impl_namesOnce.f k l) b := e1
 have J0 : Ev (fun k => spec_l6Plain.j0 k (f0 == 2) true f0 f1 f2 l f4 f5 kids) false := Ev.here fun k => by simp only [spec_l6Plain.j0]; rw [if_pos True.intro]
 have J1 : Ev (fun k => spec_l6Plain.j0 k (f0 == 2) false f0 f1 f2 l f4 f5 kids) (b && tailP f0 f4 kids (f0 == 2)) := Ev.step (fun k => by simp only [spec_l6Plain.j0]; rw [if_neg (by decide)]; rfl) e2
 unfold spec_l6Plain.f impl_itemOk.f impl_pageOk.f
 by_cases c2 : f0 = 2
 ·have h1 : (f0 == 1) = false := by rw [beq_eq_false_iff_ne]; omega
  have no1 : ∀ P : Prop, f0 = 1 → P := fun P h => by omega
  have ht : tailP f0 f4 kids (f0 == 2) = true := by
   unfold tailP
   rw [if_neg (by omega), if_neg (by omega), beq_iff_eq]; exact c2
  rw [h1]
  by_cases cn : f2.toList = ([] : List UInt8)
  ·refine ⟨false, Ev.ite_pos c2 (Ev.ite_pos cn J0), Ev.ite_pos c2 ?_, no1 _⟩
   by_cases c4 : f4.toList = ([] : List UInt8)
   ·exact Ev.ite_pos c4 (Ev.ite_pos cn (Ev.const fun _ => rfl))
   ·exact Ev.ite_neg c4 (Ev.const fun _ => rfl)
  ·by_cases c4 : f4.toList = ([] : List UInt8)
   ·by_cases cr : 0 ≤ f1 ∧ f1 ≤ 2
    ·refine ⟨b && true, Ev.ite_pos c2 (Ev.ite_neg cn (Ev.ite_pos c4 (Ev.opt (l1In_eq f1 0 2) ?_))), Ev.ite_pos c2 (Ev.ite_pos c4 (Ev.ite_neg cn (Ev.opt (inRange_eq f1 0 2) ?_))), no1 _⟩
     ·rw [ht] at J1
      rw [decide_eq_true cr]; exact J1
     ·refine Ev.ite_pos (decide_eq_true cr) (Ev.bind e1 ?_)
      rw [Bool.and_true, Bool.not_false, Bool.and_true]; exact Ev.const fun _ => rfl
    ·refine ⟨false, Ev.ite_pos c2 (Ev.ite_neg cn (Ev.ite_pos c4 (Ev.opt (l1In_eq f1 0 2) ?_))), Ev.ite_pos c2 (Ev.ite_pos c4 (Ev.ite_neg cn (Ev.opt (inRange_eq f1 0 2) ?_))), no1 _⟩
     ·rw [decide_eq_false cr]; exact J0
     ·exact Ev.ite_neg (by rw [decide_eq_true_iff]; exact cr) (Ev.const fun _ => rfl)
   ·exact ⟨false, Ev.ite_pos c2 (Ev.ite_neg cn (Ev.ite_neg c4 J0)), Ev.ite_pos c2 (Ev.ite_neg c4 (Ev.const fun _ => rfl)), no1 _⟩
 ·have hx : (f0 == 2) = false := by rw [beq_eq_false_iff_ne]; exact c2
  have fails : ∀ (X : ∀ {q : Bool}, f2.toList ≠ ([] : List UInt8) ∨ l.length ≠ 0 ∨ f1 ≠ 0 → True), f2.toList ≠ ([] : List UInt8) ∨ l.length ≠ 0 ∨ f1 ≠ 0 →
    Ev (fun k => if f0 = 2 then (if f4.toList = ([] : List UInt8) then (if f2.toList = ([] : List UInt8) then (some false) else ((impl_inRange.f f1 0 2).bind fun t209 => (if t209 = true then ((impl_namesOnce.f k l).bind fun t210 => (some t210)) else (some false)))) else (some false)) else (if f0 = 3 then (if f2.toList = ([] : List UInt8) then (if f1 = 0 then (if (l.length : Int) = 0 then (some ((kids.length : Int) == 0)) else (some false)) else (some false)) else (some false)) else (if f0 = 4 then (if f2.toList = ([] : List UInt8) then (if f1 = 0 then (if (l.length : Int) = 0 then (some ((kids.length : Int) == 0)) else (some false)) else (some false)) else (some false)) else (if f0 = 5 then (if f2.toList = ([] : List UInt8) then (if f1 = 0 then (if (l.length : Int) = 0 then (some ((kids.length : Int) == 0)) else (some false)) else (some false)) else (some false)) else (some false))))) false := fun _ h => by
   have one : (if f2.toList = ([] : List UInt8) then (if f1 = 0 then (if (l.length : Int) = 0 then (some ((kids.length : Int) == 0)) else (some false)) else (some false)) else (some false)) = some false := by
    by_cases q1 : f2.toList = ([] : List UInt8)
    ·rw [if_pos q1]
     by_cases q2 : f1 = 0
     ·rw [if_pos q2]
      rcases h with h | h | h
      ·exact absurd q1 h
      ·rw [if_neg (by omega)]
      ·exact absurd q2 h
     ·rw [if_neg q2]
    ·rw [if_neg q1]
   simp only [one]
   refine Ev.ite_neg c2 (Ev.const fun _ => ?_)
   repeat' split
   all_goals rfl
  have pfails : f2.toList ≠ ([] : List UInt8) ∨ l.length ≠ 0 ∨ f1 ≠ 0 → f0 = 1 → (if f0 = 1 then (if f5 = (-1) then (if f2.toList = ([] : List UInt8) then (if (l.length : Int) = 0 then (if f1 = 0 then (some (f4.toList == ([] : List UInt8))) else (some false)) else (some false)) else (some false)) else (some false)) else (some false)) = some (false && f5 == -1) := fun h h1 => by
   rw [if_pos h1, Bool.false_and]
   by_cases q0 : f5 = -1
   ·rw [if_pos q0]
    by_cases q1 : f2.toList = ([] : List UInt8)
    ·rw [if_pos q1]
     by_cases q3 : (l.length : Int) = 0
     ·rw [if_pos q3]
      rcases h with h | h | h
      ·exact absurd q1 h
      ·omega
      ·rw [if_neg h]
     ·rw [if_neg q3]
    ·rw [if_neg q1]
   ·rw [if_neg q0]
  by_cases cn : f2.toList = ([] : List UInt8)
  case neg => exact ⟨false, Ev.ite_neg c2 (Ev.ite_neg cn J0), fails (fun _ => trivial) (Or.inl cn), pfails (Or.inl cn)⟩
  by_cases cl : l.length = 0
  case neg => exact ⟨false, Ev.ite_neg c2 (Ev.ite_pos cn (Ev.ite_pos (by omega) J0)), fails (fun _ => trivial) (Or.inr (Or.inl cl)), pfails (Or.inr (Or.inl cl))⟩
  by_cases c1 : f1 = 0
  case neg => exact ⟨false, Ev.ite_neg c2 (Ev.ite_pos cn (Ev.ite_neg (by omega) (Ev.ite_neg c1 J0))), fails (fun _ => trivial) (Or.inr (Or.inr c1)), pfails (Or.inr (Or.inr c1))⟩
  obtain rfl : l = [] := List.eq_nil_of_length_eq_zero cl
  have hb : b = true := by
   obtain ⟨K, hK⟩ := e1
   have h := hK (K + 1) (by omega)
   have h2 : impl_namesOnce.f (K + 1) ([] : List S71) = some true := by
    unfold impl_namesOnce.f
    simp only [impl_namesOnce.l0]; rw [if_neg (by simp)]
   exact (Option.some.inj (h2.symm.trans h)).symm
  subst hb
  rw [hx, Bool.true_and] at J1
  refine ⟨tailP f0 f4 kids false, Ev.ite_neg c2 (Ev.ite_pos cn (Ev.ite_neg (by simp) (Ev.ite_pos c1 (by rw [hx]; exact J1)))), Ev.ite_neg c2 (Ev.const fun _ => ?_), fun h1 => ?_⟩
  ·have one : (if f2.toList = ([] : List UInt8) then (if f1 = 0 then (if ((([] : List S71).length : Nat) : Int) = 0 then (some ((kids.length : Int) == 0)) else (some false)) else (some false)) else (some false)) = some ((kids.length : Int) == 0) := by
    rw [if_pos cn, if_pos c1, if_pos (by simp)]
   simp only [one]
   unfold tailP
   by_cases q1 : f0 = 1
   ·rw [if_neg (by omega), if_neg (by omega), if_neg (by omega), q1]; simp
   ·have hn1 : (f0 == 1) = false := by rw [beq_eq_false_iff_ne]; exact q1
    rw [if_neg q1, hn1, Bool.not_false, Bool.and_true]
    by_cases q3 : f0 = 3
    ·rw [if_pos q3, if_pos (Or.inl q3)]
    rw [if_neg q3]
    by_cases q4 : f0 = 4
    ·rw [if_pos q4, if_pos (Or.inr (Or.inl q4))]
    rw [if_neg q4]
    by_cases q5 : f0 = 5
    ·rw [if_pos q5, if_pos (Or.inr (Or.inr q5))]
    rw [if_neg q5, if_neg (by omega)]
  ·have hn0 : ((([] : List S71).length : Nat) : Int) = 0 := rfl
   unfold tailP
   rw [if_pos h1, if_pos h1]
   by_cases q : f5 = -1
   ·rw [if_pos q, if_pos cn, if_pos hn0, if_pos c1, show (f5 == -1) = true from by rw [beq_iff_eq]; exact q, Bool.and_true]
   ·rw [if_neg q, show (f5 == -1) = false from by rw [beq_eq_false_iff_ne]; exact q, Bool.and_false]
end Go.Proofs.Ytgljgbkbjlondaa.Pl
