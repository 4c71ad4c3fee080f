/- A strict element: the program's elOk and the reference's (how deep, and l15El) tell the same. No conditions but the sizes. -/
import Derived.Test.YtaomfbbbdddlmaaLoopBase
import Derived.Test.YtaomfbbbdddlmaaHasBase
import Derived.Test.YtaomfbbbdddlmaaNameOkBase
import Derived.Test.YtaomfbbbdddlmaaNoteBase
import Derived.Test.YtaomfbbbdddlmaaQe1
import Derived.Test.YtaomfbbbdddlmaaQe28
import Derived.Test.YtaomfbbbdddlmaaQe29
import Derived.Test.YtaomfbbbdddlmaaQe30
import Derived.Test.YtaomfbbbdddlmaaQe5
import Derived.Test.YtaomfbbbdddlmaaQe7
import Derived.Test.YtaomfbbbdddlmaaQe8
set_option linter.unusedVariables false
set_option linter.unusedSimpArgs false
namespace Go.Proofs.Ytaomfbbbdddlmaa.Le
open Go.RowKit Go.Proofs.Ytaomfbbbdddlmaa.P Go.Proofs.Ytaomfbbbdddlmaa.Evs Go.Proofs.Ytaomfbbbdddlmaa.Sg Go.Proofs.YtaomfbbbdddlmaaW.PrintWords Go.Proofs.YtaomfbbbdddlmaaW.PrintLast

theorem strictAttrs_same (l : List S62) (hl : l.length ≤ 1048576) (hs : ∀ y ∈ l, y.f0.size ≤ 1048576 ∧ y.f1.size ≤ 1048576) : ∃ b : Bool, Ev (fun k => spec_l15Attrs.f k l) b ∧ Ev (fun k => impl_strictAttrs.f k l) b := by
 have hN : ∀ j (h : j < l.length), ∃ b, Ev (fun k => spec_NameOk.f k l[j].f0) b ∧ Ev (fun k => impl_NameOk.f k l[j].f0) b := fun j h => NameOk_same _ (hs _ (List.getElem_mem h)).1
 have hT : ∀ j (h : j < l.length), ∃ b, Ev (fun k => spec_TextOk.f k l[j].f1) b ∧ Ev (fun k => impl_TextOk.f k l[j].f1) b := fun j h => TextOk_same _ (hs _ (List.getElem_mem h)).2
 have h1 : ∀ k (j : Nat) (h : j < l.length), spec_l15Attrs.l0 (k + 1) l j = (spec_NameOk.f k l[j].f0).bind fun t206 => (if t206 = true then (if l[j].f0.toList = ([120, 109, 108, 110, 115] : List UInt8) then (some false) else ((spec_TextOk.f k l[j].f1).bind fun t209 => (if t209 = true then ((spec_l4Has.f k (l.take j) l[j].f0).bind fun t215 => (if t215 = true then (some false) else (spec_l15Attrs.l0 k l ((j + 1 : Nat) : Int)))) else (some false)))) else (some false)) := fun k j h => by
  have hrd : rd_T62 l (j : Int) = l[j] := rdT l _ j h
  have hb : (j : Int) ≤ (l.length : Int) := by omega
  simp only [spec_l15Attrs.l0, hrd, succ64 (show j < 9223372036854775807 by omega), Int.toNat_natCast, if_pos hb]
  rw [if_pos (by omega), if_pos (by omega)]
 have h2 : ∀ k (j : Nat) (h : j < l.length), impl_strictAttrs.l0 (k + 1) l l l.length j = (impl_NameOk.f k l[j].f0).bind fun t345 => (if t345 = true then (if l[j].f0.toList = ([120, 109, 108, 110, 115] : List UInt8) then (some false) else (if (l.take j).any (hasA l[j].f0) = true then (some false) else ((impl_TextOk.f k l[j].f1).bind fun t351 => (if t351 = true then (impl_strictAttrs.l0 k l l l.length ((j + 1 : Nat) : Int)) else (some false))))) else (some false)) := fun k j h => by
  have hrd : rd_T62 l (j : Int) = l[j] := rdT l _ j h
  have hb : (j : Int) ≤ (l.length : Int) := by omega
  simp only [impl_strictAttrs.l0, hrd, succ64 (show j < 9223372036854775807 by omega), Int.toNat_natCast, impl_hasAttr.f, Option.bind_some, if_pos hb]
  rw [if_pos (by omega), if_pos (by omega), if_pos (by omega)]
 have hH : ∀ j (h : j < l.length), Ev (fun k => spec_l4Has.f k (l.take j) l[j].f0) ((l.take j).any (hasA l[j].f0)) := fun j h => Hs.Has_tells _ _ (by rw [List.length_take]; omega)
 have ok := fun j => ∀ h : j < l.length, Ev (fun k => impl_NameOk.f k l[j].f0) true ∧ ¬ l[j].f0.toList = ([120, 109, 108, 110, 115] : List UInt8) ∧ (l.take j).any (hasA l[j].f0) = false ∧ Ev (fun k => impl_TextOk.f k l[j].f1) true
 have A := Ev.all (n := l.length) (j0 := 0) (g := fun k j => spec_l15Attrs.l0 k l (j : Int)) (e := false) (ok := fun j => ∀ h : j < l.length, Ev (fun k => impl_NameOk.f k l[j].f0) true ∧ ¬ l[j].f0.toList = ([120, 109, 108, 110, 115] : List UInt8) ∧ (l.take j).any (hasA l[j].f0) = false ∧ Ev (fun k => impl_TextOk.f k l[j].f1) true) (Nat.zero_le _)
  (fun j _ hj _ hok r hr => by
   obtain ⟨q1, q2, q3, q4⟩ := hok hj
   obtain ⟨a, ea, ea2⟩ := hN j hj
   obtain rfl := Ev.uniq ea2 q1
   obtain ⟨b, eb, eb2⟩ := hT j hj
   obtain rfl := Ev.uniq eb2 q4
   have hh := hH j hj
   rw [q3] at hh
   exact Ev.step (fun k => h1 k j hj) (Ev.bind ea (Ev.ite_pos rfl (Ev.ite_neg q2 (Ev.bind eb (Ev.ite_pos rfl (Ev.bind hh (Ev.ite_neg Bool.false_ne_true hr))))))))
  (fun j _ hj _ hok => by
   obtain ⟨a, ea, ea2⟩ := hN j hj
   obtain ⟨b, eb, eb2⟩ := hT j hj
   have hh := hH j hj
   refine Ev.step (fun k => h1 k j hj) (Ev.bind ea ?_)
   cases a with
   | false => exact Ev.ite_neg Bool.false_ne_true (Ev.now _)
   | true =>
    refine Ev.ite_pos rfl ?_
    by_cases c : l[j].f0.toList = ([120, 109, 108, 110, 115] : List UInt8)
    ·exact Ev.ite_pos c (Ev.now _)
    refine Ev.ite_neg c (Ev.bind eb ?_)
    cases b with
    | false => exact Ev.ite_neg Bool.false_ne_true (Ev.now _)
    | true =>
     refine Ev.ite_pos rfl (Ev.bind hh ?_)
     cases e : (l.take j).any (hasA l[j].f0) with
     | true => exact Ev.ite_pos rfl (Ev.now _)
     | false => exact absurd (fun _ => ⟨ea2, c, e, eb2⟩) hok)
 have B := Ev.all (n := l.length) (j0 := 0) (g := fun k j => impl_strictAttrs.l0 k l l l.length (j : Int)) (e := false) (ok := fun j => ∀ h : j < l.length, Ev (fun k => impl_NameOk.f k l[j].f0) true ∧ ¬ l[j].f0.toList = ([120, 109, 108, 110, 115] : List UInt8) ∧ (l.take j).any (hasA l[j].f0) = false ∧ Ev (fun k => impl_TextOk.f k l[j].f1) true) (Nat.zero_le _)
  (fun j _ hj _ hok r hr => by
   obtain ⟨q1, q2, q3, q4⟩ := hok hj
   exact Ev.step (fun k => h2 k j hj) (Ev.bind q1 (Ev.ite_pos rfl (Ev.ite_neg q2 (Ev.ite_neg (by rw [q3]; exact Bool.false_ne_true) (Ev.bind q4 (Ev.ite_pos rfl hr)))))))
  (fun j _ hj _ hok => by
   obtain ⟨a, ea, ea2⟩ := hN j hj
   obtain ⟨b, eb, eb2⟩ := hT j hj
   refine Ev.step (fun k => h2 k j hj) (Ev.bind ea2 ?_)
   cases a with
   | false => exact Ev.ite_neg Bool.false_ne_true (Ev.now _)
   | true =>
    refine Ev.ite_pos rfl ?_
    by_cases c : l[j].f0.toList = ([120, 109, 108, 110, 115] : List UInt8)
    ·exact Ev.ite_pos c (Ev.now _)
    refine Ev.ite_neg c ?_
    cases e : (l.take j).any (hasA l[j].f0) with
    | true => exact Ev.ite_pos rfl (Ev.now _)
    | false =>
     refine Ev.ite_neg Bool.false_ne_true (Ev.bind eb2 ?_)
     cases b with
     | false => exact Ev.ite_neg Bool.false_ne_true (Ev.now _)
     | true => exact absurd (fun _ => ⟨ea2, c, e, eb2⟩) hok)
 have e1 : Ev (fun k => spec_l15Attrs.l0 k l (l.length : Int)) true := Ev.here fun k => by simp only [spec_l15Attrs.l0]; rw [if_neg (by omega)]
 have e2 : Ev (fun k => impl_strictAttrs.l0 k l l l.length (l.length : Int)) true := Ev.here fun k => by simp only [impl_strictAttrs.l0]; rw [if_neg (by omega)]
 clear ok
 by_cases c : ∀ j, 0 ≤ j → j < l.length → ∀ h : j < l.length, Ev (fun k => impl_NameOk.f k l[j].f0) true ∧ ¬ l[j].f0.toList = ([120, 109, 108, 110, 115] : List UInt8) ∧ (l.take j).any (hasA l[j].f0) = false ∧ Ev (fun k => impl_TextOk.f k l[j].f1) true
 ·exact ⟨true, A.1 c true e1, B.1 c true e2⟩
 ·exact ⟨false, A.2 c, B.2 c⟩
/-- The greatest of the first j numbers. -/
def top (F : Nat → Nat × Bool) : Nat → Nat
 | 0 => 0
 | j + 1 => max (top F j) (F j).1
theorem top_le (F : Nat → Nat × Bool) (d : Nat) : ∀ n, (top F n ≤ d ↔ ∀ j, j < n → (F j).1 ≤ d)
 | 0 => ⟨fun _ j h => absurd h (Nat.not_lt_zero j), fun _ => Nat.zero_le _⟩
 | n + 1 => by
  have ih := top_le F d n
  rw [top]
  constructor
  ·intro h j hj
   rcases Nat.lt_or_ge j n with q | q
   ·exact ih.mp (by omega) j q
   ·obtain rfl : j = n := by omega
    omega
  ·intro h
   have h1 := ih.mpr fun j hj => h j (by omega)
   have h2 := h n (by omega)
   omega
/-- An element's kids, as both ask: two texts never beside each other. -/
def Beside (xs : List S48) (j : Nat) : Prop := 0 < j ∧ (rd_T48 xs (j : Int)).f0 = 2 ∧ (rd_T48 xs ((j : Int) - 1)).f0 = 2
theorem ElOk_main : ∀ (m : Nat) (z : S48), G48 1048576 m z → m ≤ 1048577 → ∃ (D : Nat) (b : Bool), 1 ≤ D ∧ D ≤ m ∧ Ev (fun k => spec_ElDeep.f k z.f0 z.f1 z.f2 z.f3 z.f4 z.f5) (D : Int) ∧ Ev (fun k => spec_l15El.f k z.f0 z.f1 z.f2 z.f3 z.f4 z.f5) b ∧
  ∀ deep : Int, 0 ≤ deep → deep ≤ 60 → Ev (fun k => impl_elOk.f k z.f0 z.f1 z.f2 z.f3 z.f4 z.f5 deep) (b && decide ((D : Int) ≤ deep)) := by
 intro m
 induction m with
 | zero => intro z hz; exact hz.elim
 | succ m ih =>
  intro z hz hm
  obtain ⟨_, _, hs2, ⟨hl3, hg3⟩, hs4, hl5, hg5⟩ := hz
  have hF0 : ∀ j : Nat, ∃ p : Nat × Bool, ∀ h : j < z.f5.length, 1 ≤ p.1 ∧ p.1 ≤ m ∧ Ev (fun k => spec_ElDeep.f k z.f5[j].f0 z.f5[j].f1 z.f5[j].f2 z.f5[j].f3 z.f5[j].f4 z.f5[j].f5) (p.1 : Int) ∧ Ev (fun k => spec_l15El.f k z.f5[j].f0 z.f5[j].f1 z.f5[j].f2 z.f5[j].f3 z.f5[j].f4 z.f5[j].f5) p.2 ∧
    ∀ deep : Int, 0 ≤ deep → deep ≤ 60 → Ev (fun k => impl_elOk.f k z.f5[j].f0 z.f5[j].f1 z.f5[j].f2 z.f5[j].f3 z.f5[j].f4 z.f5[j].f5 deep) (p.2 && decide ((p.1 : Int) ≤ deep)) := fun j => by
   by_cases h : j < z.f5.length
   ·obtain ⟨D, b, q⟩ := ih _ (hg5 _ (List.getElem_mem h)) (by omega)
    exact ⟨(D, b), fun _ => q⟩
   ·exact ⟨(0, false), fun h' => absurd h' h⟩
  obtain ⟨F, hF⟩ := Classical.axiomOfChoice hF0
  have hrd : ∀ j (h : j < z.f5.length), rd_T48 z.f5 (j : Int) = z.f5[j] := fun j h => rdT z.f5 _ j h
  have htm : ∀ n, n ≤ z.f5.length → top F n ≤ m := fun n hn => (top_le F m n).mpr fun j hj => (hF j (by omega)).2.1
  -- how deep
  have deepL : ∀ (d i : Nat), z.f5.length - i = d → i ≤ z.f5.length → Ev (fun k => spec_ElDeep.l0 k (top F i) i z.f0 z.f1 z.f2 z.f3 z.f4 z.f5) ((top F z.f5.length + 1 : Nat) : Int) := by
   intro d
   induction d with
   | zero =>
    intro i hd hi
    obtain rfl : i = z.f5.length := by omega
    have := htm z.f5.length (Nat.le_refl _)
    refine Ev.here fun k => ?_
    simp only [spec_ElDeep.l0]; rw [if_neg (by omega), succ64 (by omega)]
   | succ d ihd =>
    intro i hd hi
    have hil : i < z.f5.length := by omega
    obtain ⟨p1, p2, p3, _, _⟩ := hF i hil
    have hmx : spec_l1Max.f (top F i : Int) ((F i).1 : Int) = some ((top F (i + 1) : Nat) : Int) := by
     unfold spec_l1Max.f
     rw [top]
     by_cases c : (top F i : Int) > ((F i).1 : Int)
     ·rw [if_pos c]; exact congrArg (fun n : Nat => some (n : Int)) (by omega)
     ·rw [if_neg c]; exact congrArg (fun n : Nat => some (n : Int)) (by omega)
    refine Ev.step (f := fun k => (spec_ElDeep.f k z.f5[i].f0 z.f5[i].f1 z.f5[i].f2 z.f5[i].f3 z.f5[i].f4 z.f5[i].f5).bind fun t121 => ((spec_l1Max.f (top F i) t121).bind fun t122 => (spec_ElDeep.l0 k t122 ((i + 1 : Nat) : Int) z.f0 z.f1 z.f2 z.f3 z.f4 z.f5))) (fun k => ?_) (Ev.bind p3 (Ev.opt hmx (ihd (i + 1) (by omega) (by omega))))
    simp only [spec_ElDeep.l0, hrd i hil, succ64 (show i < 9223372036854775807 by omega)]
    rw [if_pos (by omega), if_pos (by omega)]
  have deepE : Ev (fun k => spec_ElDeep.f k z.f0 z.f1 z.f2 z.f3 z.f4 z.f5) ((top F z.f5.length + 1 : Nat) : Int) := Ev.step (fun k => by simp only [spec_ElDeep.f]; rfl) (deepL z.f5.length 0 (by omega) (by omega))
  -- the reference's kids
  have hS : ∀ k (j : Nat) (h : j < z.f5.length), spec_l15El.l0 (k + 1) j z.f0 z.f1 z.f2 z.f3 z.f4 z.f5 = (spec_l15El.f k z.f5[j].f0 z.f5[j].f1 z.f5[j].f2 z.f5[j].f3 z.f5[j].f4 z.f5[j].f5).bind fun t222 => (if t222 = true then (if (0 < j ∧ z.f5[j].f0 = 2) then (if (rd_T48 z.f5 ((j : Int) - 1)).f0 = 2 then some false else spec_l15El.l0 k ((j + 1 : Nat) : Int) z.f0 z.f1 z.f2 z.f3 z.f4 z.f5) else spec_l15El.l0 k ((j + 1 : Nat) : Int) z.f0 z.f1 z.f2 z.f3 z.f4 z.f5) else some false) := fun k j h => by
   simp only [spec_l15El.l0, hrd j h, succ64 (show j < 9223372036854775807 by omega)]
   rw [if_pos (by omega), if_pos (by omega)]
   by_cases c : 0 < j
   ·have e : wrap64 ((j : Int) - 1) = (j : Int) - 1 := w64 (by omega) (by omega)
    have c1 : (j : Int) > 0 := by omega
    have c2 : 0 ≤ (j : Int) - 1 := by omega
    have c3 : (j : Int) - 1 < (z.f5.length : Int) := by omega
    simp only [e, if_pos c1, if_pos c2, if_pos c3, c, true_and]
   ·have c1 : ¬ (j : Int) > 0 := by omega
    simp only [if_neg c1, c, false_and, if_false]
  have hI : ∀ (deep : Int) k (j : Nat) (h : j < z.f5.length), impl_elOk.l0 (k + 1) deep z.f5 z.f5.length j z.f0 z.f1 z.f2 z.f3 z.f4 z.f5 = (impl_elOk.f k z.f5[j].f0 z.f5[j].f1 z.f5[j].f2 z.f5[j].f3 z.f5[j].f4 z.f5[j].f5 (wrap64 (deep - 1))).bind fun t362 => (if t362 = true then (if (0 < j ∧ z.f5[j].f0 = 2) then (if (rd_T48 z.f5 ((j : Int) - 1)).f0 = 2 then some false else impl_elOk.l0 k deep z.f5 z.f5.length ((j + 1 : Nat) : Int) z.f0 z.f1 z.f2 z.f3 z.f4 z.f5) else impl_elOk.l0 k deep z.f5 z.f5.length ((j + 1 : Nat) : Int) z.f0 z.f1 z.f2 z.f3 z.f4 z.f5) else some false) := fun deep k j h => by
   simp only [impl_elOk.l0, hrd j h, succ64 (show j < 9223372036854775807 by omega)]
   rw [if_pos (by omega), if_pos (by omega), if_pos (by omega)]
   by_cases c : 0 < j
   ·have e : wrap64 ((j : Int) - 1) = (j : Int) - 1 := w64 (by omega) (by omega)
    have c1 : (j : Int) > 0 := by omega
    have c2 : 0 ≤ (j : Int) - 1 := by omega
    have c3 : (j : Int) - 1 < (z.f5.length : Int) := by omega
    simp only [e, if_pos c1, if_pos c2, if_pos c3, c, true_and]
   ·have c1 : ¬ (j : Int) > 0 := by omega
    simp only [if_neg c1, c, false_and, if_false]
  have A := Ev.all (n := z.f5.length) (j0 := 0) (g := fun k j => spec_l15El.l0 k (j : Int) z.f0 z.f1 z.f2 z.f3 z.f4 z.f5) (e := false) (ok := fun j => (F j).2 = true ∧ ¬ Beside z.f5 j) (Nat.zero_le _)
   (fun j _ hj _ hok r hr => by
    refine Ev.step (fun k => hS k j hj) (Ev.bind (hF j hj).2.2.2.1 (Ev.ite_pos hok.1 ?_))
    by_cases c : 0 < j ∧ z.f5[j].f0 = 2
    ·exact Ev.ite_pos c (Ev.ite_neg (fun q => hok.2 ⟨c.1, by rw [hrd j hj]; exact c.2, q⟩) hr)
    ·exact Ev.ite_neg c hr)
   (fun j _ hj _ hok => by
    refine Ev.step (fun k => hS k j hj) (Ev.bind (hF j hj).2.2.2.1 ?_)
    by_cases c1 : (F j).2 = true
    ·have hb : Beside z.f5 j := Classical.byContradiction fun q => hok ⟨c1, q⟩
     have hb2 := hb.2.1
     rw [hrd j hj] at hb2
     exact Ev.ite_pos c1 (Ev.ite_pos ⟨hb.1, hb2⟩ (Ev.ite_pos hb.2.2 (Ev.now _)))
    ·exact Ev.ite_neg c1 (Ev.now _))
  have B : ∀ deep : Int, 1 ≤ deep → deep ≤ 60 → _ := fun (deep : Int) (hd0 : 1 ≤ deep) (hd1 : deep ≤ 60) =>
   Ev.all (n := z.f5.length) (j0 := 0) (g := fun k j => impl_elOk.l0 k deep z.f5 z.f5.length (j : Int) z.f0 z.f1 z.f2 z.f3 z.f4 z.f5) (e := false) (ok := fun j => ((F j).2 = true ∧ ((F j).1 : Int) ≤ deep - 1) ∧ ¬ Beside z.f5 j) (Nat.zero_le _)
   (fun j _ hj _ hok r hr => by
    have e := (hF j hj).2.2.2.2 (deep - 1) (by omega) (by omega)
    rw [← w64 (i := deep - 1) (by omega) (by omega), hok.1.1, Bool.true_and, decide_eq_true (by rw [w64 (by omega) (by omega)]; exact hok.1.2)] at e
    refine Ev.step (fun k => hI deep k j hj) (Ev.bind e (Ev.ite_pos rfl ?_))
    by_cases c : 0 < j ∧ z.f5[j].f0 = 2
    ·exact Ev.ite_pos c (Ev.ite_neg (fun q => hok.2 ⟨c.1, by rw [hrd j hj]; exact c.2, q⟩) hr)
    ·exact Ev.ite_neg c hr)
   (fun j _ hj _ hok => by
    have e := (hF j hj).2.2.2.2 (deep - 1) (by omega) (by omega)
    refine Ev.step (fun k => hI deep k j hj) ?_
    rw [w64 (i := deep - 1) (by omega) (by omega)]
    refine Ev.bind e ?_
    by_cases c1 : ((F j).2 && decide (((F j).1 : Int) ≤ deep - 1)) = true
    ·rw [Bool.and_eq_true, decide_eq_true_iff] at c1
     have hb : Beside z.f5 j := Classical.byContradiction fun q => hok ⟨c1, q⟩
     have hb2 := hb.2.1
     rw [hrd j hj] at hb2
     exact Ev.ite_pos (by rw [Bool.and_eq_true, decide_eq_true_iff]; exact c1) (Ev.ite_pos ⟨hb.1, hb2⟩ (Ev.ite_pos hb.2.2 (Ev.now _)))
    ·exact Ev.ite_neg c1 (Ev.now _))
  obtain ⟨nb, en1, en2⟩ := NameOk_same z.f2 hs2
  obtain ⟨tb, et1, et2⟩ := TextOk_same z.f4 hs4
  obtain ⟨ob, eo1, eo2⟩ := NoteOk_same z.f4 hs4
  obtain ⟨ab, ea1, ea2⟩ := strictAttrs_same z.f3 hl3 hg3
  have hD : top F z.f5.length + 1 ≤ m + 1 := by have := htm z.f5.length (Nat.le_refl _); omega
  have hlow : ∀ (b : Bool) (deep : Int), deep < 1 → (b && decide (((top F z.f5.length + 1 : Nat) : Int) ≤ deep)) = false := fun b deep h => by rw [decide_eq_false (by omega), Bool.and_false]
  have iLow : ∀ (deep : Int), deep < 1 → Ev (fun k => impl_elOk.f k z.f0 z.f1 z.f2 z.f3 z.f4 z.f5 deep) false := fun deep h => Ev.here fun k => by simp only [impl_elOk.f]; rw [if_pos h]
  by_cases c1 : z.f0 = 1
  ·-- a tag
   have tail : Ev (fun k => spec_l15El.l0 k (z.f5.length : Int) z.f0 z.f1 z.f2 z.f3 z.f4 z.f5) (decide (0 ≤ z.f1 ∧ z.f1 ≤ 2) && nb && ab && (z.f4.toList == ([] : List UInt8))) := by
    have hj : ∀ x : Bool, Ev (fun k => spec_l15El.j1 k x z.f0 z.f1 z.f2 z.f3 z.f4 z.f5) (decide (0 ≤ z.f1 ∧ z.f1 ≤ 2) && nb && ab && (z.f4.toList == ([] : List UInt8))) := fun x => by
     refine Ev.step (fun k => by simp only [spec_l15El.j1]; rw [if_pos c1]) (Ev.opt (Sg.l1In_eq z.f1 0 2) ?_)
     cases decide (0 ≤ z.f1 ∧ z.f1 ≤ 2) with
     | false => exact Ev.ite_neg Bool.false_ne_true (Ev.const fun _ => by simp)
     | true =>
      refine Ev.ite_pos rfl (Ev.bind en1 ?_)
      cases nb with
      | false => exact Ev.ite_neg Bool.false_ne_true (Ev.const fun _ => by simp)
      | true =>
       refine Ev.ite_pos rfl (Ev.bind ea1 ?_)
       cases ab with
       | false => exact Ev.ite_neg Bool.false_ne_true (Ev.const fun _ => by simp)
       | true => exact Ev.ite_pos rfl (Ev.const fun _ => by simp)
    have : ∃ x : Bool, ∀ k, spec_l15El.l0 (k + 1) (z.f5.length : Int) z.f0 z.f1 z.f2 z.f3 z.f4 z.f5 = spec_l15El.j1 k x z.f0 z.f1 z.f2 z.f3 z.f4 z.f5 := by
     by_cases q1 : z.f1 = 0
     ·by_cases q2 : z.f2.toList = []
      ·by_cases q3 : (z.f3.length : Int) = 0
       ·exact ⟨_, fun k => by simp only [spec_l15El.l0]; rw [if_neg (by omega), if_pos q1, if_pos q2, if_pos q3]⟩
       ·exact ⟨_, fun k => by simp only [spec_l15El.l0]; rw [if_neg (by omega), if_pos q1, if_pos q2, if_neg q3]⟩
      ·exact ⟨_, fun k => by simp only [spec_l15El.l0]; rw [if_neg (by omega), if_pos q1, if_neg q2]⟩
     ·exact ⟨_, fun k => by simp only [spec_l15El.l0]; rw [if_neg (by omega), if_neg q1]⟩
    obtain ⟨x, hx⟩ := this
    exact Ev.step hx (hj x)
   have iTag : ∀ deep : Int, 1 ≤ deep → ∀ r, (decide (0 ≤ z.f1 ∧ z.f1 ≤ 2) && nb && ab && (z.f4.toList == ([] : List UInt8))) = true → Ev (fun k => impl_elOk.l0 k deep z.f5 z.f5.length 0 z.f0 z.f1 z.f2 z.f3 z.f4 z.f5) r → Ev (fun k => impl_elOk.f k z.f0 z.f1 z.f2 z.f3 z.f4 z.f5 deep) r := fun deep hd r hc hr => by
    simp only [Bool.and_eq_true, beq_iff_eq] at hc
    obtain ⟨⟨⟨q1, q2⟩, q3⟩, q4⟩ := hc
    subst q2 q3
    have hj : Ev (fun k => impl_elOk.j1 k deep false z.f0 z.f1 z.f2 z.f3 z.f4 z.f5) r := Ev.step (fun k => by simp only [impl_elOk.j1]; rw [if_neg Bool.false_ne_true]) hr
    refine Ev.step (fun k => by simp only [impl_elOk.f]; rw [if_neg (by omega), if_pos c1]) (Ev.opt (Sg.inRange_eq z.f1 0 2) (Ev.ite_pos q1 (Ev.bind en2 (Ev.ite_pos rfl (Ev.bind ea2 (Ev.ite_pos rfl ?_))))))
    rw [show (z.f4.toList != ([] : List UInt8)) = false from by rw [q4]; rfl]
    exact hj
   have iTagNo : ∀ deep : Int, 1 ≤ deep → ¬ (decide (0 ≤ z.f1 ∧ z.f1 ≤ 2) && nb && ab && (z.f4.toList == ([] : List UInt8))) = true → Ev (fun k => impl_elOk.f k z.f0 z.f1 z.f2 z.f3 z.f4 z.f5 deep) false := fun deep hd hc => by
    have hj : Ev (fun k => impl_elOk.j1 k deep true z.f0 z.f1 z.f2 z.f3 z.f4 z.f5) false := Ev.here fun k => by simp only [impl_elOk.j1]; rw [if_pos True.intro]
    refine Ev.step (fun k => by simp only [impl_elOk.f]; rw [if_neg (by omega), if_pos c1]) (Ev.opt (Sg.inRange_eq z.f1 0 2) ?_)
    cases q1 : decide (0 ≤ z.f1 ∧ z.f1 ≤ 2) with
    | false => exact Ev.ite_neg Bool.false_ne_true hj
    | true =>
     rw [q1] at hc
     refine Ev.ite_pos rfl (Ev.bind en2 ?_)
     cases nb with
     | false => exact Ev.ite_neg Bool.false_ne_true hj
     | true =>
      refine Ev.ite_pos rfl (Ev.bind ea2 ?_)
      cases ab with
      | false => exact Ev.ite_neg Bool.false_ne_true hj
      | true =>
       refine Ev.ite_pos rfl ?_
       rw [show (z.f4.toList != ([] : List UInt8)) = true from by simpa using hc]
       exact hj
   have iEnd : ∀ deep : Int, Ev (fun k => impl_elOk.l0 k deep z.f5 z.f5.length (z.f5.length : Int) z.f0 z.f1 z.f2 z.f3 z.f4 z.f5) true := fun deep => Ev.here fun k => by simp only [impl_elOk.l0]; rw [if_neg (by omega)]
   by_cases ck : ∀ j, 0 ≤ j → j < z.f5.length → (F j).2 = true ∧ ¬ Beside z.f5 j
   ·refine ⟨top F z.f5.length + 1, (decide (0 ≤ z.f1 ∧ z.f1 ≤ 2) && nb && ab && (z.f4.toList == ([] : List UInt8))), by omega, hD, deepE, Ev.step (fun k => by simp only [spec_l15El.f]; rfl) (A.1 ck _ tail), fun deep hd0 hd1 => ?_⟩
    by_cases cl : deep < 1
    ·rw [hlow _ _ cl]; exact iLow deep cl
    by_cases cc : (decide (0 ≤ z.f1 ∧ z.f1 ≤ 2) && nb && ab && (z.f4.toList == ([] : List UInt8))) = true
    ·rw [cc, Bool.true_and]
     by_cases cd : ((top F z.f5.length + 1 : Nat) : Int) ≤ deep
     ·rw [decide_eq_true cd]
      refine iTag deep (by omega) true cc ((B deep (by omega) hd1).1 (fun j q1 q2 => ⟨⟨(ck j q1 q2).1, ?_⟩, (ck j q1 q2).2⟩) true (iEnd deep))
      have := (top_le F (deep - 1).toNat z.f5.length).mp (by omega) j q2
      omega
     ·rw [decide_eq_false cd]
      refine iTag deep (by omega) false cc ((B deep (by omega) hd1).2 fun hall => cd ?_)
      have := (top_le F (deep - 1).toNat z.f5.length).mpr fun j hj => by have := (hall j (Nat.zero_le _) hj).1.2; omega
      omega
    ·rw [Bool.eq_false_iff.mpr cc, Bool.false_and]
     exact iTagNo deep (by omega) cc
   ·refine ⟨top F z.f5.length + 1, false, by omega, hD, deepE, Ev.step (fun k => by simp only [spec_l15El.f]; rfl) (A.2 ck), fun deep hd0 hd1 => ?_⟩
    rw [Bool.false_and]
    by_cases cl : deep < 1
    ·exact iLow deep cl
    by_cases cc : (decide (0 ≤ z.f1 ∧ z.f1 ≤ 2) && nb && ab && (z.f4.toList == ([] : List UInt8))) = true
    ·exact iTag deep (by omega) false cc ((B deep (by omega) hd1).2 fun hall => ck fun j q1 q2 => ⟨(hall j q1 q2).1.1, (hall j q1 q2).2⟩)
    ·exact iTagNo deep (by omega) cc
  ·-- a text, a note, or neither
   have J0 : Ev (fun k => impl_elOk.j0 k true z.f0 z.f1 z.f2 z.f3 z.f4 z.f5) false := Ev.here fun k => by simp only [impl_elOk.j0]; rw [if_pos True.intro]
   have iOut : ∀ deep : Int, 1 ≤ deep → ¬ (z.f1 = 0 ∧ z.f2.toList = [] ∧ z.f3.length = 0 ∧ z.f5.length = 0) → Ev (fun k => impl_elOk.f k z.f0 z.f1 z.f2 z.f3 z.f4 z.f5 deep) false := fun deep hd hn => by
    by_cases q1 : z.f1 = 0
    ·by_cases q2 : z.f2.toList = []
     ·by_cases q3 : (z.f3.length : Int) > 0
      ·exact Ev.step (fun k => by simp only [impl_elOk.f]; rw [if_neg (by omega), if_neg c1, if_pos q1, if_pos q2, if_pos q3]) J0
      ·refine Ev.step (fun k => by simp only [impl_elOk.f]; rw [if_neg (by omega), if_neg c1, if_pos q1, if_pos q2, if_neg q3]) ?_
       rw [decide_eq_true (show (z.f5.length : Int) > 0 from by
        rcases Nat.eq_zero_or_pos z.f5.length with q | q
        ·exact absurd ⟨q1, q2, by omega, q⟩ hn
        ·omega)]
       exact J0
     ·exact Ev.step (fun k => by simp only [impl_elOk.f]; rw [if_neg (by omega), if_neg c1, if_pos q1, if_neg q2]) J0
    ·exact Ev.step (fun k => by simp only [impl_elOk.f]; rw [if_neg (by omega), if_neg c1, if_neg q1]) J0
   have sOut : ¬ (z.f1 = 0 ∧ z.f2.toList = [] ∧ z.f3.length = 0 ∧ z.f5.length = 0) → Ev (fun k => spec_l15El.l0 k (z.f5.length : Int) z.f0 z.f1 z.f2 z.f3 z.f4 z.f5) false := fun hn => by
    have hj : Ev (fun k => spec_l15El.j1 k false z.f0 z.f1 z.f2 z.f3 z.f4 z.f5) false := Ev.here fun k => by
     simp only [spec_l15El.j1]; rw [if_neg c1]
     by_cases q : z.f0 = 2
     ·rw [if_pos q, if_neg Bool.false_ne_true]
     ·rw [if_neg q]
      by_cases q2 : z.f0 = 3
      ·rw [if_pos q2, if_neg Bool.false_ne_true]
      ·rw [if_neg q2]
    by_cases q1 : z.f1 = 0
    ·by_cases q2 : z.f2.toList = []
     ·by_cases q3 : (z.f3.length : Int) = 0
      ·refine Ev.step (fun k => by simp only [spec_l15El.l0]; rw [if_neg (by omega), if_pos q1, if_pos q2, if_pos q3]) ?_
       rw [show ((z.f5.length : Int) == 0) = false from by
        rw [beq_eq_false_iff_ne]
        intro q
        exact hn ⟨q1, q2, by omega, by omega⟩]
       exact hj
      ·exact Ev.step (fun k => by simp only [spec_l15El.l0]; rw [if_neg (by omega), if_pos q1, if_pos q2, if_neg q3]) hj
     ·exact Ev.step (fun k => by simp only [spec_l15El.l0]; rw [if_neg (by omega), if_pos q1, if_neg q2]) hj
    ·exact Ev.step (fun k => by simp only [spec_l15El.l0]; rw [if_neg (by omega), if_neg q1]) hj
   by_cases cp : z.f1 = 0 ∧ z.f2.toList = [] ∧ z.f3.length = 0 ∧ z.f5.length = 0
   ·obtain ⟨q1, q2, q3, q5⟩ := cp
    have hv : ∃ v : Bool, Ev (fun k => spec_l15El.j1 k true z.f0 z.f1 z.f2 z.f3 z.f4 z.f5) v ∧ Ev (fun k => impl_elOk.j0 k false z.f0 z.f1 z.f2 z.f3 z.f4 z.f5) v := by
     by_cases k2 : z.f0 = 2
     ·by_cases k4 : z.f4.toList = []
      ·exact ⟨false, Ev.here fun k => by simp only [spec_l15El.j1]; rw [if_neg c1, if_pos k2, if_pos True.intro, if_pos k4], Ev.here fun k => by simp only [impl_elOk.j0]; rw [if_neg Bool.false_ne_true, if_pos k2, if_pos k4, if_neg (by omega)]⟩
      ·refine ⟨tb, Ev.step (fun k => by simp only [spec_l15El.j1]; rw [if_neg c1, if_pos k2, if_pos True.intro, if_neg k4]) (Ev.bind et1 (Ev.now _)), Ev.step (fun k => by simp only [impl_elOk.j0]; rw [if_neg Bool.false_ne_true, if_pos k2, if_neg k4]) (Ev.bind et2 ?_)⟩
       cases tb with
       | true => exact Ev.ite_pos rfl (Ev.now _)
       | false => exact Ev.ite_neg Bool.false_ne_true (Ev.ite_neg (by omega) (Ev.now _))
     ·by_cases k3 : z.f0 = 3
      ·exact ⟨ob, Ev.step (fun k => by simp only [spec_l15El.j1]; rw [if_neg c1, if_neg k2, if_pos k3, if_pos True.intro]) (Ev.bind eo1 (Ev.now _)), Ev.step (fun k => by simp only [impl_elOk.j0]; rw [if_neg Bool.false_ne_true, if_neg k2, if_pos k3]) (Ev.bind eo2 (Ev.now _))⟩
      ·exact ⟨false, Ev.here fun k => by simp only [spec_l15El.j1]; rw [if_neg c1, if_neg k2, if_neg k3], Ev.here fun k => by simp only [impl_elOk.j0]; rw [if_neg Bool.false_ne_true, if_neg k2, if_neg k3]⟩
    obtain ⟨v, v1, v2⟩ := hv
    have ht0 : top F z.f5.length = 0 := by rw [q5]; rfl
    refine ⟨top F z.f5.length + 1, v, by omega, hD, deepE, Ev.step (fun k => by simp only [spec_l15El.f]; rfl) (A.1 (fun j _ h => by omega) _ (Ev.step (fun k => by simp only [spec_l15El.l0]; rw [if_neg (by omega), if_pos q1, if_pos q2, if_pos (by omega)]) (by
     rw [show ((z.f5.length : Int) == 0) = true from by rw [beq_iff_eq]; omega]; exact v1))), fun deep hd0 hd1 => ?_⟩
    by_cases cl : deep < 1
    ·rw [hlow _ _ cl]; exact iLow deep cl
    rw [decide_eq_true (by omega), Bool.and_true]
    refine Ev.step (fun k => by simp only [impl_elOk.f]; rw [if_neg cl, if_neg c1, if_pos q1, if_pos q2, if_neg (by omega)]) ?_
    rw [decide_eq_false (by omega)]
    exact v2
   ·refine ⟨top F z.f5.length + 1, false, by omega, hD, deepE, Ev.step (fun k => by simp only [spec_l15El.f]; rfl) ?_, fun deep hd0 hd1 => ?_⟩
    ·by_cases ck : ∀ j, 0 ≤ j → j < z.f5.length → (F j).2 = true ∧ ¬ Beside z.f5 j
     ·exact A.1 ck _ (sOut cp)
     ·exact A.2 ck
    ·rw [Bool.false_and]
     by_cases cl : deep < 1
     ·exact iLow deep cl
     ·exact iOut deep (by omega) cp
theorem ElOk_same (m : Nat) (z : S48) (hz : G48 1048576 m z) (hm : m ≤ 1048577) : ∃ b : Bool, Ev (fun k => spec_ElOk.f k z.f0 z.f1 z.f2 z.f3 z.f4 z.f5) b ∧ Ev (fun k => impl_ElOk.f k z.f0 z.f1 z.f2 z.f3 z.f4 z.f5) b := by
 obtain ⟨D, b, _, _, e1, e2, e3⟩ := ElOk_main m z hz hm
 unfold spec_ElOk.f impl_ElOk.f
 refine ⟨b && decide ((D : Int) ≤ 60), Ev.bind e1 ?_, Ev.bind (e3 60 (by omega) (by omega)) (Ev.now _)⟩
 by_cases c : (D : Int) ≤ 60
 ·rw [decide_eq_true c, Bool.and_true]; exact Ev.ite_pos c (Ev.bind e2 (Ev.now _))
 ·rw [decide_eq_false c, Bool.and_false]; exact Ev.ite_neg c (Ev.now _)
end Go.Proofs.Ytaomfbbbdddlmaa.Le
