/- A page is right: the program's PageOk and the reference's tell the same. No conditions but the sizes. -/
import Derived.Test.YtgljgbkbjlondaaPlaceBase
set_option linter.unusedVariables false
set_option linter.unusedSimpArgs false
namespace Go.Proofs.Ytgljgbkbjlondaa.Pg
open Go.RowKit Go.Proofs.Ytgljgbkbjlondaa.P Go.Proofs.Ytgljgbkbjlondaa.Evs Go.Proofs.Ytgljgbkbjlondaa.Tr Go.Proofs.YtgljgbkbjlondaaW.PrintWords Go.Proofs.YtgljgbkbjlondaaW.PrintLast

def FormOk (L : List S50) (F : List Int) (j : Nat) : Prop := rd F (j : Int) = -1 ∨ fo L (rd F (j : Int)) = true
def hB (L : List S50) (hd : Int) : Bool := decide (hd = 0) || tag L hd (⟨#[104, 101, 97, 100]⟩ : ByteArray)
def bB (L : List S50) (bd : Int) : Bool := decide (bd = 0) || tag L bd (⟨#[98, 111, 100, 121]⟩ : ByteArray)
theorem spec_forms (L : List S50) (O F : List Int) (hd bd : Int) (hL : L.length ≤ 1048576) (hF : F.length ≤ 1048576) :
  ((∀ j, 0 ≤ j → j < F.length → FormOk L F j) → Ev (fun k => spec_PageOk.l1 k 0 L O F hd bd) true) ∧ ((¬ ∀ j, 0 ≤ j → j < F.length → FormOk L F j) → Ev (fun k => spec_PageOk.l1 k 0 L O F hd bd) false) := by
 have A := Ev.all (n := F.length) (j0 := 0) (g := fun k j => spec_PageOk.l1 k (j : Int) L O F hd bd) (e := false) (ok := FormOk L F) (Nat.zero_le _)
  (fun j _ hj _ hok r hr => by
   have hw : wrap64 ((j : Int) + 1) = ((j + 1 : Nat) : Int) := succ64 (by omega)
   by_cases c : rd F (j : Int) = -1
   ·exact Ev.step (fun k => by simp only [spec_PageOk.l1, hw]; rw [if_pos (by omega), if_pos (by omega), if_pos c]) hr
   ·have hf := hok.resolve_left c
    unfold fo at hf
    rw [Bool.and_eq_true] at hf
    obtain ⟨h0, h1, h2⟩ := tag_in hf.1
    refine Ev.step (f := fun k => (spec_Format.f k (rd_T50 L (rd F (j : Int))).f2).bind fun t => if t = true then spec_PageOk.l1 k ((j + 1 : Nat) : Int) L O F hd bd else some false) (fun k => ?_) (Ev.bind (fm_spec _) (Ev.ite_pos hf.2 hr))
    simp only [spec_PageOk.l1, hw]
    rw [if_pos (by omega), if_pos (by omega), if_neg c, tag_spec L hL]
    simp only [Option.bind_some]
    rw [if_pos hf.1, if_pos h0, if_pos h1])
  (fun j _ hj _ hok => by
   have c : ¬ rd F (j : Int) = -1 := fun q => hok (Or.inl q)
   have hw : wrap64 ((j : Int) + 1) = ((j + 1 : Nat) : Int) := succ64 (by omega)
   by_cases t : tag L (rd F (j : Int)) (⟨#[]⟩ : ByteArray) = true
   ·obtain ⟨h0, h1, h2⟩ := tag_in t
    have hf : ¬ fm (rd_T50 L (rd F (j : Int))).f2 = true := fun q => hok (Or.inr (by unfold fo; rw [t, q]; rfl))
    refine Ev.step (f := fun k => (spec_Format.f k (rd_T50 L (rd F (j : Int))).f2).bind fun t => if t = true then spec_PageOk.l1 k ((j + 1 : Nat) : Int) L O F hd bd else some false) (fun k => ?_) (Ev.bind (fm_spec _) (Ev.ite_neg hf (Ev.now _)))
    simp only [spec_PageOk.l1, hw]
    rw [if_pos (by omega), if_pos (by omega), if_neg c, tag_spec L hL]
    simp only [Option.bind_some]
    rw [if_pos t, if_pos h0, if_pos h1]
   ·refine Ev.here fun k => ?_
    simp only [spec_PageOk.l1]
    rw [if_pos (by omega), if_pos (by omega), if_neg c, tag_spec L hL]
    simp only [Option.bind_some]
    rw [if_neg t])
 exact ⟨fun h => A.1 h true (Ev.here fun k => by simp only [spec_PageOk.l1]; rw [if_neg (by omega)]), A.2⟩
def OpenS (L : List S50) (O : List Int) (j : Nat) : Prop := tag L (rd O (j : Int)) (⟨#[]⟩ : ByteArray) = true ∧ O.count (rd O (j : Int)) = 1
def OpenI (L : List S50) (O : List Int) (j : Nat) : Prop := tag L (rd O (j : Int)) (⟨#[]⟩ : ByteArray) = true ∧ ∀ i, i < j → ¬ rd O (i : Int) = rd O (j : Int)
theorem open_iff (L : List S50) (O : List Int) : (∀ j, 0 ≤ j → j < O.length → OpenS L O j) ↔ ∀ j, 0 ≤ j → j < O.length → OpenI L O j := by
 constructor
 ·intro h j h0 hj
  exact ⟨(h j h0 hj).1, (once_iff O).mp (fun j hj => (h j (Nat.zero_le _) hj).2) j hj⟩
 ·intro h j h0 hj
  exact ⟨(h j h0 hj).1, (once_iff O).mpr (fun j hj => (h j (Nat.zero_le _) hj).2) j hj⟩
theorem spec_open (L : List S50) (O F : List Int) (hd bd : Int) (hL : L.length ≤ 1048576) (hO : O.length ≤ 1048576) :
  ((∀ j, 0 ≤ j → j < O.length → OpenS L O j) → ∀ r, Ev (fun k => spec_PageOk.l1 k 0 L O F hd bd) r → Ev (fun k => spec_PageOk.l0 k 0 L O F hd bd) r) ∧ ((¬ ∀ j, 0 ≤ j → j < O.length → OpenS L O j) → Ev (fun k => spec_PageOk.l0 k 0 L O F hd bd) false) := by
 have A := Ev.all (n := O.length) (j0 := 0) (g := fun k j => spec_PageOk.l0 k (j : Int) L O F hd bd) (e := false) (ok := OpenS L O) (Nat.zero_le _)
  (fun j _ hj _ hok r hr => by
   have hw : wrap64 ((j : Int) + 1) = ((j + 1 : Nat) : Int) := succ64 (by omega)
   refine Ev.step (f := fun k => (spec_l6Count.f k O (rd O (j : Int))).bind fun t => if t = 1 then spec_PageOk.l0 k ((j + 1 : Nat) : Int) L O F hd bd else some false) (fun k => ?_) (Ev.bind (Count_tells O _ hO) (Ev.ite_pos (by rw [hok.2]; rfl) hr))
   simp only [spec_PageOk.l0, hw]
   rw [if_pos (by omega), if_pos (by omega), tag_spec L hL]
   simp only [Option.bind_some]
   rw [if_pos hok.1])
  (fun j _ hj _ hok => by
   have hw : wrap64 ((j : Int) + 1) = ((j + 1 : Nat) : Int) := succ64 (by omega)
   by_cases t : tag L (rd O (j : Int)) (⟨#[]⟩ : ByteArray) = true
   ·have hc : ¬ ((O.count (rd O (j : Int)) : Nat) : Int) = 1 := fun q => hok ⟨t, by omega⟩
    refine Ev.step (f := fun k => (spec_l6Count.f k O (rd O (j : Int))).bind fun t => if t = 1 then spec_PageOk.l0 k ((j + 1 : Nat) : Int) L O F hd bd else some false) (fun k => ?_) (Ev.bind (Count_tells O _ hO) (Ev.ite_neg hc (Ev.now _)))
    simp only [spec_PageOk.l0, hw]
    rw [if_pos (by omega), if_pos (by omega), tag_spec L hL]
    simp only [Option.bind_some]
    rw [if_pos t]
   ·refine Ev.here fun k => ?_
    simp only [spec_PageOk.l0]
    rw [if_pos (by omega), if_pos (by omega), tag_spec L hL]
    simp only [Option.bind_some]
    rw [if_neg t])
 exact ⟨fun h r hr => A.1 h r (Ev.step (fun k => by simp only [spec_PageOk.l0]; rw [if_neg (by omega)]) hr), A.2⟩
theorem impl_forms (L : List S50) (O F : List Int) (hd bd : Int) (hL : L.length ≤ 1048576) (hN : Named L) (hF : F.length ≤ 1048576) :
  ((∀ j, 0 ≤ j → j < F.length → FormOk L F j) → ∀ r, Ev (fun k => impl_PageOk.l1 k F F.length F.length L O F hd bd) r → Ev (fun k => impl_PageOk.l1 k F F.length 0 L O F hd bd) r) ∧ ((¬ ∀ j, 0 ≤ j → j < F.length → FormOk L F j) → Ev (fun k => impl_PageOk.l1 k F F.length 0 L O F hd bd) (false, hd, bd)) :=
 Ev.all (n := F.length) (j0 := 0) (g := fun k j => impl_PageOk.l1 k F F.length (j : Int) L O F hd bd) (e := (false, hd, bd)) (ok := FormOk L F) (Nat.zero_le _)
  (fun j _ hj _ hok r hr => by
   have hw : wrap64 ((j : Int) + 1) = ((j + 1 : Nat) : Int) := succ64 (by omega)
   refine Ev.step (fun k => ?_) hr
   simp only [impl_PageOk.l1, hw]
   rw [if_pos (by omega), if_pos (by omega), if_pos (by omega)]
   by_cases c : rd F (j : Int) = -1
   ·rw [if_pos c]
   ·rw [if_neg c, fo_impl L hL hN]
    simp only [Option.bind_some]
    rw [if_pos (hok.resolve_left c)])
  (fun j _ hj _ hok => Ev.here fun k => by
   have c : ¬ rd F (j : Int) = -1 := fun q => hok (Or.inl q)
   simp only [impl_PageOk.l1]
   rw [if_pos (by omega), if_pos (by omega), if_pos (by omega), if_neg c, fo_impl L hL hN]
   simp only [Option.bind_some]
   rw [if_neg (fun q => hok (Or.inr q))])
theorem impl_open (L : List S50) (O F : List Int) (hd bd : Int) (hL : L.length ≤ 1048576) (hO : O.length ≤ 1048576) :
  ((∀ j, 0 ≤ j → j < O.length → OpenI L O j) → ∀ r, Ev (fun k => impl_PageOk.l1 k F F.length 0 L O F hd bd) r → Ev (fun k => impl_PageOk.l0 k O O.length 0 L O F hd bd) r) ∧ ((¬ ∀ j, 0 ≤ j → j < O.length → OpenI L O j) → Ev (fun k => impl_PageOk.l0 k O O.length 0 L O F hd bd) (false, hd, bd)) := by
 have A := Ev.all (n := O.length) (j0 := 0) (g := fun k j => impl_PageOk.l0 k O O.length (j : Int) L O F hd bd) (e := (false, hd, bd)) (ok := OpenI L O) (Nat.zero_le _)
  (fun j _ hj _ hok r hr => by
   have hw : wrap64 ((j : Int) + 1) = ((j + 1 : Nat) : Int) := succ64 (by omega)
   obtain ⟨i, h1, h2⟩ := Index_tells O (rd O (j : Int)) hO ⟨j, hj, rfl⟩
   obtain rfl : i = j := First_uniq h1 ⟨hj, rfl, hok.2⟩
   refine Ev.step (f := fun k => (impl_PageOk.ixf k L O F hd bd (rd O (i : Int))).bind fun bt => if bt.1 = (i : Int) then impl_PageOk.l0 k O O.length ((i + 1 : Nat) : Int) L O F bt.2.1 bt.2.2 else some (false, bt.2.1, bt.2.2)) (fun k => ?_) (Ev.bind (a := ((i : Int), hd, bd)) (Ev.bind h2 (Ev.now _)) (Ev.ite_pos rfl hr))
   simp only [impl_PageOk.l0, hw]
   rw [if_pos (by omega), if_pos (by omega), if_pos (by omega), tag_impl L hL]
   simp only [Option.bind_some]
   rw [if_pos hok.1])
  (fun j _ hj _ hok => by
   have hw : wrap64 ((j : Int) + 1) = ((j + 1 : Nat) : Int) := succ64 (by omega)
   by_cases t : tag L (rd O (j : Int)) (⟨#[]⟩ : ByteArray) = true
   ·obtain ⟨i, h1, h2⟩ := Index_tells O (rd O (j : Int)) hO ⟨j, hj, rfl⟩
    have hne : ¬ (i : Int) = (j : Int) := fun q => by
     have e : i = j := by omega
     rw [e] at h1
     exact hok ⟨t, h1.2.2⟩
    refine Ev.step (f := fun k => (impl_PageOk.ixf k L O F hd bd (rd O (j : Int))).bind fun bt => if bt.1 = (j : Int) then impl_PageOk.l0 k O O.length ((j + 1 : Nat) : Int) L O F bt.2.1 bt.2.2 else some (false, bt.2.1, bt.2.2)) (fun k => ?_) (Ev.bind (a := ((i : Int), hd, bd)) (Ev.bind h2 (Ev.now _)) (Ev.ite_neg hne (Ev.now _)))
    simp only [impl_PageOk.l0, hw]
    rw [if_pos (by omega), if_pos (by omega), if_pos (by omega), tag_impl L hL]
    simp only [Option.bind_some]
    rw [if_pos t]
   ·refine Ev.here fun k => ?_
    simp only [impl_PageOk.l0]
    rw [if_pos (by omega), if_pos (by omega), if_pos (by omega), tag_impl L hL]
    simp only [Option.bind_some]
    rw [if_neg t])
 exact ⟨fun h r hr => A.1 h r (Ev.step (fun k => by simp only [impl_PageOk.l0]; rw [if_neg (by omega)]) hr), A.2⟩
def Fine (L : List S50) (O F : List Int) (hd bd : Int) : Prop := (O.length : Int) ≤ 40 ∧ (F.length : Int) ≤ 120 ∧ hB L hd = true ∧ bB L bd = true ∧ Right L
theorem impl_tail (L : List S50) (O F : List Int) (hd bd : Int) (hS : Small L) :
  (Fine L O F hd bd → Ev (fun k => impl_PageOk.l1 k F F.length F.length L O F hd bd) (true, hd, bd)) ∧ (¬ Fine L O F hd bd → Ev (fun k => impl_PageOk.l1 k F F.length F.length L O F hd bd) (false, hd, bd)) := by
 have h1 := fun c => named_impl L hS.1 O F hd bd hd (⟨#[104, 101, 97, 100]⟩ : ByteArray) c
 have h2 := fun c => named_impl L hS.1 O F hd bd bd (⟨#[98, 111, 100, 121]⟩ : ByteArray) c
 replace h1 := h1 (by rw [Sg.toList_data]; decide)
 replace h2 := h2 (by rw [Sg.toList_data]; decide)
 have hx : ∀ k, impl_PageOk.l1 (k + 1) F F.length F.length L O F hd bd = if (O.length : Int) ≤ 40 then (if (F.length : Int) ≤ 120 then (if hB L hd = true then (if bB L bd = true then (impl_PageOk.trf k L O F hd bd).bind fun bt => some (bt.1, bt.2.1, bt.2.2) else some (false, hd, bd)) else some (false, hd, bd)) else some (false, hd, bd)) else some (false, hd, bd) := fun k => by
  simp only [impl_PageOk.l1]
  rw [if_neg (by omega), h1]
  simp only [Option.bind_some]
  rw [h2]
  rfl
 constructor
 ·intro ⟨q1, q2, q3, q4, q5⟩
  refine Ev.step (f := fun k => (impl_PageOk.trf k L O F hd bd).bind fun bt => some (bt.1, bt.2.1, bt.2.2)) (fun k => ?_) (Ev.bind (a := (true, hd, bd)) (Ev.bind ((impl_tells L hS).1 q5) (Ev.now _)) (Ev.now _))
  rw [hx, if_pos q1, if_pos q2, if_pos q3, if_pos q4]
 ·intro q
  by_cases q1 : (O.length : Int) ≤ 40
  ·by_cases q2 : (F.length : Int) ≤ 120
   ·by_cases q3 : hB L hd = true
    ·by_cases q4 : bB L bd = true
     ·refine Ev.step (f := fun k => (impl_PageOk.trf k L O F hd bd).bind fun bt => some (bt.1, bt.2.1, bt.2.2)) (fun k => ?_) (Ev.bind (a := (false, hd, bd)) (Ev.bind ((impl_tells L hS).2 fun q5 => q ⟨q1, q2, q3, q4, q5⟩) (Ev.now _)) (Ev.now _))
      rw [hx, if_pos q1, if_pos q2, if_pos q3, if_pos q4]
     ·exact Ev.here fun k => by rw [hx, if_pos q1, if_pos q2, if_pos q3, if_neg q4]
    ·exact Ev.here fun k => by rw [hx, if_pos q1, if_pos q2, if_neg q3]
   ·exact Ev.here fun k => by rw [hx, if_pos q1, if_neg q2]
  ·exact Ev.here fun k => by rw [hx, if_neg q1]
theorem spec_head (L : List S50) (O F : List Int) (hd bd : Int) (hS : Small L) (r : Bool) :
  (Fine L O F hd bd → Ev (fun k => spec_PageOk.l0 k 0 L O F hd bd) r → Ev (fun k => spec_PageOk.f k L O F hd bd) r) ∧ (¬ Fine L O F hd bd → Ev (fun k => spec_PageOk.f k L O F hd bd) false) := by
 have jt : Ev (fun k => spec_PageOk.j0 k true L O F hd bd) false := Ev.here fun k => by unfold spec_PageOk.j0; exact if_pos rfl
 have jf : ∀ r, Ev (fun k => spec_PageOk.l0 k 0 L O F hd bd) r → Ev (fun k => spec_PageOk.j0 k false L O F hd bd) r := fun r h => Ev.step (fun k => by unfold spec_PageOk.j0; exact if_neg Bool.false_ne_true) h
 have h1 := tag_spec L hS.1 hd (⟨#[104, 101, 97, 100]⟩ : ByteArray)
 have h2 := tag_spec L hS.1 bd (⟨#[98, 111, 100, 121]⟩ : ByteArray)
 have hx : ∀ k, spec_PageOk.f k L O F hd bd = (spec_TreeOk.f k L).bind fun t => if t = true then (if (O.length : Int) > 40 then spec_PageOk.j0 k true L O F hd bd else if (F.length : Int) > 120 then spec_PageOk.j0 k true L O F hd bd else spec_PageOk.j0 k (!(hB L hd && bB L bd)) L O F hd bd) else spec_PageOk.j0 k true L O F hd bd := fun k => by
  unfold spec_PageOk.f hB bB
  rw [h1, h2]
  simp only [Option.bind_some]
  congr 1
  funext t
  by_cases a1 : hd = 0
  ·by_cases a2 : bd = 0
   ·rw [if_pos a1, if_pos a2, decide_eq_true a1, decide_eq_true a2]; rfl
   ·rw [if_pos a1, if_neg a2, decide_eq_true a1, decide_eq_false a2, Bool.true_or, Bool.false_or, Bool.true_and]
  ·rw [if_neg a1, decide_eq_false a1, Bool.false_or]
   cases tag L hd (⟨#[104, 101, 97, 100]⟩ : ByteArray) with
   | false => rw [if_neg Bool.false_ne_true]; rfl
   | true =>
    rw [if_pos rfl, Bool.true_and]
    by_cases a2 : bd = 0
    ·rw [if_pos a2, decide_eq_true a2]; rfl
    ·rw [if_neg a2, decide_eq_false a2, Bool.false_or]
 constructor
 ·intro ⟨q1, q2, q3, q4, q5⟩ h
  simp only [hx, q3, q4]
  exact Ev.bind ((spec_tells L hS).1 q5) (Ev.ite_pos rfl (Ev.ite_neg (by omega) (Ev.ite_neg (by omega) (jf r h))))
 ·intro q
  simp only [hx]
  by_cases q5 : Right L
  ·refine Ev.bind ((spec_tells L hS).1 q5) (Ev.ite_pos rfl ?_)
   by_cases q1 : (O.length : Int) > 40
   ·exact Ev.ite_pos q1 jt
   ·refine Ev.ite_neg q1 ?_
    by_cases q2 : (F.length : Int) > 120
    ·exact Ev.ite_pos q2 jt
    ·refine Ev.ite_neg q2 ?_
     have : (!(hB L hd && bB L bd)) = true := by
      cases e1 : hB L hd with
      | false => rfl
      | true =>
       cases e2 : bB L bd with
       | false => rfl
       | true => exact absurd ⟨by omega, by omega, e1, e2, q5⟩ q
     rw [this]
     exact jt
  ·exact Ev.bind ((spec_tells L hS).2 q5) (Ev.ite_neg Bool.false_ne_true jt)
theorem PageOk_tells (L : List S50) (O F : List Int) (hd bd : Int) (hS : Small L) (hN : Named L) (hO : O.length ≤ 1048576) (hF : F.length ≤ 1048576) :
  ∃ v : Bool, (v = true → Right L ∧ ∀ j, j < O.length → tag L (rd O (j : Int)) (⟨#[]⟩ : ByteArray) = true) ∧ Ev (fun k => spec_PageOk.f k L O F hd bd) v ∧ Ev (fun k => impl_PageOk.f k L O F hd bd) v := by
 have hL := hS.1
 have go : ∀ v, Ev (fun k => impl_PageOk.l0 k O O.length 0 L O F hd bd) (v, hd, bd) → Ev (fun k => impl_PageOk.f k L O F hd bd) v := fun v h => Ev.bind (a := (v, hd, bd)) h (Ev.now _)
 by_cases c1 : ∀ j, 0 ≤ j → j < O.length → OpenS L O j
 ·have i1 := (impl_open L O F hd bd hL hO).1 ((open_iff L O).mp c1)
  have s1 := (spec_open L O F hd bd hL hO).1 c1
  by_cases c2 : ∀ j, 0 ≤ j → j < F.length → FormOk L F j
  ·have i2 := (impl_forms L O F hd bd hL hN hF).1 c2
   have s2 := (spec_forms L O F hd bd hL hF).1 c2
   by_cases c3 : Fine L O F hd bd
   ·exact ⟨true, fun _ => ⟨c3.2.2.2.2, fun j hj => (c1 j (Nat.zero_le _) hj).1⟩, (spec_head L O F hd bd hS true).1 c3 (s1 _ s2), go _ (i1 _ (i2 _ ((impl_tail L O F hd bd hS).1 c3)))⟩
   ·exact ⟨false, fun h => absurd h Bool.false_ne_true, (spec_head L O F hd bd hS true).2 c3, go _ (i1 _ (i2 _ ((impl_tail L O F hd bd hS).2 c3)))⟩
  ·refine ⟨false, fun h => absurd h Bool.false_ne_true, ?_, go _ (i1 _ ((impl_forms L O F hd bd hL hN hF).2 c2))⟩
   by_cases c3 : Fine L O F hd bd
   ·exact (spec_head L O F hd bd hS false).1 c3 (s1 _ ((spec_forms L O F hd bd hL hF).2 c2))
   ·exact (spec_head L O F hd bd hS true).2 c3
 ·refine ⟨false, fun h => absurd h Bool.false_ne_true, ?_, go _ ((impl_open L O F hd bd hL hO).2 fun h => c1 ((open_iff L O).mpr h))⟩
  by_cases c3 : Fine L O F hd bd
  ·exact (spec_head L O F hd bd hS false).1 c3 ((spec_open L O F hd bd hL hO).2 c1)
  ·exact (spec_head L O F hd bd hS true).2 c3
end Go.Proofs.Ytgljgbkbjlondaa.Pg
