/- The program's TreeOk and the reference's tell the same: a tree is right. No conditions but the sizes. -/
import Derived.Test.YtgljgbkbjlondaaTreeOrder
import Derived.Test.YtgljgbkbjlondaaPlainBase
import Derived.Test.YtgljgbkbjlondaaPl12
import Derived.Test.YtgljgbkbjlondaaPl14
import Derived.Test.YtgljgbkbjlondaaPl4
set_option linter.unusedVariables false
set_option linter.unusedSimpArgs false
namespace Go.Proofs.Ytgljgbkbjlondaa.Tr
open Go.RowKit Go.Proofs.Ytgljgbkbjlondaa.P Go.Proofs.Ytgljgbkbjlondaa.Evs Go.Proofs.YtgljgbkbjlondaaW.PrintWords Go.Proofs.YtgljgbkbjlondaaW.PrintLast

/-- No attribute's name stands twice. -/
def Once (l : List S71) : Prop := ∀ j, ∀ h : j < l.length, (l.take j).any (hasA l[j].f0) = false
theorem Once_tells (l : List S71) (hl : l.length ≤ 1048576) : (Once l → Ev (fun k => impl_namesOnce.f k l) true) ∧ (¬ Once l → Ev (fun k => impl_namesOnce.f k l) false) := by
 have hx : ∀ k (j : Nat) (hj : j < l.length), impl_namesOnce.l0 (k + 1) l l l.length j = if (l.take j).any (hasA l[j].f0) = true then some false else impl_namesOnce.l0 k l l l.length ((j + 1 : Nat) : Int) := fun k j hj => by
  have hrd : rd_T71 l (j : Int) = l[j] := rdT l _ j hj
  simp only [impl_namesOnce.l0, hrd, succ64 (show j < 9223372036854775807 by omega), Int.toNat_natCast, impl_hasAttr.f, Option.bind_some]
  rw [if_pos (by omega), if_pos (by omega), if_pos (by omega), if_pos (by omega)]
 have A := Ev.all (n := l.length) (j0 := 0) (g := fun k j => impl_namesOnce.l0 k l l l.length (j : Int)) (e := false) (ok := fun j => ∀ h : j < l.length, (l.take j).any (hasA l[j].f0) = false) (Nat.zero_le _)
  (fun j _ hj _ hok r hr => Ev.step (fun k => by rw [hx k j hj, if_neg (by rw [hok hj]; exact Bool.false_ne_true)]) hr)
  (fun j _ hj _ hok => Ev.here fun k => by
   rw [hx k j hj, if_pos]
   cases c : (l.take j).any (hasA l[j].f0) with
   | true => rfl
   | false => exact absurd (fun _ => c) hok)
 exact ⟨fun h => A.1 (fun j _ hj => h j) true (Ev.here fun k => by simp only [impl_namesOnce.l0]; rw [if_neg (by omega)]), fun h => A.2 fun hall => h fun j hj => hall j (Nat.zero_le _) hj hj⟩
/-- An item is right by itself, wherever it stands. -/
def Plain (x : S50) : Prop :=
 if x.f0 = 2 then ¬ x.f2.toList = [] ∧ x.f4.toList = [] ∧ 0 ≤ x.f1 ∧ x.f1 ≤ 2 ∧ Once x.f3
 else x.f2.toList = [] ∧ x.f3.length = 0 ∧ x.f1 = 0 ∧ (if x.f0 = 1 then x.f4.toList = [] else (x.f0 = 3 ∨ x.f0 = 4 ∨ x.f0 = 5) ∧ x.f6.length = 0)
theorem Plain_spec (x : S50) (hl : x.f3.length ≤ 1048576) : ∃ v : Bool, (v = true ↔ Plain x) ∧ Ev (fun k => spec_l6Plain.f k x.f0 x.f1 x.f2 x.f3 x.f4 x.f5 x.f6) v := by
 obtain ⟨b, e1, e2⟩ := Pl.Names_loop x.f3 hl (x.f0 == 2) x.f0 x.f1 x.f5 x.f2 x.f4 x.f6 x.f3.length 0 (by omega) (by omega)
 replace e1 : Ev (fun k => impl_namesOnce.f k x.f3) b := e1
 have hb : b = true ↔ Once x.f3 := by
  obtain ⟨o1, o2⟩ := Once_tells x.f3 hl
  constructor
  ·intro h
   subst h
   apply Classical.byContradiction
   intro c
   exact Bool.noConfusion (Ev.uniq e1 (o2 c))
  ·intro h
   exact Ev.uniq e1 (o1 h)
 have J0 : Ev (fun k => spec_l6Plain.j0 k (x.f0 == 2) true x.f0 x.f1 x.f2 x.f3 x.f4 x.f5 x.f6) false := Ev.here fun k => by simp only [spec_l6Plain.j0]; rw [if_pos True.intro]
 have J1 : Ev (fun k => spec_l6Plain.j0 k (x.f0 == 2) false x.f0 x.f1 x.f2 x.f3 x.f4 x.f5 x.f6) (b && Pl.tailP x.f0 x.f4 x.f6 (x.f0 == 2)) := Ev.step (fun k => by simp only [spec_l6Plain.j0]; rw [if_neg (by decide)]; rfl) e2
 have no : ∀ {P : Prop}, ¬ P → (false = true ↔ P) := fun h => ⟨fun q => Bool.noConfusion q, fun q => absurd q h⟩
 unfold spec_l6Plain.f
 by_cases c2 : x.f0 = 2
 ·have hP : Plain x ↔ (¬ x.f2.toList = [] ∧ x.f4.toList = [] ∧ 0 ≤ x.f1 ∧ x.f1 ≤ 2 ∧ Once x.f3) := by unfold Plain; rw [if_pos c2]
  have ht : Pl.tailP x.f0 x.f4 x.f6 (x.f0 == 2) = true := by
   unfold Pl.tailP
   rw [if_neg (by omega), if_neg (by omega), beq_iff_eq]; exact c2
  by_cases cn : x.f2.toList = []
  ·exact ⟨false, no fun h => (hP.mp h).1 cn, Ev.ite_pos c2 (Ev.ite_pos cn J0)⟩
  by_cases c4 : x.f4.toList = []
  ·by_cases cr : 0 ≤ x.f1 ∧ x.f1 ≤ 2
   ·refine ⟨b, ⟨fun h => hP.mpr ⟨cn, c4, cr.1, cr.2, hb.mp h⟩, fun h => hb.mpr (hP.mp h).2.2.2.2⟩, Ev.ite_pos c2 (Ev.ite_neg cn (Ev.ite_pos c4 (Ev.opt (l1In_eq x.f1 0 2) ?_)))⟩
    rw [ht, Bool.and_true] at J1
    rw [decide_eq_true cr]; exact J1
   ·refine ⟨false, no fun h => cr ⟨(hP.mp h).2.2.1, (hP.mp h).2.2.2.1⟩, Ev.ite_pos c2 (Ev.ite_neg cn (Ev.ite_pos c4 (Ev.opt (l1In_eq x.f1 0 2) ?_)))⟩
    rw [decide_eq_false cr]; exact J0
  ·exact ⟨false, no fun h => c4 (hP.mp h).2.1, Ev.ite_pos c2 (Ev.ite_neg cn (Ev.ite_neg c4 J0))⟩
 ·have hP : Plain x ↔ (x.f2.toList = [] ∧ x.f3.length = 0 ∧ x.f1 = 0 ∧ (if x.f0 = 1 then x.f4.toList = [] else (x.f0 = 3 ∨ x.f0 = 4 ∨ x.f0 = 5) ∧ x.f6.length = 0)) := by unfold Plain; rw [if_neg c2]
  have hx : (x.f0 == 2) = false := by rw [beq_eq_false_iff_ne]; exact c2
  by_cases cn : x.f2.toList = []
  case neg => exact ⟨false, no fun h => cn (hP.mp h).1, Ev.ite_neg c2 (Ev.ite_neg cn J0)⟩
  by_cases cl : x.f3.length = 0
  case neg => exact ⟨false, no fun h => cl (hP.mp h).2.1, Ev.ite_neg c2 (Ev.ite_pos cn (Ev.ite_pos (by omega) J0))⟩
  by_cases c1 : x.f1 = 0
  case neg => exact ⟨false, no fun h => c1 (hP.mp h).2.2.1, Ev.ite_neg c2 (Ev.ite_pos cn (Ev.ite_neg (by omega) (Ev.ite_neg c1 J0)))⟩
  have hbt : b = true := hb.mpr fun j hj => by omega
  rw [hbt, Bool.true_and] at J1
  refine ⟨Pl.tailP x.f0 x.f4 x.f6 (x.f0 == 2), ?_, Ev.ite_neg c2 (Ev.ite_pos cn (Ev.ite_neg (by omega) (Ev.ite_pos c1 J1)))⟩
  rw [hP, hx]
  unfold Pl.tailP
  by_cases q1 : x.f0 = 1
  ·rw [if_pos q1, if_pos q1]
   simp [cn, cl, c1]
  ·rw [if_neg q1, if_neg q1]
   by_cases q3 : x.f0 = 3 ∨ x.f0 = 4 ∨ x.f0 = 5
   ·rw [if_pos q3]
    simp only [cn, cl, c1, q3, true_and, beq_iff_eq]
    omega
   ·rw [if_neg q3]
    simp [q3]
theorem Plain_tells (x : S50) (hl : x.f3.length ≤ 1048576) : ∃ b : Bool, (b = true ↔ Plain x) ∧ Ev (fun k => spec_l6Plain.f k x.f0 x.f1 x.f2 x.f3 x.f4 x.f5 x.f6) b ∧ Ev (fun k => impl_itemOk.f k x.f0 x.f1 x.f2 x.f3 x.f4 x.f5 x.f6) (b && !(x.f0 == 1)) ∧ (x.f0 = 1 → impl_pageOk.f x.f0 x.f1 x.f2 x.f3 x.f4 x.f5 x.f6 = some (b && x.f5 == -1)) := by
 obtain ⟨v, h1, h2⟩ := Plain_spec x hl
 obtain ⟨b, e1, e2, e3⟩ := Pl.Plain_same x.f0 x.f1 x.f5 x.f2 x.f4 x.f3 x.f6 hl
 obtain rfl : v = b := Ev.uniq h2 e1
 exact ⟨v, h1, e1, e2, e3⟩
theorem Plain_kids {x : S50} (h : Plain x) (hk : x.f6.length ≠ 0) : x.f0 = 1 ∨ x.f0 = 2 := by
 unfold Plain at h
 by_cases c : x.f0 = 2
 ·exact Or.inr c
 ·rw [if_neg c] at h
  by_cases c1 : x.f0 = 1
  ·exact Or.inl c1
  ·rw [if_neg c1] at h
   exact absurd h.2.2.2.2 hk
theorem page_not (f0 f1 f5 : Int) (f2 f4 : ByteArray) (l : List S71) (kids : List Int) (h : ¬ f0 = 1) : impl_pageOk.f f0 f1 f2 l f4 f5 kids = some false := by
 unfold impl_pageOk.f; rw [if_neg h]

/-! ### the whole -/
def Right (L : List S50) : Prop := (1 ≤ L.length ∧ L.length ≤ 3000) ∧ (it L 0).f0 = 1 ∧ (∀ i, i < L.length → Plain (it L i) ∧ (0 < i → ¬ (it L i).f0 = 1)) ∧ LinksP L ∧ ∃ out, Walk L out ∧ out.length = L.length
theorem spec_tells (L : List S50) (hL : Small L) : (Right L → Ev (fun k => spec_TreeOk.f k L) true) ∧ (¬ Right L → Ev (fun k => spec_TreeOk.f k L) false) := by
 have hL1 := hL.1
 have A := Ev.all (n := L.length) (j0 := 0) (g := fun k j => spec_TreeOk.l0 k L (j : Int)) (e := false) (ok := fun i => Plain (it L i) ∧ (0 < i → ¬ (it L i).f0 = 1)) (Nat.zero_le _)
  (fun i _ hi _ hok r hr => by
   obtain ⟨b, hb, e, _⟩ := Plain_tells (it L i) (it_small hL hi).1
   refine Ev.step (fun k => by simp only [spec_TreeOk.l0, succ64 (show i < 9223372036854775807 by omega)]; rw [if_pos (by omega), if_pos (by omega), show rd_T50 L (i : Int) = it L i from rfl]) (Ev.bind e (Ev.ite_pos (hb.mpr hok.1) ?_))
   by_cases c : 0 < i
   ·exact Ev.ite_pos (by omega) (Ev.ite_neg (hok.2 c) hr)
   ·exact Ev.ite_neg (by omega) hr)
  (fun i _ hi _ hok => by
   obtain ⟨b, hb, e, _⟩ := Plain_tells (it L i) (it_small hL hi).1
   refine Ev.step (fun k => by simp only [spec_TreeOk.l0, succ64 (show i < 9223372036854775807 by omega)]; rw [if_pos (by omega), if_pos (by omega), show rd_T50 L (i : Int) = it L i from rfl]) (Ev.bind e ?_)
   by_cases c : b = true
   ·have h2 : ¬ (0 < i → ¬ (it L i).f0 = 1) := fun q => hok ⟨hb.mp c, q⟩
    by_cases c3 : 0 < i
    ·exact Ev.ite_pos c (Ev.ite_pos (by omega) (Ev.ite_pos (Classical.byContradiction fun q => h2 fun _ => q) (Ev.const fun _ => rfl)))
    ·exact absurd (fun q => absurd q c3) h2
   ·exact Ev.ite_neg c (Ev.const fun _ => rfl))
 have hj1 : Ev (fun k => spec_TreeOk.j0 k L true) false := Ev.here fun k => by simp only [spec_TreeOk.j0]; rw [if_pos True.intro]
 have hj0 : ∀ r, Ev (fun k => spec_TreeOk.l0 k L ((0 : Nat) : Int)) r → Ev (fun k => spec_TreeOk.j0 k L false) r := fun r hr => Ev.step (fun k => by simp only [spec_TreeOk.j0]; rw [if_neg Bool.false_ne_true]; rfl) hr
 unfold spec_TreeOk.f
 by_cases cl : 1 ≤ L.length ∧ L.length ≤ 3000
 case neg =>
  have h : ¬ Right L := fun h => cl h.1
  have e : (decide (1 ≤ (L.length : Int) ∧ (L.length : Int) ≤ 3000)) = false := decide_eq_false (by omega)
  exact ⟨fun q => absurd q h, fun _ => Ev.opt (l1In_eq _ 1 3000) (by rw [e]; exact Ev.ite_neg Bool.false_ne_true hj1)⟩
 have e : (decide (1 ≤ (L.length : Int) ∧ (L.length : Int) ≤ 3000)) = true := decide_eq_true (by omega)
 have pre : ∀ r, Ev (fun k => spec_TreeOk.j0 k L ((it L 0).f0 != 1)) r → Ev (fun k => (spec_l1In.f (L.length : Int) 1 3000).bind fun t141 => (if t141 = true then (if 0 < (L.length : Int) then (spec_TreeOk.j0 k L (((rd_T50 L 0).f0) != 1)) else (none)) else (spec_TreeOk.j0 k L true))) r := fun r hr =>
  Ev.opt (l1In_eq _ 1 3000) (by rw [e]; exact Ev.ite_pos rfl (Ev.ite_pos (by omega) hr))
 by_cases c0 : (it L 0).f0 = 1
 case neg =>
  have h : ¬ Right L := fun h => c0 h.2.1
  exact ⟨fun q => absurd q h, fun _ => pre false (by rw [bne_iff_ne.mpr c0]; exact hj1)⟩
 have pre2 : ∀ r, Ev (fun k => spec_TreeOk.l0 k L ((0 : Nat) : Int)) r → _ := fun r hr => pre r (by rw [show ((it L 0).f0 != 1) = false from by rw [c0]; rfl]; exact hj0 r hr)
 by_cases ci : ∀ i, 0 ≤ i → i < L.length → Plain (it L i) ∧ (0 < i → ¬ (it L i).f0 = 1)
 case neg =>
  have h : ¬ Right L := fun h => ci fun i _ hi => h.2.2.1 i hi
  exact ⟨fun q => absurd q h, fun _ => pre2 false (A.2 ci)⟩
 have hend : ∀ r, Ev (fun k => (spec_l6Links.f k L).bind fun t146 => (if t146 = true then ((spec_l6Order.f k L 0 (([] : List Int))).bind fun t150 => (some ((t150.length : Int) == (L.length : Int)))) else (some false))) r → _ := fun r hr =>
  pre2 r (A.1 ci r (Ev.step (fun k => by simp only [spec_TreeOk.l0]; rw [if_neg (by omega)]) hr))
 obtain ⟨k1, k2⟩ := Links_tells L hL
 by_cases ck : LinksP L
 case neg =>
  have h : ¬ Right L := fun h => ck h.2.2.2.1
  exact ⟨fun q => absurd q h, fun _ => hend false (Ev.bind (k2 ck) (Ev.ite_neg Bool.false_ne_true (Ev.const fun _ => rfl)))⟩
 obtain ⟨out, w, _, eo⟩ := Order_tells L hL cl.1 ck
 have last : Ev (fun k => (spec_l6Links.f k L).bind fun t146 => (if t146 = true then ((spec_l6Order.f k L 0 (([] : List Int))).bind fun t150 => (some ((t150.length : Int) == (L.length : Int)))) else (some false))) (((nums out).length : Int) == (L.length : Int)) :=
  Ev.bind (k1 ck) (Ev.ite_pos rfl (Ev.bind eo (Ev.const fun _ => rfl)))
 refine ⟨fun h => ?_, fun h => ?_⟩
 ·obtain ⟨out2, w2, hl2⟩ := h.2.2.2.2
  rw [Pre_uniq w2.pre _ w.pre] at hl2
  have : (((nums out).length : Int) == (L.length : Int)) = true := by rw [nums_length, hl2, beq_iff_eq]
  rw [this] at last
  exact hend true last
 ·have : (((nums out).length : Int) == (L.length : Int)) = false := by
   rw [nums_length, beq_eq_false_iff_ne]
   intro q
   exact h ⟨cl, c0, fun i hi => ci i (Nat.zero_le _) hi, ck, out, w, by omega⟩
  rw [this] at last
  exact hend false last
/-- What the program asks of each item but the first. -/
def ItemI (L : List S50) (i : Nat) : Prop := (Plain (it L i) ∧ ¬ (it L i).f0 = 1) ∧ (0 ≤ (it L i).f5 ∧ (it L i).f5 < L.length) ∧ ((rd_T50 L (it L i).f5).f0 = 1 ∨ (rd_T50 L (it L i).f5).f0 = 2)
theorem hasKids_eq (a : Int) : impl_hasKids.f a = some (decide (a = 1 ∨ a = 2)) := by
 unfold impl_hasKids.f
 by_cases c : a = 1
 ·rw [if_pos c, decide_eq_true (Or.inl c)]
 ·rw [if_neg c]
  by_cases c2 : a = 2
  ·rw [decide_eq_true (Or.inr c2), show (a == 2) = true from beq_iff_eq.mpr c2]
  ·rw [decide_eq_false (by omega), show (a == 2) = false from beq_eq_false_iff_ne.mpr c2]
theorem it_drop (L : List S50) (j : Nat) (h : j + 1 < L.length) : rd_T50 (L.drop 1) (j : Int) = it L (j + 1) := by
 rw [it_get h]
 have h2 : j < (L.drop 1).length := by rw [List.length_drop]; omega
 rw [show rd_T50 (L.drop 1) (j : Int) = (L.drop 1)[j] from rdT _ _ j h2, List.getElem_drop]
 congr 1; omega
theorem Right_iff (L : List S50) (hL : Small L) : Right L ↔ (1 ≤ L.length ∧ L.length ≤ 3000) ∧ ((it L 0).f0 = 1 ∧ Plain (it L 0) ∧ (it L 0).f5 = -1) ∧ (∀ i, 1 ≤ i → i < L.length → ItemI L i) ∧ KidsP L ∧ ∃ out, Walk L out ∧ out.length = L.length := by
 constructor
 ·rintro ⟨h1, h2, h3, h4, h5⟩
  have h0 : (it L 0).f5 = -1 := by have := (h4 0 (by omega)).1; unfold UpOk at this; rwa [if_pos rfl] at this
  have hup : ∀ i, 1 ≤ i → i < L.length → 0 ≤ (it L i).f5 ∧ (it L i).f5 < L.length ∧ (rd_T50 L (it L i).f5).f6.count (i : Int) = 1 := fun i q1 q2 => by
   have := (h4 i q2).1; unfold UpOk at this; rwa [if_neg (by omega)] at this
  refine ⟨h1, ⟨h2, (h3 0 (by omega)).1, h0⟩, fun i q1 q2 => ?_, (Links_iff L h0 fun i q1 q2 => ⟨(hup i q1 q2).1, (hup i q1 q2).2.1⟩).mp h4, h5⟩
  obtain ⟨u0, u1, u2⟩ := hup i q1 q2
  refine ⟨⟨(h3 i q2).1, (h3 i q2).2 (by omega)⟩, ⟨u0, u1⟩, ?_⟩
  have hp := (h3 (it L i).f5.toNat (by omega)).1
  rw [it_toNat L u0] at hp
  refine Plain_kids hp fun hz => ?_
  rw [List.eq_nil_of_length_eq_zero hz, List.count_nil] at u2
  omega
 ·rintro ⟨h1, ⟨h2, h2p, h0⟩, h3, h4, h5⟩
  refine ⟨h1, h2, fun i hi => ?_, (Links_iff L h0 fun i q1 q2 => (h3 i q1 q2).2.1).mpr h4, h5⟩
  by_cases c : i = 0
  ·subst c; exact ⟨h2p, fun h => absurd h (by omega)⟩
  ·have := (h3 i (by omega) hi).1
   exact ⟨this.1, fun _ => this.2⟩
theorem impl_tells (L : List S50) (hL : Small L) : (Right L → Ev (fun k => impl_TreeOk.f k L) true) ∧ (¬ Right L → Ev (fun k => impl_TreeOk.f k L) false) := by
 have hL1 := hL.1
 rw [Right_iff L hL]
 have hj1 : Ev (fun k => impl_TreeOk.j0 k L true) false := Ev.here fun k => by simp only [impl_TreeOk.j0]; rw [if_pos True.intro]
 unfold impl_TreeOk.f
 by_cases cl : 1 ≤ L.length ∧ L.length ≤ 3000
 case neg =>
  have e : (decide (1 ≤ (L.length : Int) ∧ (L.length : Int) ≤ 3000)) = false := decide_eq_false (by omega)
  exact ⟨fun q => absurd q.1 cl, fun _ => Ev.opt (inRange_eq _ 1 3000) (by rw [e]; exact Ev.ite_neg Bool.false_ne_true hj1)⟩
 have e : (decide (1 ≤ (L.length : Int) ∧ (L.length : Int) ≤ 3000)) = true := decide_eq_true (by omega)
 have hn : wrap64 ((L.length : Int) - 1) = (L.length : Int) - 1 := w64 (by omega) (by omega)
 have hdl : ((L.drop 1).length : Int) = ((L.length - 1 : Nat) : Int) := by rw [List.length_drop]
 have hj0 : ∀ r, Ev (fun k => impl_TreeOk.l0 k L (L.drop 1) ((L.length - 1 : Nat) : Int) ((0 : Nat) : Int)) r → Ev (fun k => impl_TreeOk.j0 k L false) r := fun r hr => Ev.step (fun k => by
  simp only [impl_TreeOk.j0]; rw [if_neg Bool.false_ne_true, if_pos (by omega)]; simp only [Option.bind_some]; rw [hdl]; rfl) hr
 have pre : ∀ (t : Bool) r, impl_pageOk.f (it L 0).f0 (it L 0).f1 (it L 0).f2 (it L 0).f3 (it L 0).f4 (it L 0).f5 (it L 0).f6 = some t → Ev (fun k => impl_TreeOk.j0 k L (!t)) r → Ev (fun k => (impl_inRange.f (L.length : Int) 1 3000).bind fun t238 => (if t238 = true then (if 0 < (L.length : Int) then ((impl_pageOk.f ((rd_T50 L 0).f0) ((rd_T50 L 0).f1) ((rd_T50 L 0).f2) ((rd_T50 L 0).f3) ((rd_T50 L 0).f4) ((rd_T50 L 0).f5) ((rd_T50 L 0).f6)).bind fun t240 => (impl_TreeOk.j0 k L (!t240))) else (none)) else (impl_TreeOk.j0 k L true))) r := fun t r ht hr =>
  Ev.opt (inRange_eq _ 1 3000) (by rw [e]; exact Ev.ite_pos rfl (Ev.ite_pos (by omega) (Ev.opt ht hr)))
 by_cases c0 : (it L 0).f0 = 1
 case neg => exact ⟨fun q => absurd q.2.1.1 c0, fun _ => pre false false (page_not _ _ _ _ _ _ _ c0) hj1⟩
 obtain ⟨b, hb, _, _, hpg⟩ := Plain_tells (it L 0) (it_small hL (i := 0) (by omega)).1
 replace hpg := hpg c0
 by_cases cp : Plain (it L 0) ∧ (it L 0).f5 = -1
 case neg =>
  have : (b && (it L 0).f5 == -1) = false := by
   cases b with
   | false => rfl
   | true => rw [Bool.true_and, beq_eq_false_iff_ne]; exact fun q => cp ⟨hb.mp rfl, q⟩
  rw [this] at hpg
  exact ⟨fun q => absurd q.2.1.2 cp, fun _ => pre false false hpg hj1⟩
 have hbt : (b && (it L 0).f5 == -1) = true := by rw [hb.mpr cp.1, cp.2]; rfl
 rw [hbt] at hpg
 have pre2 : ∀ r, Ev (fun k => impl_TreeOk.l0 k L (L.drop 1) ((L.length - 1 : Nat) : Int) ((0 : Nat) : Int)) r → _ := fun r hr => pre true r hpg (hj0 r hr)
 have hst : ∀ k (j : Nat), j < L.length - 1 → impl_TreeOk.l0 (k + 1) L (L.drop 1) ((L.length - 1 : Nat) : Int) (j : Int) = (impl_itemOk.f k (it L (j + 1)).f0 (it L (j + 1)).f1 (it L (j + 1)).f2 (it L (j + 1)).f3 (it L (j + 1)).f4 (it L (j + 1)).f5 (it L (j + 1)).f6).bind fun t251 => (if t251 = true then (if decide (0 ≤ (it L (j + 1)).f5 ∧ (it L (j + 1)).f5 ≤ (L.length : Int) - 1) = true then (if 0 ≤ (it L (j + 1)).f5 then (if (it L (j + 1)).f5 < (L.length : Int) then (if decide ((rd_T50 L (it L (j + 1)).f5).f0 = 1 ∨ (rd_T50 L (it L (j + 1)).f5).f0 = 2) = true then impl_TreeOk.l0 k L (L.drop 1) ((L.length - 1 : Nat) : Int) ((j + 1 : Nat) : Int) else some false) else none) else none) else some false) else some false) := fun k j hj => by
  simp only [impl_TreeOk.l0, succ64 (show j < 9223372036854775807 by omega), it_drop L j (by omega), inRange_eq, hasKids_eq, hn, Option.bind_some]
  rw [if_pos (by omega), if_pos (by omega), if_pos (by omega)]
 have A := Ev.all (n := L.length - 1) (j0 := 0) (g := fun k j => impl_TreeOk.l0 k L (L.drop 1) ((L.length - 1 : Nat) : Int) (j : Int)) (e := false) (ok := fun j => ItemI L (j + 1)) (Nat.zero_le _)
  (fun j _ hj _ hok r hr => by
   obtain ⟨⟨p1, p2⟩, ⟨u0, u1⟩, hk⟩ := hok
   obtain ⟨b, hb, _, e, _⟩ := Plain_tells (it L (j + 1)) (it_small hL (i := j + 1) (by omega)).1
   have : (b && !((it L (j + 1)).f0 == 1)) = true := by rw [hb.mpr p1, show ((it L (j + 1)).f0 == 1) = false from beq_eq_false_iff_ne.mpr p2]; rfl
   rw [this] at e
   refine Ev.step (fun k => hst k j hj) (Ev.bind e (Ev.ite_pos rfl (Ev.ite_pos (decide_eq_true ⟨u0, by omega⟩) (Ev.ite_pos u0 (Ev.ite_pos u1 (Ev.ite_pos (decide_eq_true hk) hr))))))
  )
  (fun j _ hj _ hok => by
   obtain ⟨b, hb, _, e, _⟩ := Plain_tells (it L (j + 1)) (it_small hL (i := j + 1) (by omega)).1
   refine Ev.step (fun k => hst k j hj) (Ev.bind e ?_)
   by_cases c : (b && !((it L (j + 1)).f0 == 1)) = true
   case neg => exact Ev.ite_neg c (Ev.const fun _ => rfl)
   refine Ev.ite_pos c ?_
   rw [Bool.and_eq_true, Bool.not_eq_true', beq_eq_false_iff_ne] at c
   by_cases cu : 0 ≤ (it L (j + 1)).f5 ∧ (it L (j + 1)).f5 ≤ (L.length : Int) - 1
   case neg => exact Ev.ite_neg (by rw [decide_eq_true_iff]; exact cu) (Ev.const fun _ => rfl)
   refine Ev.ite_pos (decide_eq_true cu) (Ev.ite_pos cu.1 (Ev.ite_pos (by omega) (Ev.ite_neg ?_ (Ev.const fun _ => rfl))))
   rw [decide_eq_true_iff]
   exact fun q => hok ⟨⟨hb.mp c.1, c.2⟩, ⟨cu.1, by omega⟩, q⟩)
 by_cases ci : ∀ j, 0 ≤ j → j < L.length - 1 → ItemI L (j + 1)
 case neg => exact ⟨fun q => absurd (fun j _ hj => q.2.2.1 (j + 1) (by omega) (by omega)) ci, fun _ => pre2 false (A.2 ci)⟩
 have hend : ∀ r, Ev (fun k => (impl_kidsOk.f k L).bind fun t245 => (if t245 = true then ((impl_order.f k L).bind fun t246 => (some ((t246.length : Int) == (L.length : Int)))) else (some false))) r → _ := fun r hr =>
  pre2 r (A.1 ci r (Ev.step (fun k => by simp only [impl_TreeOk.l0]; rw [if_neg (by omega)]) hr))
 obtain ⟨k1, k2⟩ := kidsOk_tells L hL cl.1
 by_cases ck : KidsP L
 case neg => exact ⟨fun q => absurd q.2.2.2.1 ck, fun _ => hend false (Ev.bind (k2 ck) (Ev.ite_neg Bool.false_ne_true (Ev.const fun _ => rfl)))⟩
 have ci2 : ∀ i, 1 ≤ i → i < L.length → ItemI L i := fun i q1 q2 => by
  have := ci (i - 1) (Nat.zero_le _) (by omega)
  rwa [show i - 1 + 1 = i by omega] at this
 have hlk := (Links_iff L cp.2 fun i q1 q2 => (ci2 i q1 q2).2.1).mpr ck
 obtain ⟨out, w, eo, _⟩ := Order_tells L hL cl.1 hlk
 have last : Ev (fun k => (impl_kidsOk.f k L).bind fun t245 => (if t245 = true then ((impl_order.f k L).bind fun t246 => (some ((t246.length : Int) == (L.length : Int)))) else (some false))) (((nums out).length : Int) == (L.length : Int)) :=
  Ev.bind (k1 ck) (Ev.ite_pos rfl (Ev.bind eo (Ev.const fun _ => rfl)))
 refine ⟨fun h => ?_, fun h => ?_⟩
 ·obtain ⟨out2, w2, hl2⟩ := h.2.2.2.2
  rw [Pre_uniq w2.pre _ w.pre] at hl2
  have : (((nums out).length : Int) == (L.length : Int)) = true := by rw [nums_length, hl2, beq_iff_eq]
  rw [this] at last
  exact hend true last
 ·have : (((nums out).length : Int) == (L.length : Int)) = false := by
   rw [nums_length, beq_eq_false_iff_ne]
   intro q
   exact h ⟨cl, ⟨c0, cp.1, cp.2⟩, ci2, ck, out, w, by omega⟩
  rw [this] at last
  exact hend false last
end Go.Proofs.Ytgljgbkbjlondaa.Tr
