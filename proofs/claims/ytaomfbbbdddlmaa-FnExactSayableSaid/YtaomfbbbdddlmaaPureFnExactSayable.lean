/- What may be said of a tree: the program's Sayable and the reference's tell the same: the pure statement of the law FnExactSayable. No conditions but the row's. -/
import Derived.Test.YtaomfbbbdddlmaaSayRaw
import Derived.Test.YtaomfbbbdddlmaaTreeOkBase
import Derived.Test.YtaomfbbbdddlmaaTreeSmall
import Derived.Test.YtaomfbbbdddlmaaQs13
import Derived.Test.YtaomfbbbdddlmaaQs23
import Derived.Test.YtaomfbbbdddlmaaQs31
import Derived.Test.YtaomfbbbdddlmaaQs32
set_option linter.unusedVariables false
set_option linter.unusedSimpArgs false
namespace Go.Proofs.Ytaomfbbbdddlmaa.Pure
open Go Go.RowKit Go.Proofs.Ytaomfbbbdddlmaa.P Go.Proofs.Ytaomfbbbdddlmaa.Evs Go.Proofs.Ytaomfbbbdddlmaa.It Go.Proofs.Ytaomfbbbdddlmaa.Tr Go.Proofs.YtaomfbbbdddlmaaW.PrintWords Go.Proofs.YtaomfbbbdddlmaaW.PrintLast

theorem Raw_some (a : ByteArray) : ∃ q, spec_Raw.f a = some q := by
 unfold spec_Raw.f
 by_cases c1 : a.toList = ([115, 99, 114, 105, 112, 116] : List UInt8)
 ·exact ⟨true, if_pos c1⟩
 by_cases c2 : a.toList = ([115, 116, 121, 108, 101] : List UInt8)
 ·exact ⟨true, by rw [if_neg c1, if_pos c2]⟩
 by_cases c3 : a.toList = ([116, 105, 116, 108, 101] : List UInt8)
 ·exact ⟨true, by rw [if_neg c1, if_neg c2, if_pos c3]⟩
 ·exact ⟨_, by rw [if_neg c1, if_neg c2, if_neg c3]⟩
theorem Raw_tail (T n : ByteArray) (hT : T.size ≤ 1048576) (w : List UInt8) (hw : n.toList = w) (hl : w.map lowB = w) (h60 : (60 : UInt8) ∉ w) (hs : w.length ≤ 100) : ∃ u v : Int, Ev (fun k => spec_RawEnd.f k (((T ++ (⟨#[60, 47]⟩ : ByteArray)) ++ n) ++ (⟨#[62]⟩ : ByteArray)) 0 n) u ∧ Ev (fun k => impl_RawEnd.f k T 0 n) v ∧ (u = (T.size : Int) ↔ v = (T.size : Int)) := by
 rw [Sg.toList_data] at hw
 refine Sg.RawEnd_same T n _ hT ?_ (by rw [hw]; exact hl) (by rw [hw]; exact h60) (by simp [ByteArray.data_append])
 show n.data.toList.length ≤ _
 rw [hw]; omega
theorem Say_loop (L : List S72) (hL : Small L) (hR : Right L) (hz : ∀ y ∈ L, y.f2.size ≤ 1048576 ∧ y.f4.size ≤ 1048576) : ∀ (d j : Nat), L.length - j = d → j ≤ L.length →
  ∃ v : Bool, Ev (fun k => spec_Sayable.l0 k L j) v ∧ Ev (fun k => impl_Sayable.l0 k L L L.length j) v := by
 intro d
 have hL1 := hL.1
 induction d with
 | zero =>
  intro j hd hj
  exact ⟨true, Ev.here fun k => by simp only [spec_Sayable.l0]; rw [if_neg (by omega)], Ev.here fun k => by simp only [impl_Sayable.l0]; rw [if_neg (by omega)]⟩
 | succ d ih =>
  intro j hd hj
  have hjl : j < L.length := by omega
  have hw := succ64 (show j < 9223372036854775807 by omega)
  obtain ⟨v, v1, v2⟩ := ih (j + 1) (by omega) (by omega)
  have hxm : it L j ∈ L := by rw [it_get hjl]; exact List.getElem_mem hjl
  obtain ⟨z2, z4⟩ := hz _ hxm
  have hk := (hR.2.2.2.1 j hjl).2
  unfold KidsOk KidOk at hk
  unfold it at hk z2 z4
  obtain ⟨x, hx⟩ : ∃ x, rd_T72 L (j : Int) = x := ⟨_, rfl⟩
  rw [hx] at hk z2 z4
  have j2t : ∀ (q : Bool) (k : Nat), q = true → spec_Sayable.j2 (k + 1) L j q x.f0 x.f1 x.f2 x.f3 x.f4 x.f5 x.f6 = spec_Sayable.l0 k L ((j + 1 : Nat) : Int) := fun q k h => by
   simp only [spec_Sayable.j2, hw]; rw [if_pos h]
  have E2 : ∀ q : Bool, q = true → Ev (fun k => spec_Sayable.j2 k L j q x.f0 x.f1 x.f2 x.f3 x.f4 x.f5 x.f6) v := fun q h => Ev.step (fun k => j2t q k h) v1
  have E1 : ¬ x.f0 = 2 → ∀ q : Bool, q = false → Ev (fun k => spec_Sayable.j1 k L j q x.f0 x.f1 x.f2 x.f3 x.f4 x.f5 x.f6) v := fun hc q h =>
   Ev.step (f := fun k => spec_Sayable.j2 k L j true x.f0 x.f1 x.f2 x.f3 x.f4 x.f5 x.f6) (fun k => by simp only [spec_Sayable.j1]; rw [if_neg (by rw [h]; decide), if_neg hc]) (E2 true rfl)
  have E1n : ∀ q : Bool, q = true → Ev (fun k => spec_Sayable.j1 k L j q x.f0 x.f1 x.f2 x.f3 x.f4 x.f5 x.f6) false := fun q h =>
   Ev.here (fun k => by simp only [spec_Sayable.j1]; rw [if_pos h])
  by_cases c4 : x.f0 = 4
  ·have c2 : ¬ x.f0 = 2 := by omega
   have c5 : ¬ x.f0 = 5 := by omega
   obtain ⟨b, b1, b2⟩ := Sg.Note_same x.f4 z4
   refine ⟨if b = true then v else false, Ev.step (fun k => by simp only [spec_Sayable.l0, hx]; rw [if_pos (by omega), if_pos (by omega), if_pos c4]) (Ev.bind b1 ?_), Ev.step (fun k => by simp only [impl_Sayable.l0, hx, hw]; rw [if_pos (by omega), if_pos (by omega), if_pos (by omega), if_neg c2, if_pos c4]) (Ev.bind b2 ?_)⟩
   ·cases b with
    | true => exact Ev.ite_pos rfl (Ev.ite_neg c5 (E1 c2 false rfl))
    | false => exact Ev.ite_neg Bool.false_ne_true (E1n true rfl)
   ·cases b with
    | true => exact Ev.ite_pos rfl v2
    | false => exact Ev.ite_neg Bool.false_ne_true (Ev.now _)
  by_cases c5 : x.f0 = 5
  ·have c2 : ¬ x.f0 = 2 := by omega
   obtain ⟨b, b1, b2⟩ := Sg.Kind_same x.f4 z4
   refine ⟨if b = true then v else false, Ev.step (fun k => by simp only [spec_Sayable.l0, hx]; rw [if_pos (by omega), if_pos (by omega), if_neg c4, if_pos c5]) (Ev.bind b1 ?_), Ev.step (fun k => by simp only [impl_Sayable.l0, hx, hw]; rw [if_pos (by omega), if_pos (by omega), if_pos (by omega), if_neg c2, if_neg c4, if_pos c5]) (Ev.bind b2 ?_)⟩
   ·cases b with
    | true => exact E1 c2 (!true) rfl
    | false => exact E1n (!false) rfl
   ·cases b with
    | true => exact Ev.ite_pos rfl v2
    | false => exact Ev.ite_neg Bool.false_ne_true (Ev.now _)
  by_cases c2 : x.f0 = 2
  case neg => exact ⟨v, Ev.step (fun k => by simp only [spec_Sayable.l0, hx]; rw [if_pos (by omega), if_pos (by omega), if_neg c4, if_neg c5]) (E1 c2 false rfl), Ev.step (fun k => by simp only [impl_Sayable.l0, hx, hw]; rw [if_pos (by omega), if_pos (by omega), if_pos (by omega), if_neg c2, if_neg c4, if_neg c5]) v2⟩
  obtain ⟨q, hq⟩ := Raw_some x.f2
  have hq2 : impl_Raw.f x.f2 = some q := (Sg.Raw_same x.f2 z2).trans hq
  have both : ∀ r : Bool, Ev (fun k => if q = true then (spec_Sayable.j2 k L j ((x.f6.length : Int) == 0) x.f0 x.f1 x.f2 x.f3 x.f4 x.f5 x.f6) else (spec_Sayable.j2 k L j true x.f0 x.f1 x.f2 x.f3 x.f4 x.f5 x.f6)) r → Ev (fun k => if q = true then ((impl_rawSayable.f k L x.f0 x.f1 x.f2 x.f3 x.f4 x.f5 x.f6).bind fun t406 => (if t406 = true then (impl_Sayable.l0 k L L L.length ((j + 1 : Nat) : Int)) else (some false))) else (impl_Sayable.l0 k L L L.length ((j + 1 : Nat) : Int))) r → ∃ v : Bool, Ev (fun k => spec_Sayable.l0 k L j) v ∧ Ev (fun k => impl_Sayable.l0 k L L L.length j) v := fun r r1 r2 =>
   ⟨r, Ev.step (f := fun k => spec_Sayable.j1 k L j false x.f0 x.f1 x.f2 x.f3 x.f4 x.f5 x.f6) (fun k => by simp only [spec_Sayable.l0, hx]; rw [if_pos (by omega), if_pos (by omega), if_neg c4, if_neg c5]) (Ev.step (f := fun k => (spec_Raw.f x.f2).bind fun t280 => (if t280 = true then (spec_Sayable.j2 k L j ((x.f6.length : Int) == 0) x.f0 x.f1 x.f2 x.f3 x.f4 x.f5 x.f6) else (spec_Sayable.j2 k L j true x.f0 x.f1 x.f2 x.f3 x.f4 x.f5 x.f6))) (fun k => by simp only [spec_Sayable.j1]; rw [if_neg Bool.false_ne_true, if_pos c2]) (Ev.opt hq r1)),
    Ev.step (f := fun k => (impl_Raw.f x.f2).bind fun t405 => (if t405 = true then ((impl_rawSayable.f k L x.f0 x.f1 x.f2 x.f3 x.f4 x.f5 x.f6).bind fun t406 => (if t406 = true then (impl_Sayable.l0 k L L L.length ((j + 1 : Nat) : Int)) else (some false))) else (impl_Sayable.l0 k L L L.length ((j + 1 : Nat) : Int)))) (fun k => by simp only [impl_Sayable.l0, hx, hw]; rw [if_pos (by omega), if_pos (by omega), if_pos (by omega), if_pos c2]) (Ev.opt hq2 r2)⟩
  cases q with
  | false => exact both v (Ev.ite_neg Bool.false_ne_true (E2 true rfl)) (Ev.ite_neg Bool.false_ne_true v2)
  | true =>
   by_cases k0 : x.f6.length = 0
   ·refine both v (Ev.ite_pos rfl (E2 _ (beq_iff_eq.mpr (by omega)))) (Ev.ite_pos rfl (Ev.bind (a := true) ?_ (Ev.ite_pos rfl v2)))
    unfold impl_rawSayable.f
    exact Ev.ite_pos (by omega) (Ev.now _)
   have hb0 : ((x.f6.length : Int) == 0) = false := beq_eq_false_iff_ne.mpr (by omega)
   have h0l : 0 < x.f6.length := by omega
   have hrd : rd x.f6 0 = x.f6[0] := Tr.rdI x.f6 0 h0l
   have hkid := hk (rd x.f6 0) (by rw [hrd]; exact List.getElem_mem h0l)
   obtain ⟨kid, hkd⟩ : ∃ kid, rd x.f6 0 = kid := ⟨_, rfl⟩
   rw [hkd] at hkid
   obtain ⟨g0, g1, _⟩ := hkid
   obtain ⟨y, hy⟩ : ∃ y, rd_T72 L kid = y := ⟨_, rfl⟩
   have hym : y ∈ L := by
    rw [← hy, ← it_toNat L (by omega), it_get (by omega)]
    exact List.getElem_mem _
   have y4 := (hz y hym).2
   have s2 : ∀ r : Bool, Ev (fun k => if (x.f6.length : Int) > 1 then (some false) else (if y.f0 = 3 then (if x.f2.toList = ([115, 99, 114, 105, 112, 116] : List UInt8) then (if y.f4.size + 2 ≤ 9223372036854775807 then (if (y.f4 ++ (⟨#[60, 47]⟩ : ByteArray)).size + x.f2.size ≤ 9223372036854775807 then (if ((y.f4 ++ (⟨#[60, 47]⟩ : ByteArray)) ++ x.f2).size + 1 ≤ 9223372036854775807 then ((spec_RawEnd.f k (((y.f4 ++ (⟨#[60, 47]⟩ : ByteArray)) ++ x.f2) ++ (⟨#[62]⟩ : ByteArray)) 0 x.f2).bind fun t285 => (if t285 = (y.f4.size : Int) then (spec_Sayable.l0 k L ((j + 1 : Nat) : Int)) else (some false))) else (none)) else (none)) else (none)) else (if x.f2.toList = ([115, 116, 121, 108, 101] : List UInt8) then (if y.f4.size + 2 ≤ 9223372036854775807 then (if (y.f4 ++ (⟨#[60, 47]⟩ : ByteArray)).size + x.f2.size ≤ 9223372036854775807 then (if ((y.f4 ++ (⟨#[60, 47]⟩ : ByteArray)) ++ x.f2).size + 1 ≤ 9223372036854775807 then ((spec_RawEnd.f k (((y.f4 ++ (⟨#[60, 47]⟩ : ByteArray)) ++ x.f2) ++ (⟨#[62]⟩ : ByteArray)) 0 x.f2).bind fun t286 => (if t286 = (y.f4.size : Int) then (spec_Sayable.l0 k L ((j + 1 : Nat) : Int)) else (some false))) else (none)) else (none)) else (none)) else (spec_Sayable.l0 k L ((j + 1 : Nat) : Int)))) else (some false))) r → Ev (fun k => spec_Sayable.j2 k L j ((x.f6.length : Int) == 0) x.f0 x.f1 x.f2 x.f3 x.f4 x.f5 x.f6) r := fun r hr => Ev.step (fun k => by
    simp only [spec_Sayable.j2, hw, hkd, hy]
    rw [if_neg (by rw [hb0]; decide), if_pos (by omega), if_pos (by omega), if_pos g1]) hr
   by_cases k1 : (x.f6.length : Int) > 1
   ·refine both false (Ev.ite_pos rfl (s2 false (Ev.ite_pos k1 (Ev.now _)))) (Ev.ite_pos rfl (Ev.bind (a := false) ?_ (Ev.ite_neg Bool.false_ne_true (Ev.now _))))
    unfold impl_rawSayable.f
    exact Ev.ite_neg (by omega) (Ev.ite_pos k1 (Ev.here fun k => by simp only [impl_rawSayable.j0]; rfl))
   have i2 : ∀ r : Bool, Ev (fun k => impl_rawSayable.j0 k L (y.f0 != 3) x.f0 x.f1 x.f2 x.f3 x.f4 x.f5 x.f6) r → Ev (fun k => impl_rawSayable.f k L x.f0 x.f1 x.f2 x.f3 x.f4 x.f5 x.f6) r := fun r hr => by
    unfold impl_rawSayable.f
    rw [hkd, hy]
    exact Ev.ite_neg (by omega) (Ev.ite_neg k1 (Ev.ite_pos (by omega) (Ev.ite_pos (by omega) (Ev.ite_pos g1 hr))))
   by_cases k3 : y.f0 = 3
   case neg =>
    refine both false (Ev.ite_pos rfl (s2 false (Ev.ite_neg k1 (Ev.ite_neg k3 (Ev.now _))))) (Ev.ite_pos rfl (Ev.bind (i2 false (Ev.here fun k => ?_)) (Ev.ite_neg Bool.false_ne_true (Ev.now _))))
    simp only [impl_rawSayable.j0]
    rw [if_pos (bne_iff_ne.mpr k3)]
   have i3 : ∀ (p r : Bool), impl_isPlainRaw.f x.f2 = some p → Ev (fun k => if p = true then ((impl_RawEnd.f k y.f4 0 x.f2).bind fun t355 => (some (t355 == (y.f4.size : Int)))) else (some true)) r → Ev (fun k => impl_rawSayable.f k L x.f0 x.f1 x.f2 x.f3 x.f4 x.f5 x.f6) r := fun p r hp hr => i2 r (Ev.step (f := fun k => (impl_isPlainRaw.f x.f2).bind fun t354 => (if t354 = true then ((impl_RawEnd.f k y.f4 0 x.f2).bind fun t355 => (some (t355 == (y.f4.size : Int)))) else (some true))) (fun k => by
     simp only [impl_rawSayable.j0, hkd, hy]
     rw [if_neg (by rw [bne_iff_ne]; exact fun h => h k3), if_pos (by omega), if_pos (by omega), if_pos g1]) (Ev.opt hp hr))
   have e1 : y.f4.size + 2 ≤ 9223372036854775807 := by omega
   have sz : (y.f4 ++ (⟨#[60, 47]⟩ : ByteArray)).size = y.f4.size + 2 := by rw [ByteArray.size_append]; rfl
   have e2 : (y.f4 ++ (⟨#[60, 47]⟩ : ByteArray)).size + x.f2.size ≤ 9223372036854775807 := by rw [sz]; omega
   have e3 : ((y.f4 ++ (⟨#[60, 47]⟩ : ByteArray)) ++ x.f2).size + 1 ≤ 9223372036854775807 := by rw [ByteArray.size_append, sz]; omega
   by_cases n1 : x.f2.toList = ([115, 99, 114, 105, 112, 116] : List UInt8)
   ·obtain ⟨u, w, u1, w1, uw⟩ := Raw_tail y.f4 x.f2 y4 _ n1 (by decide) (by decide) (by decide)
    have hp : impl_isPlainRaw.f x.f2 = some true := by unfold impl_isPlainRaw.f; rw [if_pos n1]
    by_cases f : u = (y.f4.size : Int)
    ·exact both v (Ev.ite_pos rfl (s2 v (Ev.ite_neg k1 (Ev.ite_pos k3 (Ev.ite_pos n1 (Ev.ite_pos e1 (Ev.ite_pos e2 (Ev.ite_pos e3 (Ev.bind u1 (Ev.ite_pos f v1)))))))))) (Ev.ite_pos rfl (Ev.bind (i3 true true hp (Ev.ite_pos rfl (Ev.bind w1 (by rw [beq_iff_eq.mpr (uw.mp f)]; exact Ev.now _)))) (Ev.ite_pos rfl v2)))
    ·exact both false (Ev.ite_pos rfl (s2 false (Ev.ite_neg k1 (Ev.ite_pos k3 (Ev.ite_pos n1 (Ev.ite_pos e1 (Ev.ite_pos e2 (Ev.ite_pos e3 (Ev.bind u1 (Ev.ite_neg f (Ev.now _))))))))))) (Ev.ite_pos rfl (Ev.bind (i3 true false hp (Ev.ite_pos rfl (Ev.bind w1 (by rw [beq_eq_false_iff_ne.mpr (fun h => f (uw.mpr h))]; exact Ev.now _)))) (Ev.ite_neg Bool.false_ne_true (Ev.now _))))
   by_cases n2 : x.f2.toList = ([115, 116, 121, 108, 101] : List UInt8)
   ·obtain ⟨u, w, u1, w1, uw⟩ := Raw_tail y.f4 x.f2 y4 _ n2 (by decide) (by decide) (by decide)
    have hp : impl_isPlainRaw.f x.f2 = some true := by unfold impl_isPlainRaw.f; rw [if_neg n1, beq_iff_eq.mpr n2]
    by_cases f : u = (y.f4.size : Int)
    ·exact both v (Ev.ite_pos rfl (s2 v (Ev.ite_neg k1 (Ev.ite_pos k3 (Ev.ite_neg n1 (Ev.ite_pos n2 (Ev.ite_pos e1 (Ev.ite_pos e2 (Ev.ite_pos e3 (Ev.bind u1 (Ev.ite_pos f v1))))))))))) (Ev.ite_pos rfl (Ev.bind (i3 true true hp (Ev.ite_pos rfl (Ev.bind w1 (by rw [beq_iff_eq.mpr (uw.mp f)]; exact Ev.now _)))) (Ev.ite_pos rfl v2)))
    ·exact both false (Ev.ite_pos rfl (s2 false (Ev.ite_neg k1 (Ev.ite_pos k3 (Ev.ite_neg n1 (Ev.ite_pos n2 (Ev.ite_pos e1 (Ev.ite_pos e2 (Ev.ite_pos e3 (Ev.bind u1 (Ev.ite_neg f (Ev.now _)))))))))))) (Ev.ite_pos rfl (Ev.bind (i3 true false hp (Ev.ite_pos rfl (Ev.bind w1 (by rw [beq_eq_false_iff_ne.mpr (fun h => f (uw.mpr h))]; exact Ev.now _)))) (Ev.ite_neg Bool.false_ne_true (Ev.now _))))
   ·have hp : impl_isPlainRaw.f x.f2 = some false := by unfold impl_isPlainRaw.f; rw [if_neg n1, beq_eq_false_iff_ne.mpr n2]
    exact both v (Ev.ite_pos rfl (s2 v (Ev.ite_neg k1 (Ev.ite_pos k3 (Ev.ite_neg n1 (Ev.ite_neg n2 v1)))))) (Ev.ite_pos rfl (Ev.bind (i3 false true hp (Ev.ite_neg Bool.false_ne_true (Ev.now _))) (Ev.ite_pos rfl v2)))
theorem Sayable_same (L : List S72) (hL : Small L) (hz : ∀ y ∈ L, y.f2.size ≤ 1048576 ∧ y.f4.size ≤ 1048576) : ∃ v : Bool, Ev (fun k => spec_Sayable.f k L) v ∧ Ev (fun k => impl_Sayable.f k L) v := by
 unfold spec_Sayable.f impl_Sayable.f
 by_cases h : Right L
 ·obtain ⟨v, v1, v2⟩ := Say_loop L hL h hz L.length 0 rfl (Nat.zero_le _)
  exact ⟨v, Ev.bind ((spec_tells L hL).1 h) (Ev.ite_pos rfl v1), Ev.bind ((impl_tells L hL).1 h) (Ev.ite_pos rfl v2)⟩
 ·exact ⟨false, Ev.bind ((spec_tells L hL).2 h) (Ev.ite_neg Bool.false_ne_true (Ev.now _)), Ev.bind ((impl_tells L hL).2 h) (Ev.ite_neg Bool.false_ne_true (Ev.now _))⟩
theorem FnExactSayable : laws_FnExactSayable.Pure := by
 intro n l ⟨h1, h2⟩
 suffices h : Ev (fun k => laws_FnExactSayable.f k l) true from h.rounds
 unfold laws_FnExactSayable.f
 obtain ⟨t, et, _, _, tq⟩ := szItemS_tells n l 1048576 h1 h2 (by omega) (by omega)
 by_cases c : t < 0
 ·exact Ev.bind et (Ev.ite_pos c (Ev.now _))
 obtain ⟨q1, q2⟩ := tq (by omega)
 obtain ⟨s1, s2⟩ := toItems_small n l q1 q2
 have e2 := toItemS_tells n l q1 q2
 obtain ⟨v, e3, e4⟩ := Sayable_same (l.map toI) s1 (fun y hy => ⟨(s2 y hy).2.2.1, (s2 y hy).2.2.2.2.1⟩)
 exact Ev.bind et (Ev.ite_neg c (Ev.bind e2 (Ev.bind e3 (Ev.bind e2 (Ev.bind e4 (Ev.ite_neg (by simp) (Ev.bind e2 (Ev.bind (eqItemS_self n _ s1.1 s2) (Ev.ite_pos rfl (Ev.now _))))))))))
end Go.Proofs.Ytaomfbbbdddlmaa.Pure
