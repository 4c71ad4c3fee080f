-- WRITTEN BY this session's own programs
import Derived.Test.YtekkalnafngfeaaGreatPt27
namespace Go.Proofs.YtekkalnafngfeaaGreat.P
open Go.RowKit Go.Proofs.YtekkalnafngfeaaGreatW.PrintWords Go.Proofs.YtekkalnafngfeaaGreatW.PrintLast Go.Proofs.YtekkalnafngfeaaGreatW.PrintMore
set_option linter.unusedVariables false
set_option linter.unusedSimpArgs false
set_option maxHeartbeats 8000000
set_option maxRecDepth 100000
attribute [local go_sem] max2_int min2_int max_two min_two max_three min_three max_four min_four
def laws_eqIntS.l0 : Nat → List Int → List Int → Int → Option (Bool)
 | 0, _, _, _ => none
 | k + 1, x0, x1, x5 => if x5 < (x0.length : Int) then (if 0 ≤ x5 then (if x5 < (x1.length : Int) then (if (rd x0 x5) = (rd x1 x5) then (laws_eqIntS.l0 k x0 x1 (wrap64 (x5 + 1))) else (some false)) else (none)) else (none)) else (some true)
def laws_eqIntS.f (k : Nat) (l0 : List Int) (l1 : List Int) : Option (Bool) := if (l0.length : Int) = (l1.length : Int) then (laws_eqIntS.l0 k l0 l1 0) else (some false)
theorem laws_eqIntS.calls (k : Nat) (A0 : Option Addr) (c0 : Nat) (l0 : List Int) (A1 : Option Addr) (c1 : Nat) (l1 : List Int) (r : Bool) (w : World) (hr0 : Kd.C (Kd.int .i64) w A0 l0.length l0) (hc0 : l0.length ≤ c0) (hr1 : Kd.C (Kd.int .i64) w A1 l1.length l1) (hc1 : l1.length ≤ c1) (h : laws_eqIntS.f k l0 l1 = some r) :
  Calls Tryz.prog 36 #[.slice A0 l0.length c0, .slice A1 l1.length c1] w fun e w' => e = .returned (.bool r) ∧ Drawn0 w w' := by
 have HR0 := am hr0
 have HC0 := am hc0
 clear hr0 hc0
 have HR1 := am hr1
 have HC1 := am hc1
 clear hr1 hc1
 have H : (if (l0.length : Int) = (l1.length : Int) then (laws_eqIntS.l0 k l0 l1 0) else (some false)) = some r := h
 clear h
 by_cases c3 : (l0.length : Int) = (l1.length : Int)
 ·rw [if_pos c3] at H
  have c3b0 : ((l0.length : Int) == (l1.length : Int)) = true := beq_iff_eq.mpr c3
  have c3b1 : ((l0.length : Int) != (l1.length : Int)) = false := bne_eq_false_iff_eq.mpr c3
  have c3b2 : (l0.length == l1.length) = true := by first | simpa using c3 | (simp at c3 ⊢; omega)
  clear c3
  have H' := am H
  clear H
  go_enter Tryz.func36, Tryz.ntmps36
  go_wp2
  repeat (go_quiet (fail); try go_wp2)
  go_loopg [5] k (fun kq v5 w' => ∃ (x5_1 : Int), v5 = .int .i64 x5_1 ∧ Aside0 (laws_eqIntS.l0 kq l0 l1 x5_1 = some r) ∧ Aside0 (kq ≤ k) ∧ Drawn0 w w')
  case atStart => exact ⟨(0), ab6, H', ⟨Nat.le_refl _⟩, by repeat (first | exact Drawn0.refl _ | apply Drawn0.step)⟩
  case round =>
   clear H'
   (try clear c1); (try clear p2); (try clear c3); (try clear c3b0); (try clear c3b1); (try clear c3b2)
   obtain ⟨x5_1, rfl, HA, HK1, ⟨m1, rfl⟩⟩ := hrel
   cases gk with
   | zero => exact absurd HA.out (by simp [laws_eqIntS.l0])
   | succ k1 =>
    have H := HA.out
    clear HA
    simp only [laws_eqIntS.l0] at H
    replace H := ir_ H; rcases H with ⟨c4b0, H⟩ | ⟨c4b0, H⟩
    ·replace H := iq_ H; obtain ⟨c5b0, H⟩ := H
     replace H := iq_ H; obtain ⟨c6b0, H⟩ := H
     replace H := ie_ H; rcases H with ⟨c7b0, c7b1, H⟩ | ⟨c7, c7b0, c7b1, H⟩
     ·have H' := am H
      clear H
      have p494 : 0 ≤ (x5_1 : Int) := of_decide_eq_true ab4
      have q494 : x5_1 < (l0.length : Int) := of_decide_eq_true ab4
      obtain ⟨ad494, e494, hx494_0⟩ := Kd.at_int HR0.out x5_1 p494 q494
      cases e494
      replace p494 := eq_true p494
      replace q494 := eq_true q494
      have p495 : 0 ≤ (x5_1 : Int) := of_decide_eq_true ab4
      have q495 : x5_1 < (l1.length : Int) := of_decide_eq_true ab4
      obtain ⟨ad495, e495, hx495_0⟩ := Kd.at_int HR1.out x5_1 p495 q495
      cases e495
      replace p495 := eq_true p495
      replace q495 := eq_true q495
      go_wp2
      repeat (go_quiet (fail); try go_wp2)
      go_roundg k1
      case measure => have := HK1.out; omega
      case rel => exact ⟨(wrap64 (x5_1 + 1)), ab6, H', ⟨by have := HK1.out; omega⟩, by repeat (first | exact Drawn0.refl _ | apply Drawn0.step)⟩
     ·obtain rfl := Option.some.inj H
      have p494 : 0 ≤ (x5_1 : Int) := of_decide_eq_true ab4
      have q494 : x5_1 < (l0.length : Int) := of_decide_eq_true ab4
      obtain ⟨ad494, e494, hx494_0⟩ := Kd.at_int HR0.out x5_1 p494 q494
      cases e494
      replace p494 := eq_true p494
      replace q494 := eq_true q494
      have p495 : 0 ≤ (x5_1 : Int) := of_decide_eq_true ab4
      have q495 : x5_1 < (l1.length : Int) := of_decide_eq_true ab4
      obtain ⟨ad495, e495, hx495_0⟩ := Kd.at_int HR1.out x5_1 p495 q495
      cases e495
      replace p495 := eq_true p495
      replace q495 := eq_true q495
      go_wp2
      repeat (go_quiet (fail); try go_wp2)
      go_ret
      exact ⟨ab6, by repeat (first | exact Drawn0.refl _ | apply Drawn0.step)⟩
    ·obtain rfl := Option.some.inj H
     go_wp2
     repeat (go_quiet (fail); try go_wp2)
     go_ret
     exact ⟨ab6, by repeat (first | exact Drawn0.refl _ | apply Drawn0.step)⟩
 ·rw [if_neg c3] at H
  have c3b0 : ((l0.length : Int) == (l1.length : Int)) = false := beq_eq_false_iff_ne.mpr c3
  have c3b1 : ((l0.length : Int) != (l1.length : Int)) = true := bne_iff_ne.mpr c3
  have c3b2 : (l0.length == l1.length) = false := by first | simpa using c3 | (simp at c3 ⊢; omega)
  obtain rfl := Option.some.inj H
  go_enter Tryz.func36, Tryz.ntmps36
  go_wp2
  repeat (go_quiet (fail); try go_wp2)
  go_ret
  exact ⟨ab6, by repeat (first | exact Drawn0.refl _ | apply Drawn0.step)⟩
def laws_eqItem.f (k : Nat) (a0_0 : Int) (a0_1 : Int) (a0_2 : ByteArray) (l0_3 : List (S56)) (a0_4 : ByteArray) (a0_5 : Int) (l0_6 : List Int) (a1_0 : Int) (a1_1 : Int) (a1_2 : ByteArray) (l1_3 : List (S56)) (a1_4 : ByteArray) (a1_5 : Int) (l1_6 : List Int) : Option (Bool) := if a0_0 = a1_0 then (if a0_1 = a1_1 then (if a0_2.toList = a1_2.toList then ((laws_eqAttrS.f k l0_3 l1_3).bind fun t498 => (if t498 = true then (if a0_4.toList = a1_4.toList then (if a0_5 = a1_5 then ((laws_eqIntS.f k l0_6 l1_6).bind fun t499 => (if t499 = true then (some true) else (some false))) else (some false)) else (some false)) else (some false))) else (some false)) else (some false)) else (some false)
theorem laws_eqItem.calls (k : Nat) (a0_0 : Int) (a0_1 : Int) (a0_2 : ByteArray) (A0_3 : Option Addr) (c0_3 : Nat) (l0_3 : List (S56)) (a0_4 : ByteArray) (a0_5 : Int) (A0_6 : Option Addr) (c0_6 : Nat) (l0_6 : List Int) (a1_0 : Int) (a1_1 : Int) (a1_2 : ByteArray) (A1_3 : Option Addr) (c1_3 : Nat) (l1_3 : List (S56)) (a1_4 : ByteArray) (a1_5 : Int) (A1_6 : Option Addr) (c1_6 : Nat) (l1_6 : List Int) (r : Bool) (w : World) (hr0_3 : Kd.C k56 w A0_3 l0_3.length l0_3) (hc0_3 : l0_3.length ≤ c0_3) (hr0_6 : Kd.C (Kd.int .i64) w A0_6 l0_6.length l0_6) (hc0_6 : l0_6.length ≤ c0_6) (hr1_3 : Kd.C k56 w A1_3 l1_3.length l1_3) (hc1_3 : l1_3.length ≤ c1_3) (hr1_6 : Kd.C (Kd.int .i64) w A1_6 l1_6.length l1_6) (hc1_6 : l1_6.length ≤ c1_6) (h : laws_eqItem.f k a0_0 a0_1 a0_2 l0_3 a0_4 a0_5 l0_6 a1_0 a1_1 a1_2 l1_3 a1_4 a1_5 l1_6 = some r) :
  Calls Tryz.prog 68 #[.agg #[.int .i64 a0_0, .int .i64 a0_1, .string a0_2, .slice A0_3 l0_3.length c0_3, .string a0_4, .int .i64 a0_5, .slice A0_6 l0_6.length c0_6], .agg #[.int .i64 a1_0, .int .i64 a1_1, .string a1_2, .slice A1_3 l1_3.length c1_3, .string a1_4, .int .i64 a1_5, .slice A1_6 l1_6.length c1_6]] w fun e w' => e = .returned (.bool r) ∧ Below w.heap.size w w' := by
 have hu53 := Tryz.underlying53
 have HR0_3 := am hr0_3
 have HC0_3 := am hc0_3
 clear hr0_3 hc0_3
 have HR0_6 := am hr0_6
 have HC0_6 := am hc0_6
 clear hr0_6 hc0_6
 have HR1_3 := am hr1_3
 have HC1_3 := am hc1_3
 clear hr1_3 hc1_3
 have HR1_6 := am hr1_6
 have HC1_6 := am hc1_6
 clear hr1_6 hc1_6
 have HB := am (Below.refl w.heap.size w)
 have H : (if a0_0 = a1_0 then (if a0_1 = a1_1 then (if a0_2.toList = a1_2.toList then ((laws_eqAttrS.f k l0_3 l1_3).bind fun t498 => (if t498 = true then (if a0_4.toList = a1_4.toList then (if a0_5 = a1_5 then ((laws_eqIntS.f k l0_6 l1_6).bind fun t499 => (if t499 = true then (some true) else (some false))) else (some false)) else (some false)) else (some false))) else (some false)) else (some false)) else (some false)) = some r := h
 clear h
 replace H := ie_ H; rcases H with ⟨c3b0, c3b1, H⟩ | ⟨c3, c3b0, c3b1, H⟩
 ·replace H := ie_ H; rcases H with ⟨c4b0, c4b1, H⟩ | ⟨c4, c4b0, c4b1, H⟩
  ·replace H := ie_ H; rcases H with ⟨c5b0, c5b1, H⟩ | ⟨c5, c5b0, c5b1, H⟩
   ·replace H := bi_ H; obtain ⟨t498, A6, H⟩ := H
    replace H := ib_ H; rcases H with ⟨rfl, H⟩ | ⟨rfl, H⟩
    ·replace H := ie_ H; rcases H with ⟨c8b0, c8b1, H⟩ | ⟨c8, c8b0, c8b1, H⟩
     ·replace H := ie_ H; rcases H with ⟨c9b0, c9b1, H⟩ | ⟨c9, c9b0, c9b1, H⟩
      ·replace H := bi_ H; obtain ⟨t499, A10, H⟩ := H
       replace H := ib_ H; rcases H with ⟨rfl, H⟩ | ⟨rfl, H⟩
       ·obtain rfl := Option.some.inj H
        go_enter Tryz.func68, Tryz.ntmps68
        go_wp2_with (first | ((with_reducible refine gd_ 2 ?_); refine bx_ 2 (cs := #[.int .i64 a0_0, .int .i64 a0_1, .string a0_2, .slice A0_3 l0_3.length c0_3, .string a0_4, .int .i64 a0_5, .slice A0_6 l0_6.length c0_6]) 53 ?_; intro gb496 hg w12 hbox hb; have BK496 := am hbox; have GW496 := ge_ (w := w) hg; have GE496 := ge_ (w := w) hg; replace HB := am (below_step ab1 hb); clear hb hbox hg) | ((with_reducible refine gd_ 3 ?_); refine bx_ 3 (cs := #[.int .i64 a1_0, .int .i64 a1_1, .string a1_2, .slice A1_3 l1_3.length c1_3, .string a1_4, .int .i64 a1_5, .slice A1_6 l1_6.length c1_6]) 53 ?_; intro gb497 hg w13 hbox hb; have BK497 := am hbox; have GW497 := gE_ (w := w) GE496 hg; have GE497 := gE_ (w := w) GE496 hg; replace HB := am (below_step (ab2 GE496) hb); have NB496_497 := nl_ BK496 hg; have NB497_496 := ng_ BK496 hg; replace BK496 := bl_ BK496 hb; clear hb hbox hg; have hnb14 := NB496_497.out; have hnc14 := NB497_496.out; obtain ⟨⟨_, _, _, _, _, _, _⟩, _, _, _, _, _, _, _⟩ := Op.cells7 BK496.out; obtain ⟨⟨_, _, _, _, _, _, _⟩, _, _, _, _, _, _, _⟩ := Op.cells7 BK497.out) | ((with_reducible refine gf_ 13 ?_); refine gc_ Tryz.func13 (laws_eqAttrS.calls k _ _ l0_3 _ _ l1_3 true _ (sc_ HR0_3) HC0_3.out (sc_ HR1_3) HC1_3.out A6.out) ?_; rintro w17 hb; replace BK496 := bl_ BK496 hb; replace BK497 := bl_ BK497 hb; replace HB := am (below_step ba_ hb); (try clear hb); obtain ⟨⟨_, _, _, _, _, _, _⟩, _, _, _, _, _, _, _⟩ := Op.cells7 BK496.out; obtain ⟨⟨_, _, _, _, _, _, _⟩, _, _, _, _, _, _, _⟩ := Op.cells7 BK497.out) | ((with_reducible refine gf_ 36 ?_); refine gc_ Tryz.func36 (laws_eqIntS.calls k _ _ l0_6 _ _ l1_6 true _ (sc_ HR0_6) HC0_6.out (sc_ HR1_6) HC1_6.out A10.out) ?_; rintro w' ⟨nd, rfl⟩))
        go_ret
        exact ⟨ab7, ba_⟩
       ·obtain rfl := Option.some.inj H
        go_enter Tryz.func68, Tryz.ntmps68
        go_wp2_with (first | ((with_reducible refine gd_ 2 ?_); refine bx_ 2 (cs := #[.int .i64 a0_0, .int .i64 a0_1, .string a0_2, .slice A0_3 l0_3.length c0_3, .string a0_4, .int .i64 a0_5, .slice A0_6 l0_6.length c0_6]) 53 ?_; intro gb496 hg w20 hbox hb; have BK496 := am hbox; have GW496 := ge_ (w := w) hg; have GE496 := ge_ (w := w) hg; replace HB := am (below_step ab1 hb); clear hb hbox hg) | ((with_reducible refine gd_ 3 ?_); refine bx_ 3 (cs := #[.int .i64 a1_0, .int .i64 a1_1, .string a1_2, .slice A1_3 l1_3.length c1_3, .string a1_4, .int .i64 a1_5, .slice A1_6 l1_6.length c1_6]) 53 ?_; intro gb497 hg w21 hbox hb; have BK497 := am hbox; have GW497 := gE_ (w := w) GE496 hg; have GE497 := gE_ (w := w) GE496 hg; replace HB := am (below_step (ab2 GE496) hb); have NB496_497 := nl_ BK496 hg; have NB497_496 := ng_ BK496 hg; replace BK496 := bl_ BK496 hb; clear hb hbox hg; have hnb22 := NB496_497.out; have hnc22 := NB497_496.out; obtain ⟨⟨_, _, _, _, _, _, _⟩, _, _, _, _, _, _, _⟩ := Op.cells7 BK496.out; obtain ⟨⟨_, _, _, _, _, _, _⟩, _, _, _, _, _, _, _⟩ := Op.cells7 BK497.out) | ((with_reducible refine gf_ 13 ?_); refine gc_ Tryz.func13 (laws_eqAttrS.calls k _ _ l0_3 _ _ l1_3 true _ (sc_ HR0_3) HC0_3.out (sc_ HR1_3) HC1_3.out A6.out) ?_; rintro w25 hb; replace BK496 := bl_ BK496 hb; replace BK497 := bl_ BK497 hb; replace HB := am (below_step ba_ hb); (try clear hb); obtain ⟨⟨_, _, _, _, _, _, _⟩, _, _, _, _, _, _, _⟩ := Op.cells7 BK496.out; obtain ⟨⟨_, _, _, _, _, _, _⟩, _, _, _, _, _, _, _⟩ := Op.cells7 BK497.out) | ((with_reducible refine gf_ 36 ?_); refine gc_ Tryz.func36 (laws_eqIntS.calls k _ _ l0_6 _ _ l1_6 false _ (sc_ HR0_6) HC0_6.out (sc_ HR1_6) HC1_6.out A10.out) ?_; rintro w' ⟨nd, rfl⟩))
        go_ret
        exact ⟨ab7, ba_⟩
      ·obtain rfl := Option.some.inj H
       go_enter Tryz.func68, Tryz.ntmps68
       go_wp2_with (first | ((with_reducible refine gd_ 2 ?_); refine bx_ 2 (cs := #[.int .i64 a0_0, .int .i64 a0_1, .string a0_2, .slice A0_3 l0_3.length c0_3, .string a0_4, .int .i64 a0_5, .slice A0_6 l0_6.length c0_6]) 53 ?_; intro gb496 hg w28 hbox hb; have BK496 := am hbox; have GW496 := ge_ (w := w) hg; have GE496 := ge_ (w := w) hg; replace HB := am (below_step ab1 hb); clear hb hbox hg) | ((with_reducible refine gd_ 3 ?_); refine bx_ 3 (cs := #[.int .i64 a1_0, .int .i64 a1_1, .string a1_2, .slice A1_3 l1_3.length c1_3, .string a1_4, .int .i64 a1_5, .slice A1_6 l1_6.length c1_6]) 53 ?_; intro gb497 hg w29 hbox hb; have BK497 := am hbox; have GW497 := gE_ (w := w) GE496 hg; have GE497 := gE_ (w := w) GE496 hg; replace HB := am (below_step (ab2 GE496) hb); have NB496_497 := nl_ BK496 hg; have NB497_496 := ng_ BK496 hg; replace BK496 := bl_ BK496 hb; clear hb hbox hg; have hnb30 := NB496_497.out; have hnc30 := NB497_496.out; obtain ⟨⟨_, _, _, _, _, _, _⟩, _, _, _, _, _, _, _⟩ := Op.cells7 BK496.out; obtain ⟨⟨_, _, _, _, _, _, _⟩, _, _, _, _, _, _, _⟩ := Op.cells7 BK497.out) | ((with_reducible refine gf_ 13 ?_); refine gc_ Tryz.func13 (laws_eqAttrS.calls k _ _ l0_3 _ _ l1_3 true _ (sc_ HR0_3) HC0_3.out (sc_ HR1_3) HC1_3.out A6.out) ?_; rintro w33 hb; replace BK496 := bl_ BK496 hb; replace BK497 := bl_ BK497 hb; replace HB := am (below_step ba_ hb); (try clear hb); obtain ⟨⟨_, _, _, _, _, _, _⟩, _, _, _, _, _, _, _⟩ := Op.cells7 BK496.out; obtain ⟨⟨_, _, _, _, _, _, _⟩, _, _, _, _, _, _, _⟩ := Op.cells7 BK497.out))
       go_ret
       exact ⟨ab7, ba_⟩
     ·obtain rfl := Option.some.inj H
      go_enter Tryz.func68, Tryz.ntmps68
      go_wp2_with (first | ((with_reducible refine gd_ 2 ?_); refine bx_ 2 (cs := #[.int .i64 a0_0, .int .i64 a0_1, .string a0_2, .slice A0_3 l0_3.length c0_3, .string a0_4, .int .i64 a0_5, .slice A0_6 l0_6.length c0_6]) 53 ?_; intro gb496 hg w36 hbox hb; have BK496 := am hbox; have GW496 := ge_ (w := w) hg; have GE496 := ge_ (w := w) hg; replace HB := am (below_step ab1 hb); clear hb hbox hg) | ((with_reducible refine gd_ 3 ?_); refine bx_ 3 (cs := #[.int .i64 a1_0, .int .i64 a1_1, .string a1_2, .slice A1_3 l1_3.length c1_3, .string a1_4, .int .i64 a1_5, .slice A1_6 l1_6.length c1_6]) 53 ?_; intro gb497 hg w37 hbox hb; have BK497 := am hbox; have GW497 := gE_ (w := w) GE496 hg; have GE497 := gE_ (w := w) GE496 hg; replace HB := am (below_step (ab2 GE496) hb); have NB496_497 := nl_ BK496 hg; have NB497_496 := ng_ BK496 hg; replace BK496 := bl_ BK496 hb; clear hb hbox hg; have hnb38 := NB496_497.out; have hnc38 := NB497_496.out; obtain ⟨⟨_, _, _, _, _, _, _⟩, _, _, _, _, _, _, _⟩ := Op.cells7 BK496.out; obtain ⟨⟨_, _, _, _, _, _, _⟩, _, _, _, _, _, _, _⟩ := Op.cells7 BK497.out) | ((with_reducible refine gf_ 13 ?_); refine gc_ Tryz.func13 (laws_eqAttrS.calls k _ _ l0_3 _ _ l1_3 true _ (sc_ HR0_3) HC0_3.out (sc_ HR1_3) HC1_3.out A6.out) ?_; rintro w41 hb; replace BK496 := bl_ BK496 hb; replace BK497 := bl_ BK497 hb; replace HB := am (below_step ba_ hb); (try clear hb); obtain ⟨⟨_, _, _, _, _, _, _⟩, _, _, _, _, _, _, _⟩ := Op.cells7 BK496.out; obtain ⟨⟨_, _, _, _, _, _, _⟩, _, _, _, _, _, _, _⟩ := Op.cells7 BK497.out))
      go_ret
      exact ⟨ab7, ba_⟩
    ·obtain rfl := Option.some.inj H
     go_enter Tryz.func68, Tryz.ntmps68
     go_wp2_with (first | ((with_reducible refine gd_ 2 ?_); refine bx_ 2 (cs := #[.int .i64 a0_0, .int .i64 a0_1, .string a0_2, .slice A0_3 l0_3.length c0_3, .string a0_4, .int .i64 a0_5, .slice A0_6 l0_6.length c0_6]) 53 ?_; intro gb496 hg w44 hbox hb; have BK496 := am hbox; have GW496 := ge_ (w := w) hg; have GE496 := ge_ (w := w) hg; replace HB := am (below_step ab1 hb); clear hb hbox hg) | ((with_reducible refine gd_ 3 ?_); refine bx_ 3 (cs := #[.int .i64 a1_0, .int .i64 a1_1, .string a1_2, .slice A1_3 l1_3.length c1_3, .string a1_4, .int .i64 a1_5, .slice A1_6 l1_6.length c1_6]) 53 ?_; intro gb497 hg w45 hbox hb; have BK497 := am hbox; have GW497 := gE_ (w := w) GE496 hg; have GE497 := gE_ (w := w) GE496 hg; replace HB := am (below_step (ab2 GE496) hb); have NB496_497 := nl_ BK496 hg; have NB497_496 := ng_ BK496 hg; replace BK496 := bl_ BK496 hb; clear hb hbox hg; have hnb46 := NB496_497.out; have hnc46 := NB497_496.out; obtain ⟨⟨_, _, _, _, _, _, _⟩, _, _, _, _, _, _, _⟩ := Op.cells7 BK496.out; obtain ⟨⟨_, _, _, _, _, _, _⟩, _, _, _, _, _, _, _⟩ := Op.cells7 BK497.out) | ((with_reducible refine gf_ 13 ?_); refine gc_ Tryz.func13 (laws_eqAttrS.calls k _ _ l0_3 _ _ l1_3 false _ (sc_ HR0_3) HC0_3.out (sc_ HR1_3) HC1_3.out A6.out) ?_; rintro w49 hb; replace BK496 := bl_ BK496 hb; replace BK497 := bl_ BK497 hb; replace HB := am (below_step ba_ hb); (try clear hb)))
     go_ret
     exact ⟨ab7, ba_⟩
   ·obtain rfl := Option.some.inj H
    go_enter Tryz.func68, Tryz.ntmps68
    go_wp2_with (first | ((with_reducible refine gd_ 2 ?_); refine bx_ 2 (cs := #[.int .i64 a0_0, .int .i64 a0_1, .string a0_2, .slice A0_3 l0_3.length c0_3, .string a0_4, .int .i64 a0_5, .slice A0_6 l0_6.length c0_6]) 53 ?_; intro gb496 hg w50 hbox hb; have BK496 := am hbox; have GW496 := ge_ (w := w) hg; have GE496 := ge_ (w := w) hg; replace HB := am (below_step ab1 hb); clear hb hbox hg) | ((with_reducible refine gd_ 3 ?_); refine bx_ 3 (cs := #[.int .i64 a1_0, .int .i64 a1_1, .string a1_2, .slice A1_3 l1_3.length c1_3, .string a1_4, .int .i64 a1_5, .slice A1_6 l1_6.length c1_6]) 53 ?_; intro gb497 hg w51 hbox hb; have BK497 := am hbox; have GW497 := gE_ (w := w) GE496 hg; have GE497 := gE_ (w := w) GE496 hg; replace HB := am (below_step (ab2 GE496) hb); have NB496_497 := nl_ BK496 hg; have NB497_496 := ng_ BK496 hg; replace BK496 := bl_ BK496 hb; clear hb hbox hg; have hnb52 := NB496_497.out; have hnc52 := NB497_496.out; obtain ⟨⟨_, _, _, _, _, _, _⟩, _, _, _, _, _, _, _⟩ := Op.cells7 BK496.out; obtain ⟨⟨_, _, _, _, _, _, _⟩, _, _, _, _, _, _, _⟩ := Op.cells7 BK497.out))
    go_ret
    exact ⟨ab7, ba_⟩
  ·obtain rfl := Option.some.inj H
   go_enter Tryz.func68, Tryz.ntmps68
   go_wp2_with (first | ((with_reducible refine gd_ 2 ?_); refine bx_ 2 (cs := #[.int .i64 a0_0, .int .i64 a0_1, .string a0_2, .slice A0_3 l0_3.length c0_3, .string a0_4, .int .i64 a0_5, .slice A0_6 l0_6.length c0_6]) 53 ?_; intro gb496 hg w55 hbox hb; have BK496 := am hbox; have GW496 := ge_ (w := w) hg; have GE496 := ge_ (w := w) hg; replace HB := am (below_step ab1 hb); clear hb hbox hg) | ((with_reducible refine gd_ 3 ?_); refine bx_ 3 (cs := #[.int .i64 a1_0, .int .i64 a1_1, .string a1_2, .slice A1_3 l1_3.length c1_3, .string a1_4, .int .i64 a1_5, .slice A1_6 l1_6.length c1_6]) 53 ?_; intro gb497 hg w56 hbox hb; have BK497 := am hbox; have GW497 := gE_ (w := w) GE496 hg; have GE497 := gE_ (w := w) GE496 hg; replace HB := am (below_step (ab2 GE496) hb); have NB496_497 := nl_ BK496 hg; have NB497_496 := ng_ BK496 hg; replace BK496 := bl_ BK496 hb; clear hb hbox hg; have hnb57 := NB496_497.out; have hnc57 := NB497_496.out; obtain ⟨⟨_, _, _, _, _, _, _⟩, _, _, _, _, _, _, _⟩ := Op.cells7 BK496.out; obtain ⟨⟨_, _, _, _, _, _, _⟩, _, _, _, _, _, _, _⟩ := Op.cells7 BK497.out))
   go_ret
   exact ⟨ab7, ba_⟩
 ·obtain rfl := Option.some.inj H
  go_enter Tryz.func68, Tryz.ntmps68
  go_wp2_with (first | ((with_reducible refine gd_ 2 ?_); refine bx_ 2 (cs := #[.int .i64 a0_0, .int .i64 a0_1, .string a0_2, .slice A0_3 l0_3.length c0_3, .string a0_4, .int .i64 a0_5, .slice A0_6 l0_6.length c0_6]) 53 ?_; intro gb496 hg w60 hbox hb; have BK496 := am hbox; have GW496 := ge_ (w := w) hg; have GE496 := ge_ (w := w) hg; replace HB := am (below_step ab1 hb); clear hb hbox hg) | ((with_reducible refine gd_ 3 ?_); refine bx_ 3 (cs := #[.int .i64 a1_0, .int .i64 a1_1, .string a1_2, .slice A1_3 l1_3.length c1_3, .string a1_4, .int .i64 a1_5, .slice A1_6 l1_6.length c1_6]) 53 ?_; intro gb497 hg w61 hbox hb; have BK497 := am hbox; have GW497 := gE_ (w := w) GE496 hg; have GE497 := gE_ (w := w) GE496 hg; replace HB := am (below_step (ab2 GE496) hb); have NB496_497 := nl_ BK496 hg; have NB497_496 := ng_ BK496 hg; replace BK496 := bl_ BK496 hb; clear hb hbox hg; have hnb62 := NB496_497.out; have hnc62 := NB497_496.out; obtain ⟨⟨_, _, _, _, _, _, _⟩, _, _, _, _, _, _, _⟩ := Op.cells7 BK496.out; obtain ⟨⟨_, _, _, _, _, _, _⟩, _, _, _, _, _, _, _⟩ := Op.cells7 BK497.out))
  go_ret
  exact ⟨ab7, ba_⟩
def laws_eqItemS.l0 : Nat → List (S53) → List (S53) → Int → Option (Bool)
 | 0, _, _, _ => none
 | k + 1, x0, x1, x5 => if x5 < (x0.length : Int) then (if 0 ≤ x5 then (if x5 < (x1.length : Int) then ((laws_eqItem.f k ((rd_T53 x0 x5).f0) ((rd_T53 x0 x5).f1) ((rd_T53 x0 x5).f2) ((rd_T53 x0 x5).f3) ((rd_T53 x0 x5).f4) ((rd_T53 x0 x5).f5) ((rd_T53 x0 x5).f6) ((rd_T53 x1 x5).f0) ((rd_T53 x1 x5).f1) ((rd_T53 x1 x5).f2) ((rd_T53 x1 x5).f3) ((rd_T53 x1 x5).f4) ((rd_T53 x1 x5).f5) ((rd_T53 x1 x5).f6)).bind fun t502 => (if t502 = true then (laws_eqItemS.l0 k x0 x1 (wrap64 (x5 + 1))) else (some false))) else (none)) else (none)) else (some true)
def laws_eqItemS.f (k : Nat) (l0 : List (S53)) (l1 : List (S53)) : Option (Bool) := if (l0.length : Int) = (l1.length : Int) then (laws_eqItemS.l0 k l0 l1 0) else (some false)
def laws_eqItemS.T6 : Bool × List (List Nat × List Nat) := (true, [([], []), ([], []), ([0, 1], [0, 1]), ([2], [2]), ([], []), ([], []), ([4, 5], [4, 5]), ([6], [6]), ([3, 7], [3, 7]), ([8], [8])])
def laws_eqItemS.B6 : List Nat := [0, 0, 3, 7, 0, 0, 48, 112, 255, 511]
theorem laws_eqItemS.tab6 : rtab .any (opsOf Tryz.f35 6) = laws_eqItemS.T6 := by kernel_rfl
theorem laws_eqItemS.bits6 : waitsOk laws_eqItemS.T6.2 laws_eqItemS.B6 = true := by kernel_rfl
theorem laws_eqItemS.calls (k : Nat) (A0 : Option Addr) (c0 : Nat) (l0 : List (S53)) (A1 : Option Addr) (c1 : Nat) (l1 : List (S53)) (r : Bool) (w : World) (hr0 : Kd.C k53 w A0 l0.length l0) (hc0 : l0.length ≤ c0) (hr1 : Kd.C k53 w A1 l1.length l1) (hc1 : l1.length ≤ c1) (h : laws_eqItemS.f k l0 l1 = some r) :
  Calls Tryz.prog 35 #[.slice A0 l0.length c0, .slice A1 l1.length c1] w fun e w' => e = .returned (.bool r) ∧ Below w.heap.size w w' := by
 have hu53 := Tryz.underlying53
 have HR0 := am hr0
 have HC0 := am hc0
 clear hr0 hc0
 have HR1 := am hr1
 have HC1 := am hc1
 clear hr1 hc1
 have HB := am (Below.refl w.heap.size w)
 have H : (if (l0.length : Int) = (l1.length : Int) then (laws_eqItemS.l0 k l0 l1 0) else (some false)) = some r := h
 clear h
 by_cases c3 : (l0.length : Int) = (l1.length : Int)
 ·rw [if_pos c3] at H
  have c3b0 : ((l0.length : Int) == (l1.length : Int)) = true := beq_iff_eq.mpr c3
  have c3b1 : ((l0.length : Int) != (l1.length : Int)) = false := bne_eq_false_iff_eq.mpr c3
  have c3b2 : (l0.length == l1.length) = true := by first | simpa using c3 | (simp at c3 ⊢; omega)
  clear c3
  have H' := am H
  clear H
  go_enter Tryz.func35, Tryz.ntmps35
  go_wp2
  go_loopg [5] k (fun kq v5 w' => ∃ (x5_1 : Int), v5 = .int .i64 x5_1 ∧ Aside0 (laws_eqItemS.l0 kq l0 l1 x5_1 = some r) ∧ Aside0 (kq ≤ k) ∧ Aside0 (Below w.heap.size w w'))
  case atStart => exact ⟨(0), ab6, H', ⟨Nat.le_refl _⟩, ⟨ab1⟩⟩
  case round =>
   clear H'
   (try clear c1); (try clear p2); (try clear c3); (try clear c3b0); (try clear c3b1); (try clear c3b2)
   obtain ⟨x5_1, rfl, HA, HK1, HB⟩ := hrel
   cases gk with
   | zero => exact absurd HA.out (by simp [laws_eqItemS.l0])
   | succ k1 =>
    have H := HA.out
    clear HA
    simp only [laws_eqItemS.l0] at H
    replace H := ir_ H; rcases H with ⟨c4b0, H⟩ | ⟨c4b0, H⟩
    ·replace H := iq_ H; obtain ⟨c5b0, H⟩ := H
     replace H := iq_ H; obtain ⟨c6b0, H⟩ := H
     replace H := bi_ H; obtain ⟨t502, A7, H⟩ := H
     replace H := ib_ H; rcases H with ⟨rfl, H⟩ | ⟨rfl, H⟩
     ·have H' := am H
      clear H
      try go_wp2
      replace HB := am (below_drew1 HB.out)
      obtain ⟨p500, q500, ad500, A500_3, c500_3, A500_6, c500_6, rfl, hx500_0, hx500_1, hx500_2, hx500_3, hx500_4, hx500_5, hx500_6, HC500_3, HR500_3, HC500_6, HR500_6, hw500⟩ := osT53 HB HR0.out x5_1 (of_decide_eq_true ab4) (of_decide_eq_true ab4)
      obtain ⟨p501, q501, ad501, A501_3, c501_3, A501_6, c501_6, rfl, hx501_0, hx501_1, hx501_2, hx501_3, hx501_4, hx501_5, hx501_6, HC501_3, HR501_3, HC501_6, HR501_6, hw501⟩ := osT53 HB HR1.out x5_1 (of_decide_eq_true ab4) (of_decide_eq_true ab4)
      refine start_ (n := 10) (ds := []) #[false, false, false, false, false, false, false, false, false, false] (by kernel_rfl) rfl rfl (spT53 HB hw500 (spT53 HB hw501 tr_ :) :) (fun hHeld => ?_); refine with_tabW laws_eqItemS.tab6 laws_eqItemS.bits6 (fun HT_ HW_ => ?_)
      generalize wr.drew = w9 at HB HR500_3 HR500_6 HR501_3 HR501_6 hx500_0 hx500_1 hx500_2 hx500_3 hx500_4 hx500_5 hx500_6 hx501_0 hx501_1 hx501_2 hx501_3 hx501_4 hx501_5 hx501_6 hHeld ⊢
      refine pa_ 0 17 HT_ ?_
      refine pa_ 1 18 HT_ ?_
      refine pa_ 2 19 HT_ ?_
      refine pa_ 4 21 HT_ ?_
      refine pa_ 5 22 HT_ ?_
      refine pa_ 6 23 HT_ ?_
      refine tk_ 3 20 HT_ HW_ hHeld ?_
      refine tk_ 7 24 HT_ HW_ hHeld ?_
      refine on_ 8 25 HT_ fun K hK => ?_
      refine goes_ Tryz.func68 (by kernel_rfl) rfl #[.agg #[.int .i64 ((rd_T53 l0 x5_1).f0), .int .i64 ((rd_T53 l0 x5_1).f1), .string ((rd_T53 l0 x5_1).f2), .slice A500_3 ((rd_T53 l0 x5_1).f3).length c500_3, .string ((rd_T53 l0 x5_1).f4), .int .i64 ((rd_T53 l0 x5_1).f5), .slice A500_6 ((rd_T53 l0 x5_1).f6).length c500_6], .agg #[.int .i64 ((rd_T53 l1 x5_1).f0), .int .i64 ((rd_T53 l1 x5_1).f1), .string ((rd_T53 l1 x5_1).f2), .slice A501_3 ((rd_T53 l1 x5_1).f3).length c501_3, .string ((rd_T53 l1 x5_1).f4), .int .i64 ((rd_T53 l1 x5_1).f5), .slice A501_6 ((rd_T53 l1 x5_1).f6).length c501_6]] (by rfl) rfl rfl ab5 ?_
      with_reducible refine (laws_eqItem.calls k1 ((rd_T53 l0 x5_1).f0) ((rd_T53 l0 x5_1).f1) ((rd_T53 l0 x5_1).f2) _ _ ((rd_T53 l0 x5_1).f3) ((rd_T53 l0 x5_1).f4) ((rd_T53 l0 x5_1).f5) _ _ ((rd_T53 l0 x5_1).f6) ((rd_T53 l1 x5_1).f0) ((rd_T53 l1 x5_1).f1) ((rd_T53 l1 x5_1).f2) _ _ ((rd_T53 l1 x5_1).f3) ((rd_T53 l1 x5_1).f4) ((rd_T53 l1 x5_1).f5) _ _ ((rd_T53 l1 x5_1).f6) true _ ?side1 ?side2 ?side3 ?side4 ?side5 ?side6 ?side7 ?side8 A7.out).mono ?_
      (case side1 => repeat (first | exact (Kd.C_below HR500_3.out HB.out) | (with_reducible refine Kd.C_alloc ?_ _) | (with_reducible refine Kd.C_drewN ?_ _) | (with_reducible refine Kd.C_drew ?_)))
      (case side2 => exact HC500_3.out)
      (case side3 => repeat (first | exact (Kd.C_below HR500_6.out HB.out) | (with_reducible refine Kd.C_alloc ?_ _) | (with_reducible refine Kd.C_drewN ?_ _) | (with_reducible refine Kd.C_drew ?_)))
      (case side4 => exact HC500_6.out)
      (case side5 => repeat (first | exact (Kd.C_below HR501_3.out HB.out) | (with_reducible refine Kd.C_alloc ?_ _) | (with_reducible refine Kd.C_drewN ?_ _) | (with_reducible refine Kd.C_drew ?_)))
      (case side6 => exact HC501_3.out)
      (case side7 => repeat (first | exact (Kd.C_below HR501_6.out HB.out) | (with_reducible refine Kd.C_alloc ?_ _) | (with_reducible refine Kd.C_drewN ?_ _) | (with_reducible refine Kd.C_drew ?_)))
      (case side8 => exact HC501_6.out)
      rintro e w10 ⟨rfl, hb⟩
      refine ⟨_, rfl, ?_⟩
      replace HB := am (below_step ab1 hb)
      (try clear hb)
      refine hK.out _ _ (spT53 HB hw500 (spT53 HB hw501 tr_ :) :) (fun hHeld => ?_)
      clear hK K
      refine nm_ ?_
      refine pa_ 9 26 HT_ ?_
      refine dn_ HT_ ?_
      try go_wp2
      go_roundg k1
      case measure => have := HK1.out; omega
      case rel => exact ⟨(wrap64 (x5_1 + 1)), ab6, H', ⟨by have := HK1.out; omega⟩, ⟨ab1⟩⟩
     ·obtain rfl := Option.some.inj H
      try go_wp2
      replace HB := am (below_drew1 HB.out)
      obtain ⟨p500, q500, ad500, A500_3, c500_3, A500_6, c500_6, rfl, hx500_0, hx500_1, hx500_2, hx500_3, hx500_4, hx500_5, hx500_6, HC500_3, HR500_3, HC500_6, HR500_6, hw500⟩ := osT53 HB HR0.out x5_1 (of_decide_eq_true ab4) (of_decide_eq_true ab4)
      obtain ⟨p501, q501, ad501, A501_3, c501_3, A501_6, c501_6, rfl, hx501_0, hx501_1, hx501_2, hx501_3, hx501_4, hx501_5, hx501_6, HC501_3, HR501_3, HC501_6, HR501_6, hw501⟩ := osT53 HB HR1.out x5_1 (of_decide_eq_true ab4) (of_decide_eq_true ab4)
      refine start_ (n := 10) (ds := []) #[false, false, false, false, false, false, false, false, false, false] (by kernel_rfl) rfl rfl (spT53 HB hw500 (spT53 HB hw501 tr_ :) :) (fun hHeld => ?_); refine with_tabW laws_eqItemS.tab6 laws_eqItemS.bits6 (fun HT_ HW_ => ?_)
      generalize wr.drew = w11 at HB HR500_3 HR500_6 HR501_3 HR501_6 hx500_0 hx500_1 hx500_2 hx500_3 hx500_4 hx500_5 hx500_6 hx501_0 hx501_1 hx501_2 hx501_3 hx501_4 hx501_5 hx501_6 hHeld ⊢
      refine pa_ 0 17 HT_ ?_
      refine pa_ 1 18 HT_ ?_
      refine pa_ 2 19 HT_ ?_
      refine pa_ 4 21 HT_ ?_
      refine pa_ 5 22 HT_ ?_
      refine pa_ 6 23 HT_ ?_
      refine tk_ 3 20 HT_ HW_ hHeld ?_
      refine tk_ 7 24 HT_ HW_ hHeld ?_
      refine on_ 8 25 HT_ fun K hK => ?_
      refine goes_ Tryz.func68 (by kernel_rfl) rfl #[.agg #[.int .i64 ((rd_T53 l0 x5_1).f0), .int .i64 ((rd_T53 l0 x5_1).f1), .string ((rd_T53 l0 x5_1).f2), .slice A500_3 ((rd_T53 l0 x5_1).f3).length c500_3, .string ((rd_T53 l0 x5_1).f4), .int .i64 ((rd_T53 l0 x5_1).f5), .slice A500_6 ((rd_T53 l0 x5_1).f6).length c500_6], .agg #[.int .i64 ((rd_T53 l1 x5_1).f0), .int .i64 ((rd_T53 l1 x5_1).f1), .string ((rd_T53 l1 x5_1).f2), .slice A501_3 ((rd_T53 l1 x5_1).f3).length c501_3, .string ((rd_T53 l1 x5_1).f4), .int .i64 ((rd_T53 l1 x5_1).f5), .slice A501_6 ((rd_T53 l1 x5_1).f6).length c501_6]] (by rfl) rfl rfl ab5 ?_
      with_reducible refine (laws_eqItem.calls k1 ((rd_T53 l0 x5_1).f0) ((rd_T53 l0 x5_1).f1) ((rd_T53 l0 x5_1).f2) _ _ ((rd_T53 l0 x5_1).f3) ((rd_T53 l0 x5_1).f4) ((rd_T53 l0 x5_1).f5) _ _ ((rd_T53 l0 x5_1).f6) ((rd_T53 l1 x5_1).f0) ((rd_T53 l1 x5_1).f1) ((rd_T53 l1 x5_1).f2) _ _ ((rd_T53 l1 x5_1).f3) ((rd_T53 l1 x5_1).f4) ((rd_T53 l1 x5_1).f5) _ _ ((rd_T53 l1 x5_1).f6) false _ ?side1 ?side2 ?side3 ?side4 ?side5 ?side6 ?side7 ?side8 A7.out).mono ?_
      (case side1 => repeat (first | exact (Kd.C_below HR500_3.out HB.out) | (with_reducible refine Kd.C_alloc ?_ _) | (with_reducible refine Kd.C_drewN ?_ _) | (with_reducible refine Kd.C_drew ?_)))
      (case side2 => exact HC500_3.out)
      (case side3 => repeat (first | exact (Kd.C_below HR500_6.out HB.out) | (with_reducible refine Kd.C_alloc ?_ _) | (with_reducible refine Kd.C_drewN ?_ _) | (with_reducible refine Kd.C_drew ?_)))
      (case side4 => exact HC500_6.out)
      (case side5 => repeat (first | exact (Kd.C_below HR501_3.out HB.out) | (with_reducible refine Kd.C_alloc ?_ _) | (with_reducible refine Kd.C_drewN ?_ _) | (with_reducible refine Kd.C_drew ?_)))
      (case side6 => exact HC501_3.out)
      (case side7 => repeat (first | exact (Kd.C_below HR501_6.out HB.out) | (with_reducible refine Kd.C_alloc ?_ _) | (with_reducible refine Kd.C_drewN ?_ _) | (with_reducible refine Kd.C_drew ?_)))
      (case side8 => exact HC501_6.out)
      rintro e w12 ⟨rfl, hb⟩
      refine ⟨_, rfl, ?_⟩
      replace HB := am (below_step ab1 hb)
      (try clear hb)
      refine hK.out _ _ (spT53 HB hw500 (spT53 HB hw501 tr_ :) :) (fun hHeld => ?_)
      clear hK K
      refine nm_ ?_
      refine pa_ 9 26 HT_ ?_
      refine dn_ HT_ ?_
      try go_wp2
      go_ret
      exact ⟨ab7, ab1⟩
    ·obtain rfl := Option.some.inj H
     go_wp2
     go_ret
     exact ⟨ab7, ab1⟩
 ·rw [if_neg c3] at H
  have c3b0 : ((l0.length : Int) == (l1.length : Int)) = false := beq_eq_false_iff_ne.mpr c3
  have c3b1 : ((l0.length : Int) != (l1.length : Int)) = true := bne_iff_ne.mpr c3
  have c3b2 : (l0.length == l1.length) = false := by first | simpa using c3 | (simp at c3 ⊢; omega)
  obtain rfl := Option.some.inj H
  go_enter Tryz.func35, Tryz.ntmps35
  go_wp2
  go_ret
  exact ⟨ab7, ab1⟩
theorem z29_0 {q0 p : Prop} (g0 : Aside0 q0) (h : Aside0 q0 → p := by intro g0_; repeat (first | exact (Kd.C_below g0_.out ba_) | (with_reducible refine Kd.C_alloc ?_ _) | (with_reducible refine Kd.C_drewN ?_ _) | (with_reducible refine Kd.C_drew ?_))) : p := h g0
theorem z29_1 {p : Prop} (h : p := by repeat (first | (with_reducible first | exact HK.out | apply Kept.alloc | apply Kept.drewN | apply Kept.drew) | exact HK.out)) : p := h
def laws_eqPage.f (k : Nat) (l0_0 : List (S53)) (l0_1 : List Int) (l0_2 : List Int) (a0_3 : Int) (a0_4 : Int) (l1_0 : List (S53)) (l1_1 : List Int) (l1_2 : List Int) (a1_3 : Int) (a1_4 : Int) : Option (Bool) := (laws_eqItemS.f k l0_0 l1_0).bind fun t505 => (if t505 = true then ((laws_eqIntS.f k l0_1 l1_1).bind fun t506 => (if t506 = true then ((laws_eqIntS.f k l0_2 l1_2).bind fun t507 => (if t507 = true then (if a0_3 = a1_3 then (if a0_4 = a1_4 then (some true) else (some false)) else (some false)) else (some false))) else (some false))) else (some false))
theorem laws_eqPage.calls (k : Nat) (A0_0 : Option Addr) (c0_0 : Nat) (l0_0 : List (S53)) (A0_1 : Option Addr) (c0_1 : Nat) (l0_1 : List Int) (A0_2 : Option Addr) (c0_2 : Nat) (l0_2 : List Int) (a0_3 : Int) (a0_4 : Int) (A1_0 : Option Addr) (c1_0 : Nat) (l1_0 : List (S53)) (A1_1 : Option Addr) (c1_1 : Nat) (l1_1 : List Int) (A1_2 : Option Addr) (c1_2 : Nat) (l1_2 : List Int) (a1_3 : Int) (a1_4 : Int) (r : Bool) (w : World) (hr0_0 : Kd.C k53 w A0_0 l0_0.length l0_0) (hc0_0 : l0_0.length ≤ c0_0) (hr0_1 : Kd.C (Kd.int .i64) w A0_1 l0_1.length l0_1) (hc0_1 : l0_1.length ≤ c0_1) (hr0_2 : Kd.C (Kd.int .i64) w A0_2 l0_2.length l0_2) (hc0_2 : l0_2.length ≤ c0_2) (hr1_0 : Kd.C k53 w A1_0 l1_0.length l1_0) (hc1_0 : l1_0.length ≤ c1_0) (hr1_1 : Kd.C (Kd.int .i64) w A1_1 l1_1.length l1_1) (hc1_1 : l1_1.length ≤ c1_1) (hr1_2 : Kd.C (Kd.int .i64) w A1_2 l1_2.length l1_2) (hc1_2 : l1_2.length ≤ c1_2) (h : laws_eqPage.f k l0_0 l0_1 l0_2 a0_3 a0_4 l1_0 l1_1 l1_2 a1_3 a1_4 = some r) :
  Calls Tryz.prog 12 #[.agg #[.slice A0_0 l0_0.length c0_0, .slice A0_1 l0_1.length c0_1, .slice A0_2 l0_2.length c0_2, .int .i64 a0_3, .int .i64 a0_4], .agg #[.slice A1_0 l1_0.length c1_0, .slice A1_1 l1_1.length c1_1, .slice A1_2 l1_2.length c1_2, .int .i64 a1_3, .int .i64 a1_4]] w fun e w' => e = .returned (.bool r) ∧ Below w.heap.size w w' := by
 have hu31 := Tryz.underlying31
 have HR0_0 := am hr0_0
 have HC0_0 := am hc0_0
 clear hr0_0 hc0_0
 have HR0_1 := am hr0_1
 have HC0_1 := am hc0_1
 clear hr0_1 hc0_1
 have HR0_2 := am hr0_2
 have HC0_2 := am hc0_2
 clear hr0_2 hc0_2
 have HR1_0 := am hr1_0
 have HC1_0 := am hc1_0
 clear hr1_0 hc1_0
 have HR1_1 := am hr1_1
 have HC1_1 := am hc1_1
 clear hr1_1 hc1_1
 have HR1_2 := am hr1_2
 have HC1_2 := am hc1_2
 clear hr1_2 hc1_2
 have HB := am (Below.refl w.heap.size w)
 have H : ((laws_eqItemS.f k l0_0 l1_0).bind fun t505 => (if t505 = true then ((laws_eqIntS.f k l0_1 l1_1).bind fun t506 => (if t506 = true then ((laws_eqIntS.f k l0_2 l1_2).bind fun t507 => (if t507 = true then (if a0_3 = a1_3 then (if a0_4 = a1_4 then (some true) else (some false)) else (some false)) else (some false))) else (some false))) else (some false))) = some r := h
 clear h
 replace H := bi_ H; obtain ⟨t505, A3, H⟩ := H
 replace H := ib_ H; rcases H with ⟨rfl, H⟩ | ⟨rfl, H⟩
 ·replace H := bi_ H; obtain ⟨t506, A5, H⟩ := H
  replace H := ib_ H; rcases H with ⟨rfl, H⟩ | ⟨rfl, H⟩
  ·replace H := bi_ H; obtain ⟨t507, A7, H⟩ := H
   replace H := ib_ H; rcases H with ⟨rfl, H⟩ | ⟨rfl, H⟩
   ·replace H := ie_ H; rcases H with ⟨c9b0, c9b1, H⟩ | ⟨c9, c9b0, c9b1, H⟩
    ·replace H := ie_ H; rcases H with ⟨c10b0, c10b1, H⟩ | ⟨c10, c10b0, c10b1, H⟩
     ·obtain rfl := Option.some.inj H
      go_enter Tryz.func12, Tryz.ntmps12
      go_wp2_with (first | ((with_reducible refine gd_ 2 ?_); refine bx_ 2 (cs := #[.slice A0_0 l0_0.length c0_0, .slice A0_1 l0_1.length c0_1, .slice A0_2 l0_2.length c0_2, .int .i64 a0_3, .int .i64 a0_4]) 31 ?_; intro gb503 hg w11 hbox hb; have BK503 := am hbox; have GW503 := ge_ (w := w) hg; have GE503 := ge_ (w := w) hg; replace HB := am (below_step ab1 hb); clear hb hbox hg) | ((with_reducible refine gd_ 3 ?_); refine bx_ 3 (cs := #[.slice A1_0 l1_0.length c1_0, .slice A1_1 l1_1.length c1_1, .slice A1_2 l1_2.length c1_2, .int .i64 a1_3, .int .i64 a1_4]) 31 ?_; intro gb504 hg w12 hbox hb; have BK504 := am hbox; have GW504 := gE_ (w := w) GE503 hg; have GE504 := gE_ (w := w) GE503 hg; replace HB := am (below_step (ab2 GE503) hb); have NB503_504 := nl_ BK503 hg; have NB504_503 := ng_ BK503 hg; replace BK503 := bl_ BK503 hb; clear hb hbox hg; have hnb13 := NB503_504.out; have hnc13 := NB504_503.out; obtain ⟨⟨_, _, _, _, _⟩, _, _, _, _, _⟩ := Op.cells5 BK503.out; obtain ⟨⟨_, _, _, _, _⟩, _, _, _, _, _⟩ := Op.cells5 BK504.out) | ((with_reducible refine gf_ 35 ?_); refine gc_ Tryz.func35 (laws_eqItemS.calls k _ _ l0_0 _ _ l1_0 true _ (sc_ HR0_0) HC0_0.out (sc_ HR1_0) HC1_0.out A3.out) ?_; rintro w16 hb; replace BK503 := bl_ BK503 hb; replace BK504 := bl_ BK504 hb; replace HB := am (below_step ba_ hb); (try clear hb); obtain ⟨⟨_, _, _, _, _⟩, _, _, _, _, _⟩ := Op.cells5 BK503.out; obtain ⟨⟨_, _, _, _, _⟩, _, _, _, _, _⟩ := Op.cells5 BK504.out) | ((with_reducible refine gf_ 36 ?_); refine gc_ Tryz.func36 (laws_eqIntS.calls k _ _ l0_1 _ _ l1_1 true _ (sc_ HR0_1) HC0_1.out (sc_ HR1_1) HC1_1.out A5.out) ?_; rintro w' ⟨nd, rfl⟩) | ((with_reducible refine gate_callee (f := 36) rfl ?_); refine goesL_ (some 21) rfl rfl Tryz.func36 (by kernel_rfl) rfl #[.slice A0_2 l0_2.length c0_2, .slice A1_2 l1_2.length c1_2] rfl ab5 ?_; (with_reducible refine (laws_eqIntS.calls k _ _ l0_2 _ _ l1_2 true _ ?side1 HC0_2.out ?side3 HC1_2.out A7.out).mono ?_); (case side1 => exact (z29_0 HR0_2)); (case side3 => exact (z29_0 HR1_2)); rintro e w' ⟨rfl, ⟨nd, rfl⟩⟩; refine ⟨_, rfl, ?_⟩))
      go_ret
      exact ⟨ab7, ba_⟩
     ·obtain rfl := Option.some.inj H
      go_enter Tryz.func12, Tryz.ntmps12
      go_wp2_with (first | ((with_reducible refine gd_ 2 ?_); refine bx_ 2 (cs := #[.slice A0_0 l0_0.length c0_0, .slice A0_1 l0_1.length c0_1, .slice A0_2 l0_2.length c0_2, .int .i64 a0_3, .int .i64 a0_4]) 31 ?_; intro gb503 hg w19 hbox hb; have BK503 := am hbox; have GW503 := ge_ (w := w) hg; have GE503 := ge_ (w := w) hg; replace HB := am (below_step ab1 hb); clear hb hbox hg) | ((with_reducible refine gd_ 3 ?_); refine bx_ 3 (cs := #[.slice A1_0 l1_0.length c1_0, .slice A1_1 l1_1.length c1_1, .slice A1_2 l1_2.length c1_2, .int .i64 a1_3, .int .i64 a1_4]) 31 ?_; intro gb504 hg w20 hbox hb; have BK504 := am hbox; have GW504 := gE_ (w := w) GE503 hg; have GE504 := gE_ (w := w) GE503 hg; replace HB := am (below_step (ab2 GE503) hb); have NB503_504 := nl_ BK503 hg; have NB504_503 := ng_ BK503 hg; replace BK503 := bl_ BK503 hb; clear hb hbox hg; have hnb21 := NB503_504.out; have hnc21 := NB504_503.out; obtain ⟨⟨_, _, _, _, _⟩, _, _, _, _, _⟩ := Op.cells5 BK503.out; obtain ⟨⟨_, _, _, _, _⟩, _, _, _, _, _⟩ := Op.cells5 BK504.out) | ((with_reducible refine gf_ 35 ?_); refine gc_ Tryz.func35 (laws_eqItemS.calls k _ _ l0_0 _ _ l1_0 true _ (sc_ HR0_0) HC0_0.out (sc_ HR1_0) HC1_0.out A3.out) ?_; rintro w24 hb; replace BK503 := bl_ BK503 hb; replace BK504 := bl_ BK504 hb; replace HB := am (below_step ba_ hb); (try clear hb); obtain ⟨⟨_, _, _, _, _⟩, _, _, _, _, _⟩ := Op.cells5 BK503.out; obtain ⟨⟨_, _, _, _, _⟩, _, _, _, _, _⟩ := Op.cells5 BK504.out) | ((with_reducible refine gf_ 36 ?_); refine gc_ Tryz.func36 (laws_eqIntS.calls k _ _ l0_1 _ _ l1_1 true _ (sc_ HR0_1) HC0_1.out (sc_ HR1_1) HC1_1.out A5.out) ?_; rintro w' ⟨nd, rfl⟩) | ((with_reducible refine gate_callee (f := 36) rfl ?_); refine goesL_ (some 21) rfl rfl Tryz.func36 (by kernel_rfl) rfl #[.slice A0_2 l0_2.length c0_2, .slice A1_2 l1_2.length c1_2] rfl ab5 ?_; (with_reducible refine (laws_eqIntS.calls k _ _ l0_2 _ _ l1_2 true _ ?side1 HC0_2.out ?side3 HC1_2.out A7.out).mono ?_); (case side1 => exact (z29_0 HR0_2)); (case side3 => exact (z29_0 HR1_2)); rintro e w' ⟨rfl, ⟨nd, rfl⟩⟩; refine ⟨_, rfl, ?_⟩))
      go_ret
      exact ⟨ab7, ba_⟩
    ·obtain rfl := Option.some.inj H
     go_enter Tryz.func12, Tryz.ntmps12
     go_wp2_with (first | ((with_reducible refine gd_ 2 ?_); refine bx_ 2 (cs := #[.slice A0_0 l0_0.length c0_0, .slice A0_1 l0_1.length c0_1, .slice A0_2 l0_2.length c0_2, .int .i64 a0_3, .int .i64 a0_4]) 31 ?_; intro gb503 hg w27 hbox hb; have BK503 := am hbox; have GW503 := ge_ (w := w) hg; have GE503 := ge_ (w := w) hg; replace HB := am (below_step ab1 hb); clear hb hbox hg) | ((with_reducible refine gd_ 3 ?_); refine bx_ 3 (cs := #[.slice A1_0 l1_0.length c1_0, .slice A1_1 l1_1.length c1_1, .slice A1_2 l1_2.length c1_2, .int .i64 a1_3, .int .i64 a1_4]) 31 ?_; intro gb504 hg w28 hbox hb; have BK504 := am hbox; have GW504 := gE_ (w := w) GE503 hg; have GE504 := gE_ (w := w) GE503 hg; replace HB := am (below_step (ab2 GE503) hb); have NB503_504 := nl_ BK503 hg; have NB504_503 := ng_ BK503 hg; replace BK503 := bl_ BK503 hb; clear hb hbox hg; have hnb29 := NB503_504.out; have hnc29 := NB504_503.out; obtain ⟨⟨_, _, _, _, _⟩, _, _, _, _, _⟩ := Op.cells5 BK503.out; obtain ⟨⟨_, _, _, _, _⟩, _, _, _, _, _⟩ := Op.cells5 BK504.out) | ((with_reducible refine gf_ 35 ?_); refine gc_ Tryz.func35 (laws_eqItemS.calls k _ _ l0_0 _ _ l1_0 true _ (sc_ HR0_0) HC0_0.out (sc_ HR1_0) HC1_0.out A3.out) ?_; rintro w32 hb; replace BK503 := bl_ BK503 hb; replace BK504 := bl_ BK504 hb; replace HB := am (below_step ba_ hb); (try clear hb); obtain ⟨⟨_, _, _, _, _⟩, _, _, _, _, _⟩ := Op.cells5 BK503.out; obtain ⟨⟨_, _, _, _, _⟩, _, _, _, _, _⟩ := Op.cells5 BK504.out) | ((with_reducible refine gf_ 36 ?_); refine gc_ Tryz.func36 (laws_eqIntS.calls k _ _ l0_1 _ _ l1_1 true _ (sc_ HR0_1) HC0_1.out (sc_ HR1_1) HC1_1.out A5.out) ?_; rintro w' ⟨nd, rfl⟩) | ((with_reducible refine gate_callee (f := 36) rfl ?_); refine goesL_ (some 21) rfl rfl Tryz.func36 (by kernel_rfl) rfl #[.slice A0_2 l0_2.length c0_2, .slice A1_2 l1_2.length c1_2] rfl ab5 ?_; (with_reducible refine (laws_eqIntS.calls k _ _ l0_2 _ _ l1_2 true _ ?side1 HC0_2.out ?side3 HC1_2.out A7.out).mono ?_); (case side1 => exact (z29_0 HR0_2)); (case side3 => exact (z29_0 HR1_2)); rintro e w' ⟨rfl, ⟨nd, rfl⟩⟩; refine ⟨_, rfl, ?_⟩))
     go_ret
     exact ⟨ab7, ba_⟩
   ·obtain rfl := Option.some.inj H
    go_enter Tryz.func12, Tryz.ntmps12
    go_wp2_with (first | ((with_reducible refine gd_ 2 ?_); refine bx_ 2 (cs := #[.slice A0_0 l0_0.length c0_0, .slice A0_1 l0_1.length c0_1, .slice A0_2 l0_2.length c0_2, .int .i64 a0_3, .int .i64 a0_4]) 31 ?_; intro gb503 hg w35 hbox hb; have BK503 := am hbox; have GW503 := ge_ (w := w) hg; have GE503 := ge_ (w := w) hg; replace HB := am (below_step ab1 hb); clear hb hbox hg) | ((with_reducible refine gd_ 3 ?_); refine bx_ 3 (cs := #[.slice A1_0 l1_0.length c1_0, .slice A1_1 l1_1.length c1_1, .slice A1_2 l1_2.length c1_2, .int .i64 a1_3, .int .i64 a1_4]) 31 ?_; intro gb504 hg w36 hbox hb; have BK504 := am hbox; have GW504 := gE_ (w := w) GE503 hg; have GE504 := gE_ (w := w) GE503 hg; replace HB := am (below_step (ab2 GE503) hb); have NB503_504 := nl_ BK503 hg; have NB504_503 := ng_ BK503 hg; replace BK503 := bl_ BK503 hb; clear hb hbox hg; have hnb37 := NB503_504.out; have hnc37 := NB504_503.out; obtain ⟨⟨_, _, _, _, _⟩, _, _, _, _, _⟩ := Op.cells5 BK503.out; obtain ⟨⟨_, _, _, _, _⟩, _, _, _, _, _⟩ := Op.cells5 BK504.out) | ((with_reducible refine gf_ 35 ?_); refine gc_ Tryz.func35 (laws_eqItemS.calls k _ _ l0_0 _ _ l1_0 true _ (sc_ HR0_0) HC0_0.out (sc_ HR1_0) HC1_0.out A3.out) ?_; rintro w40 hb; replace BK503 := bl_ BK503 hb; replace BK504 := bl_ BK504 hb; replace HB := am (below_step ba_ hb); (try clear hb); obtain ⟨⟨_, _, _, _, _⟩, _, _, _, _, _⟩ := Op.cells5 BK503.out; obtain ⟨⟨_, _, _, _, _⟩, _, _, _, _, _⟩ := Op.cells5 BK504.out) | ((with_reducible refine gf_ 36 ?_); refine gc_ Tryz.func36 (laws_eqIntS.calls k _ _ l0_1 _ _ l1_1 true _ (sc_ HR0_1) HC0_1.out (sc_ HR1_1) HC1_1.out A5.out) ?_; rintro w' ⟨nd, rfl⟩) | ((with_reducible refine gate_callee (f := 36) rfl ?_); refine goesL_ (some 21) rfl rfl Tryz.func36 (by kernel_rfl) rfl #[.slice A0_2 l0_2.length c0_2, .slice A1_2 l1_2.length c1_2] rfl ab5 ?_; (with_reducible refine (laws_eqIntS.calls k _ _ l0_2 _ _ l1_2 false _ ?side1 HC0_2.out ?side3 HC1_2.out A7.out).mono ?_); (case side1 => exact (z29_0 HR0_2)); (case side3 => exact (z29_0 HR1_2)); rintro e w' ⟨rfl, ⟨nd, rfl⟩⟩; refine ⟨_, rfl, ?_⟩))
    go_ret
    exact ⟨ab7, ba_⟩
  ·obtain rfl := Option.some.inj H
   go_enter Tryz.func12, Tryz.ntmps12
   go_wp2_with (first | ((with_reducible refine gd_ 2 ?_); refine bx_ 2 (cs := #[.slice A0_0 l0_0.length c0_0, .slice A0_1 l0_1.length c0_1, .slice A0_2 l0_2.length c0_2, .int .i64 a0_3, .int .i64 a0_4]) 31 ?_; intro gb503 hg w43 hbox hb; have BK503 := am hbox; have GW503 := ge_ (w := w) hg; have GE503 := ge_ (w := w) hg; replace HB := am (below_step ab1 hb); clear hb hbox hg) | ((with_reducible refine gd_ 3 ?_); refine bx_ 3 (cs := #[.slice A1_0 l1_0.length c1_0, .slice A1_1 l1_1.length c1_1, .slice A1_2 l1_2.length c1_2, .int .i64 a1_3, .int .i64 a1_4]) 31 ?_; intro gb504 hg w44 hbox hb; have BK504 := am hbox; have GW504 := gE_ (w := w) GE503 hg; have GE504 := gE_ (w := w) GE503 hg; replace HB := am (below_step (ab2 GE503) hb); have NB503_504 := nl_ BK503 hg; have NB504_503 := ng_ BK503 hg; replace BK503 := bl_ BK503 hb; clear hb hbox hg; have hnb45 := NB503_504.out; have hnc45 := NB504_503.out; obtain ⟨⟨_, _, _, _, _⟩, _, _, _, _, _⟩ := Op.cells5 BK503.out; obtain ⟨⟨_, _, _, _, _⟩, _, _, _, _, _⟩ := Op.cells5 BK504.out) | ((with_reducible refine gf_ 35 ?_); refine gc_ Tryz.func35 (laws_eqItemS.calls k _ _ l0_0 _ _ l1_0 true _ (sc_ HR0_0) HC0_0.out (sc_ HR1_0) HC1_0.out A3.out) ?_; rintro w48 hb; replace BK503 := bl_ BK503 hb; replace BK504 := bl_ BK504 hb; replace HB := am (below_step ba_ hb); (try clear hb); obtain ⟨⟨_, _, _, _, _⟩, _, _, _, _, _⟩ := Op.cells5 BK503.out; obtain ⟨⟨_, _, _, _, _⟩, _, _, _, _, _⟩ := Op.cells5 BK504.out) | ((with_reducible refine gf_ 36 ?_); refine gc_ Tryz.func36 (laws_eqIntS.calls k _ _ l0_1 _ _ l1_1 false _ (sc_ HR0_1) HC0_1.out (sc_ HR1_1) HC1_1.out A5.out) ?_; rintro w' ⟨nd, rfl⟩))
   go_ret
   exact ⟨ab7, ba_⟩
 ·obtain rfl := Option.some.inj H
  go_enter Tryz.func12, Tryz.ntmps12
  go_wp2_with (first | ((with_reducible refine gd_ 2 ?_); refine bx_ 2 (cs := #[.slice A0_0 l0_0.length c0_0, .slice A0_1 l0_1.length c0_1, .slice A0_2 l0_2.length c0_2, .int .i64 a0_3, .int .i64 a0_4]) 31 ?_; intro gb503 hg w51 hbox hb; have BK503 := am hbox; have GW503 := ge_ (w := w) hg; have GE503 := ge_ (w := w) hg; replace HB := am (below_step ab1 hb); clear hb hbox hg) | ((with_reducible refine gd_ 3 ?_); refine bx_ 3 (cs := #[.slice A1_0 l1_0.length c1_0, .slice A1_1 l1_1.length c1_1, .slice A1_2 l1_2.length c1_2, .int .i64 a1_3, .int .i64 a1_4]) 31 ?_; intro gb504 hg w52 hbox hb; have BK504 := am hbox; have GW504 := gE_ (w := w) GE503 hg; have GE504 := gE_ (w := w) GE503 hg; replace HB := am (below_step (ab2 GE503) hb); have NB503_504 := nl_ BK503 hg; have NB504_503 := ng_ BK503 hg; replace BK503 := bl_ BK503 hb; clear hb hbox hg; have hnb53 := NB503_504.out; have hnc53 := NB504_503.out; obtain ⟨⟨_, _, _, _, _⟩, _, _, _, _, _⟩ := Op.cells5 BK503.out; obtain ⟨⟨_, _, _, _, _⟩, _, _, _, _, _⟩ := Op.cells5 BK504.out) | ((with_reducible refine gf_ 35 ?_); refine gc_ Tryz.func35 (laws_eqItemS.calls k _ _ l0_0 _ _ l1_0 false _ (sc_ HR0_0) HC0_0.out (sc_ HR1_0) HC1_0.out A3.out) ?_; rintro w56 hb; replace BK503 := bl_ BK503 hb; replace BK504 := bl_ BK504 hb; replace HB := am (below_step ba_ hb); (try clear hb)))
  go_ret
  exact ⟨ab7, ba_⟩
def laws_markText.l0 : Nat → Int → ByteArray → Option (ByteArray)
 | 0, _, _ => none
 | k + 1, x0, x3 => if x0 > 0 then ((some (([(wrap64 (48 + (Int.tmod x0 10))) % 256] : List Int) : List Int)).bind fun y508 => (if (strOfNums y508).size + x3.size ≤ 9223372036854775807 then (laws_markText.l0 k (wrap64 (Int.tdiv x0 10)) ((strOfNums y508) ++ x3)) else (none))) else (if 1 + x3.size ≤ 9223372036854775807 then (some ((⟨#[109]⟩ : ByteArray) ++ x3)) else (none))
def laws_markText.f (k : Nat) (a0 : Int) : Option (ByteArray) := if a0 ≤ 0 then (some (⟨#[109, 48]⟩ : ByteArray)) else (laws_markText.l0 k a0 (⟨#[]⟩ : ByteArray))
theorem laws_markText.calls (k : Nat) (a0 : Int) (r : ByteArray) (w : World) (h : laws_markText.f k a0 = some r) :
  Calls Tryz.prog 40 #[.int .i64 a0] w fun e w' => e = .returned (.string r) ∧ Below w.heap.size w w' := by
 have HB := am (Below.refl w.heap.size w)
 have H : (if a0 ≤ 0 then (some (⟨#[109, 48]⟩ : ByteArray)) else (laws_markText.l0 k a0 (⟨#[]⟩ : ByteArray))) = some r := h
 clear h
 replace H := ir_ H; rcases H with ⟨c2b0, H⟩ | ⟨c2b0, H⟩
 ·obtain rfl := Option.some.inj H
  go_enter Tryz.func40, Tryz.ntmps40
  go_wp2
  go_ret
  exact ⟨ab7, ab1⟩
 ·have H' := am H
  clear H
  go_enter Tryz.func40, Tryz.ntmps40
  go_wp2
  go_loopg [0, 3] k (fun kq v0 v3 w' => ∃ (x0_1 : Int) (x3_1 : ByteArray), v0 = .int .i64 x0_1 ∧ v3 = .string x3_1 ∧ Aside0 (laws_markText.l0 kq x0_1 x3_1 = some r) ∧ Aside0 (kq ≤ k) ∧ Aside0 (Below w.heap.size w w'))
  case atStart => exact ⟨(a0), ((⟨#[]⟩ : ByteArray)), ab6, ab6, H', ⟨Nat.le_refl _⟩, ⟨ab1⟩⟩
  case round =>
   clear H'
   (try clear c2); (try clear c2b0); (try clear p2)
   obtain ⟨x0_1, x3_1, rfl, rfl, HA, HK1, HB⟩ := hrel
   cases gk with
   | zero => exact absurd HA.out (by simp [laws_markText.l0])
   | succ k1 =>
    have H := HA.out
    clear HA
    simp only [laws_markText.l0] at H
    by_cases c3 : x0_1 > 0
    ·rw [if_pos c3] at H
     have c3b0 : decide (0 < x0_1) = true := decide_eq_true c3
     clear c3
     obtain ⟨y508, hy508⟩ : ∃ y_ : List Int, y_ = (([(wrap64 (48 + (Int.tmod x0_1 10))) % 256] : List Int)) := ⟨_, rfl⟩
     replace H : (if (strOfNums y508).size + x3_1.size ≤ 9223372036854775807 then (laws_markText.l0 k1 (wrap64 (Int.tdiv x0_1 10)) ((strOfNums y508) ++ x3_1)) else (none)) = some r := by first | (rw [hy508]; with_reducible exact H) | (have H2_ := (Option.bind_some _ _).symm.trans H; rw [hy508]; with_reducible exact H2_) | (have H2_ := (Option.bind_some _ _).symm.trans H; with_reducible exact H2_) | with_reducible exact H | (rw [hy508]; exact H) | exact H
     have Ny508 := am hy508
     clear hy508
     by_cases c4 : (strOfNums y508).size + x3_1.size ≤ 9223372036854775807
     case neg => rw [if_neg c4] at H; exact absurd H (by simp)
     rw [if_pos c4] at H
     have c4b0 := eq_true c4
     have c4b1 := decide_eq_true c4
     try have c4b2 : (9223372036854775807 < (strOfNums y508).size + x3_1.size) = False := eq_false (Nat.not_lt.2 c4)
     have H' := am H
     clear H
     go_wp2_with (first | ((with_reducible refine gate_dst (N := 12) rfl ?_); refine Kd.R_lit (Kd.int .u8) _ 5 ?hg (N := 12) ?hd (xs := ([(wrap64 (48 + (Int.tmod x0_1 10))) % 256] : List Int)) (inner := [.int .u8 ((wrap64 (48 + (Int.tmod x0_1 10))) % 256)]) (ok := fun _ => True) (okp := fun _ => True) ?hr ?hp (fun _ hk => hk) trivial (Below.refl _ _) (Nat.le_refl _) (by simp) ?_; (case hd => rfl); (case hg => rfl); (case hr => first | (go_simp; done) | (go_simp; rfl)); (case hp => exact (Reps.one (show Kd.M (Kd.int .u8) _ _ _ ((wrap64 (48 + (Int.tmod x0_1 10))) % 256) [.int .u8 ((wrap64 (48 + (Int.tmod x0_1 10))) % 256)] from rfl) (Reps.none _ _))); intro v509 w5 ho6 hb hg_ hnew_; clear hg_ hnew_; (first | rw [← Ny508.out] at ho6 | (simp only [Int.reduceToNat] at ho6; rw [← Ny508.out] at ho6)); have HO510 := am (Kd.R_lower ho6 (below_size ab1)); replace HB := am (below_step ab1 hb); clear hb ho6; have hcv7 := own_string (P := Tryz.prog) Tryz.underlying82 Tryz.underlying5 Tryz.underlying9 (Kd.own_of_R HO510.out)))
     go_roundg k1
     case measure => have := HK1.out; omega
     case rel => exact ⟨(wrap64 (Int.tdiv x0_1 10)), ((strOfNums y508) ++ x3_1), ab6, ab6, H', ⟨by have := HK1.out; omega⟩, ⟨ab1⟩⟩
    ·rw [if_neg c3] at H
     have c3b0 : decide (0 < x0_1) = false := decide_eq_false c3
     clear c3
     by_cases c8 : 1 + x3_1.size ≤ 9223372036854775807
     case neg => rw [if_neg c8] at H; exact absurd H (by simp)
     rw [if_pos c8] at H
     have c8b0 := eq_true c8
     have c8b1 := decide_eq_true c8
     try have c8b2 : (9223372036854775807 < 1 + x3_1.size) = False := eq_false (Nat.not_lt.2 c8)
     obtain rfl := Option.some.inj H
     go_wp2
     go_ret
     exact ⟨ab7, ab1⟩
def laws_markAttrS.l0 : Nat → List (S56) → Int → Int → Option (Int × (List (S56)))
 | 0, _, _, _ => none
 | k + 1, x0, x1, x5 => if x5 < (x0.length : Int) then ((laws_markText.f k x1).bind fun t511 => (if 0 ≤ x5 then ((some (x0.set (x5 : Int).toNat (⟨t511, (rd_T56 x0 x5).f1⟩ : S56) : List (S56))).bind fun y512 => ((laws_markText.f k (wrap64 (x1 + 1))).bind fun t513 => (laws_markAttrS.l0 k (y512.set (x5 : Int).toNat (⟨(rd_T56 y512 x5).f0, t513⟩ : S56)) (wrap64 ((wrap64 (x1 + 1)) + 1)) (wrap64 (x5 + 1))))) else (none))) else (some (x1, x0))
def laws_markAttrS.f (k : Nat) (l0 : List (S56)) (a1 : Int) : Option (Int × (List (S56))) := laws_markAttrS.l0 k l0 a1 0
theorem laws_markAttrS.calls (k : Nat) (P0_ : Nat → Prop) (u9000_ : Value) (l0 : List (S56)) (a1 : Int) (r1 : Int) (r2 : List (S56)) (w0 w : World) (hB : Below w0.heap.size w0 w) (ho0 : Kd.R k56 56 w w0.heap.size P0_ u9000_ l0) (h : laws_markAttrS.f k l0 a1 = some (r1, r2)) :
  Calls Tryz.prog 15 #[u9000_, .int .i64 a1] w fun e w' => e = .returned (.int .i64 r1) ∧ Kd.R k56 56 w' w0.heap.size (fun k_ => (P0_ k_ ∨ w.heap.size ≤ k_)) u9000_ r2 ∧ Below w0.heap.size w0 w' ∧ Kept w w' (fun k_ => P0_ k_) := by
 have HO0 := am (show Kd.R k56 56 w w0.heap.size (fun k_ => (P0_ k_ ∨ w.heap.size ≤ k_)) u9000_ l0 from Kd.R_mono ho0 (fun k_ hk => (.inl hk)))
 have HK := am (Kept.refl w (fun k_ => P0_ k_))
 have HW0 := am hB.size
 have HB := am hB
 clear hB
 have H : (laws_markAttrS.l0 k l0 a1 0) = some (r1, r2) := h
 clear h
 have H' := am H
 clear H
 go_enter Tryz.func15, Tryz.ntmps15
 go_wp2
 go_loopg [1, 5] k (fun kq v1 v5 w' => ∃ (x0_1 : List (S56)) (x1_1 : Int) (x5_1 : Int), v1 = .int .i64 x1_1 ∧ v5 = .int .i64 x5_1 ∧ Aside0 (laws_markAttrS.l0 kq x0_1 x1_1 x5_1 = some (r1, r2)) ∧ Aside0 (kq ≤ k) ∧ Aside0 (Kd.R k56 56 w' w0.heap.size (fun k_ => (P0_ k_ ∨ w.heap.size ≤ k_)) u9000_ x0_1) ∧ Aside0 (Kept w w' (fun k_ => P0_ k_)) ∧ Aside0 (Below w0.heap.size w0 w'))
 case atStart => exact ⟨(l0), (a1), (0), ab6, ab6, H', ⟨Nat.le_refl _⟩, ⟨ab8 HO0⟩, ⟨z29_1⟩, ⟨ab1⟩⟩
 case round =>
  clear H'
  (try clear c1); (try clear p2)
  obtain ⟨x0_1, x1_1, x5_1, rfl, rfl, HA, HK1, HO_0, HK, HB⟩ := hrel
  cases gk with
  | zero => exact absurd HA.out (by simp [laws_markAttrS.l0])
  | succ k1 =>
   have H := HA.out
   clear HA
   simp only [laws_markAttrS.l0] at H
   replace H := ir_ H; rcases H with ⟨c3b0, H⟩ | ⟨c3b0, H⟩
   ·replace H := bi_ H; obtain ⟨t511, A4, H⟩ := H
    replace H := iq_ H; obtain ⟨c5b0, H⟩ := H
    obtain ⟨y512, hy512⟩ : ∃ y_ : List (S56), y_ = (x0_1.set (x5_1 : Int).toNat (⟨t511, (rd_T56 x0_1 x5_1).f1⟩ : S56)) := ⟨_, rfl⟩
    replace H : ((laws_markText.f k1 (wrap64 (x1_1 + 1))).bind fun t513 => (laws_markAttrS.l0 k1 (y512.set (x5_1 : Int).toNat (⟨(rd_T56 y512 x5_1).f0, t513⟩ : S56)) (wrap64 ((wrap64 (x1_1 + 1)) + 1)) (wrap64 (x5_1 + 1)))) = some (r1, r2) := by first | (rw [hy512]; with_reducible exact H) | (have H2_ := (Option.bind_some _ _).symm.trans H; rw [hy512]; with_reducible exact H2_) | (have H2_ := (Option.bind_some _ _).symm.trans H; with_reducible exact H2_) | with_reducible exact H | (rw [hy512]; exact H) | exact H
    have Ny512 := am hy512
    clear hy512
    replace H := bi_ H; obtain ⟨t513, A7, H⟩ := H
    obtain ⟨y514, hy514⟩ : ∃ y_ : List (S56), y_ = (y512.set (x5_1 : Int).toNat (⟨(rd_T56 y512 x5_1).f0, t513⟩ : S56)) := ⟨_, rfl⟩
    replace H : (laws_markAttrS.l0 k1 y514 (wrap64 ((wrap64 (x1_1 + 1)) + 1)) (wrap64 (x5_1 + 1))) = some (r1, r2) := by first | (rw [hy514]; with_reducible exact H) | (have H2_ := (Option.bind_some _ _).symm.trans H; rw [hy514]; with_reducible exact H2_) | (have H2_ := (Option.bind_some _ _).symm.trans H; with_reducible exact H2_) | with_reducible exact H | (rw [hy514]; exact H) | exact H
    have Ny514 := am hy514
    clear hy514
    have H' := am H
    clear H
    obtain ⟨Ao9, co9, eo9⟩ := Kd.R_slice HO_0.out
    subst eo9
    go_wp2_with (first | ((with_reducible refine gf_ 40 ?_); refine gc_ Tryz.func40 (laws_markText.calls k1 x1_1 t511 _ A4.out) ?_; rintro w10 hb; replace HO_0 := am (Kd.R_below (ab8 HO_0) hb); replace HK := am (Kept.below (S := (fun k_ => P0_ k_)) (z29_1) hb); replace HB := am (below_step ab1 hb); (try clear hb); have p6 : 0 ≤ (x5_1 : Int) := of_decide_eq_true ab4; have q6 : (x5_1 : Int) < ((x0_1.length : Int) : Int) := of_decide_eq_true ab4; obtain ⟨go6, co6, eo6, gb6, gl6, cl6, HG6⟩ := Kd.R_form HO_0.out (by omega); (first | cases eo6 | (injection eo6 with ea_ en_ ec_; (first | subst ea_ | (injection ea_ with ea_; subst ea_)); subst ec_; clear en_)); have GB6 := am gb6; have GG6 := am HG6; clear gb6 gl6 HG6; have HMgo6 := am (show (P0_ go6 ∨ w.heap.size ≤ go6) from (HO_0.out.1 _ rfl)); obtain ⟨ce6, hcl6, hM6, hcc6, hfr6⟩ := Kd.R_elem HO_0.out z56 (x5_1 : Int) p6 q6; obtain rfl := k56_openM hM6; have hx6_0 : w10.cell? ⟨go6, (x5_1 : Int).toNat * 2, none⟩ = some (.string ((rd_T56 x0_1 x5_1).f0)) := hcc6 0 _ rfl; have hx6_1 : w10.cell? ⟨go6, (x5_1 : Int).toNat * 2 + 1, none⟩ = some (.string ((rd_T56 x0_1 x5_1).f1)) := hcc6 1 _ rfl; have hf6_0 : w10.frozen? ⟨go6, (x5_1 : Int).toNat * 2, none⟩ = false := hfr6 0; have hf6_1 : w10.frozen? ⟨go6, (x5_1 : Int).toNat * 2 + 1, none⟩ = false := hfr6 1; clear hcl6 hcc6 hfr6 hM6; replace p6 := eq_true p6; replace q6 := eq_true q6; have HX11 := am (show Kd.R k56 56 w10 w0.heap.size (fun k_ => (P0_ k_ ∨ w.heap.size ≤ k_)) (.slice (some ⟨go6, 0, none⟩) x0_1.length co9) x0_1 from (ab8 HO_0)); obtain ⟨ce11, hcl11, hM11, hcc11, hfr11⟩ := Kd.R_elem HX11.out z56 (x5_1 : Int) (of_decide_eq_true ab4) (by have h_ : (x5_1 : Int) < ((x0_1.length : Int) : Int) := of_decide_eq_true ab4; first | exact h_ | (have e_ := (Kd.R_reads' HO_0.out).1; omega) | simpa using h_); obtain rfl := k56_openM hM11; have HP11 := Kd.R_seg HX11.out (x5_1 : Int) (of_decide_eq_true ab4) (by have h_ : (x5_1 : Int) < ((x0_1.length : Int) : Int) := of_decide_eq_true ab4; first | exact h_ | (have e_ := (Kd.R_reads' HO_0.out).1; omega) | simpa using h_) (seg := [.string t511]) (j := 0) hcl11 hcc11 (show 1 ≤ 2 from by decide) (x' := (⟨t511, (rd_T56 x0_1 x5_1).f1⟩ : S56)) (k56_mkM _ _ _ (⟨t511, (rd_T56 x0_1 x5_1).f1⟩ : S56) ) (fun _ hk => hk); have hx11_0 := hcc11 0 _ rfl; (try simp only [show (k56).sz = 2 from rfl, Nat.mul_one, Nat.add_zero] at hx11_0); have hf11_0 := hfr11 0; (try simp only [show (k56).sz = 2 from rfl, Nat.mul_one, Nat.add_zero] at hf11_0); clear hcl11 hcc11 hfr11 hM11) | ((with_reducible refine gate_store (t := 9) (p := 17) rfl ?_); refine store_event (t := 9) (p := 17) (v := ?vo_w12) (w1 := (w10.setCell ⟨go6, (x5_1 : Int).toNat * 2, none⟩ (.string t511))) ?hg ?ho ?hn ?hr ?_; (case ho => rfl); (case hg => rfl); (case hn => rfl); (case hr => first | (go_simp; done) | (go_simp; rfl)); intro w12 hw; have hg : w10.grownBy w12 (some go6) := (by rw [hw]; exact HP11.2); have hp_ : Kd.R k56 56 w12 w0.heap.size (fun k_ => (P0_ k_ ∨ w.heap.size ≤ k_)) (.slice (some ⟨go6, 0, none⟩) x0_1.length co9) y512 := (by rw [hw, Ny512.out]; exact HP11.1); clear HP11; replace HB := am ((by rw [hw]; exact below_set (HB.out) GB6.out : Below w0.heap.size w0 w12)); replace HK := am (Kept.of_grown (S := (fun k_ => P0_ k_)) hg (z29_1) (fun k_ e_ => (HO_0.out.1 k_ e_))); replace HO_0 := am hp_; clear hg hw hp_) | ((with_reducible refine gf_ 40 ?_); refine gc_ Tryz.func40 (laws_markText.calls k1 (wrap64 (x1_1 + 1)) t513 _ A7.out) ?_; rintro w13 hb; replace HO_0 := am (Kd.R_below (ab8 HO_0) hb); replace HK := am (Kept.below (S := (fun k_ => P0_ k_)) (z29_1) hb); replace HB := am (below_step ab1 hb); (try clear hb); have p8 : 0 ≤ (x5_1 : Int) := of_decide_eq_true ab4; have q8 : (x5_1 : Int) < ((x0_1.length : Int) : Int) := of_decide_eq_true ab4; obtain ⟨ce8, hcl8, hM8, hcc8, hfr8⟩ := Kd.R_elem HO_0.out z56 (x5_1 : Int) p8 q8; obtain rfl := k56_openM hM8; have hx8_0 : w13.cell? ⟨go6, (x5_1 : Int).toNat * 2, none⟩ = some (.string ((rd_T56 y512 x5_1).f0)) := hcc8 0 _ rfl; have hx8_1 : w13.cell? ⟨go6, (x5_1 : Int).toNat * 2 + 1, none⟩ = some (.string ((rd_T56 y512 x5_1).f1)) := hcc8 1 _ rfl; have hf8_0 : w13.frozen? ⟨go6, (x5_1 : Int).toNat * 2, none⟩ = false := hfr8 0; have hf8_1 : w13.frozen? ⟨go6, (x5_1 : Int).toNat * 2 + 1, none⟩ = false := hfr8 1; clear hcl8 hcc8 hfr8 hM8; replace p8 := eq_true p8; replace q8 := eq_true q8; have HX14 := am (show Kd.R k56 56 w13 w0.heap.size (fun k_ => (P0_ k_ ∨ w.heap.size ≤ k_)) (.slice (some ⟨go6, 0, none⟩) x0_1.length co9) y512 from (ab8 HO_0)); obtain ⟨ce14, hcl14, hM14, hcc14, hfr14⟩ := Kd.R_elem HX14.out z56 (x5_1 : Int) (of_decide_eq_true ab4) (by have h_ : (x5_1 : Int) < ((x0_1.length : Int) : Int) := of_decide_eq_true ab4; first | exact h_ | (have e_ := (Kd.R_reads' HO_0.out).1; omega) | simpa using h_); obtain rfl := k56_openM hM14; have HP14 := Kd.R_seg HX14.out (x5_1 : Int) (of_decide_eq_true ab4) (by have h_ : (x5_1 : Int) < ((x0_1.length : Int) : Int) := of_decide_eq_true ab4; first | exact h_ | (have e_ := (Kd.R_reads' HO_0.out).1; omega) | simpa using h_) (seg := [.string t513]) (j := 1) hcl14 hcc14 (show 2 ≤ 2 from by decide) (x' := (⟨(rd_T56 y512 x5_1).f0, t513⟩ : S56)) (k56_mkM _ _ _ (⟨(rd_T56 y512 x5_1).f0, t513⟩ : S56) ) (fun _ hk => hk); have hx14_1 := hcc14 1 _ rfl; (try simp only [show (k56).sz = 2 from rfl, Nat.mul_one, Nat.add_zero] at hx14_1); have hf14_1 := hfr14 1; (try simp only [show (k56).sz = 2 from rfl, Nat.mul_one, Nat.add_zero] at hf14_1); clear hcl14 hcc14 hfr14 hM14) | ((with_reducible refine gate_store (t := 9) (p := 25) rfl ?_); refine store_event (t := 9) (p := 25) (v := ?vo_w15) (w1 := (w13.setCell ⟨go6, (x5_1 : Int).toNat * 2 + 1, none⟩ (.string t513))) ?hg ?ho ?hn ?hr ?_; (case ho => rfl); (case hg => rfl); (case hn => rfl); (case hr => first | (go_simp; done) | (go_simp; rfl)); intro w15 hw; have hg : w13.grownBy w15 (some go6) := (by rw [hw]; exact HP14.2); have hp_ : Kd.R k56 56 w15 w0.heap.size (fun k_ => (P0_ k_ ∨ w.heap.size ≤ k_)) (.slice (some ⟨go6, 0, none⟩) x0_1.length co9) y514 := (by rw [hw, Ny514.out]; exact HP14.1); clear HP14; replace HB := am ((by rw [hw]; exact below_set (HB.out) GB6.out : Below w0.heap.size w0 w15)); replace HK := am (Kept.of_grown (S := (fun k_ => P0_ k_)) hg (z29_1) (fun k_ e_ => (HO_0.out.1 k_ e_))); replace HO_0 := am hp_; clear hg hw hp_))
    go_roundg k1
    case measure => have := HK1.out; omega
    case rel => exact ⟨(y514), (wrap64 ((wrap64 (x1_1 + 1)) + 1)), (wrap64 (x5_1 + 1)), ab6, ab6, H', ⟨by have := HK1.out; omega⟩, ⟨ab8 HO_0⟩, ⟨z29_1⟩, ⟨ab1⟩⟩
   ·simp only [Option.some.injEq, Prod.mk.injEq] at H
    obtain ⟨rfl, rfl⟩ := H
    obtain ⟨Ao16, co16, eo16⟩ := Kd.R_slice HO_0.out
    subst eo16
    go_wp2
    go_ret
    exact ⟨ab7, ab8 HO_0, ab1, z29_1⟩
def laws_markIntS.l0 : Nat → List Int → Int → Int → Option (Int × List Int)
 | 0, _, _, _ => none
 | k + 1, x0, x1, x5 => if x5 < (x0.length : Int) then (if 0 ≤ x5 then (laws_markIntS.l0 k (x0.set (x5 : Int).toNat x1) (wrap64 (x1 + 1)) (wrap64 (x5 + 1))) else (none)) else (some (x1, x0))
def laws_markIntS.f (k : Nat) (l0 : List Int) (a1 : Int) : Option (Int × List Int) := laws_markIntS.l0 k l0 a1 0
theorem laws_markIntS.calls (k : Nat) (P0_ : Nat → Prop) (u9000_ : Value) (l0 : List Int) (a1 : Int) (r1 : Int) (r2 : List Int) (w0 w : World) (hB : Below w0.heap.size w0 w) (ho0 : Kd.R (Kd.int .i64) 3 w w0.heap.size P0_ u9000_ l0) (h : laws_markIntS.f k l0 a1 = some (r1, r2)) :
  Calls Tryz.prog 39 #[u9000_, .int .i64 a1] w fun e w' => e = .returned (.int .i64 r1) ∧ Kd.R (Kd.int .i64) 3 w' w0.heap.size (fun k_ => (P0_ k_ ∨ w.heap.size ≤ k_)) u9000_ r2 ∧ Below w0.heap.size w0 w' ∧ Kept w w' (fun k_ => P0_ k_) := by
 have HO0 := am (show Kd.R (Kd.int .i64) 3 w w0.heap.size (fun k_ => (P0_ k_ ∨ w.heap.size ≤ k_)) u9000_ l0 from Kd.R_mono ho0 (fun k_ hk => (.inl hk)))
 have HK := am (Kept.refl w (fun k_ => P0_ k_))
 have HW0 := am hB.size
 have HB := am hB
 clear hB
 have H : (laws_markIntS.l0 k l0 a1 0) = some (r1, r2) := h
 clear h
 have H' := am H
 clear H
 go_enter Tryz.func39, Tryz.ntmps39
 go_wp2
 go_loopg [1, 5] k (fun kq v1 v5 w' => ∃ (x0_1 : List Int) (x1_1 : Int) (x5_1 : Int), v1 = .int .i64 x1_1 ∧ v5 = .int .i64 x5_1 ∧ Aside0 (laws_markIntS.l0 kq x0_1 x1_1 x5_1 = some (r1, r2)) ∧ Aside0 (kq ≤ k) ∧ Aside0 (Kd.R (Kd.int .i64) 3 w' w0.heap.size (fun k_ => (P0_ k_ ∨ w.heap.size ≤ k_)) u9000_ x0_1) ∧ Aside0 (Kept w w' (fun k_ => P0_ k_)) ∧ Aside0 (Below w0.heap.size w0 w'))
 case atStart => exact ⟨(l0), (a1), (0), ab6, ab6, H', ⟨Nat.le_refl _⟩, ⟨ab8 HO0⟩, ⟨z29_1⟩, ⟨ab1⟩⟩
 case round =>
  clear H'
  try clear p2
  obtain ⟨x0_1, x1_1, x5_1, rfl, rfl, HA, HK1, HO_0, HK, HB⟩ := hrel
  cases gk with
  | zero => exact absurd HA.out (by simp [laws_markIntS.l0])
  | succ k1 =>
   have H := HA.out
   clear HA
   simp only [laws_markIntS.l0] at H
   replace H := ir_ H; rcases H with ⟨c3b0, H⟩ | ⟨c3b0, H⟩
   ·replace H := iq_ H; obtain ⟨c4b0, H⟩ := H
    obtain ⟨y515, hy515⟩ : ∃ y_ : List Int, y_ = (x0_1.set (x5_1 : Int).toNat x1_1) := ⟨_, rfl⟩
    replace H : (laws_markIntS.l0 k1 y515 (wrap64 (x1_1 + 1)) (wrap64 (x5_1 + 1))) = some (r1, r2) := by first | (rw [hy515]; with_reducible exact H) | (have H2_ := (Option.bind_some _ _).symm.trans H; rw [hy515]; with_reducible exact H2_) | (have H2_ := (Option.bind_some _ _).symm.trans H; with_reducible exact H2_) | with_reducible exact H | (rw [hy515]; exact H) | exact H
    have Ny515 := am hy515
    clear hy515
    have H' := am H
    clear H
    obtain ⟨Ao6, co6, eo6⟩ := Kd.R_slice HO_0.out
    subst eo6
    have p5 : 0 ≤ (x5_1 : Int) := of_decide_eq_true ab4
    have q5 : (x5_1 : Int) < ((x0_1.length : Int) : Int) := of_decide_eq_true ab4
    obtain ⟨go5, co5, eo5, gb5, gl5, cl5, HG5⟩ := Kd.R_form HO_0.out (by omega)
    (first | cases eo5 | (injection eo5 with ea_ en_ ec_; (first | subst ea_ | (injection ea_ with ea_; subst ea_)); subst ec_; clear en_))
    have GB5 := am gb5
    have GG5 := am HG5
    clear gb5 gl5 HG5
    have HMgo5 := am (show (P0_ go5 ∨ w.heap.size ≤ go5) from (HO_0.out.1 _ rfl))
    obtain ⟨hx5_0, hf5_0⟩ := Kd.R_celln 0 HO_0.out (x5_1 : Int) p5 q5
    replace p5 := eq_true p5
    replace q5 := eq_true q5
    have HP7 := Kd.R_putg HO_0.out (x5_1 : Int) x1_1
    go_wp2_with (first | ((with_reducible refine gate_store (t := 3) (p := 15) rfl ?_); refine store_event (t := 3) (p := 15) (v := ?vo_w8) (w1 := (wr.setCell ⟨go5, (x5_1 : Int).toNat, none⟩ (.int .i64 x1_1))) ?hg ?ho ?hn ?hr ?_; (case ho => rfl); (case hg => rfl); (case hn => rfl); (case hr => first | (go_simp; done) | (go_simp; rfl)); intro w8 hw; have hg : wr.grownBy w8 (some go5) := (by rw [hw]; exact HP7.2); have hp_ : Kd.R (Kd.int .i64) 3 w8 w0.heap.size (fun k_ => (P0_ k_ ∨ w.heap.size ≤ k_)) (.slice (some ⟨go5, 0, none⟩) x0_1.length co6) y515 := (by rw [hw, Ny515.out]; exact HP7.1); clear HP7; replace HB := am ((by rw [hw]; exact below_set (HB.out) GB5.out : Below w0.heap.size w0 w8)); replace HK := am (Kept.of_grown (S := (fun k_ => P0_ k_)) hg (z29_1) (fun k_ e_ => (HO_0.out.1 k_ e_))); replace HO_0 := am hp_; clear hg hw hp_))
    go_roundg k1
    case measure => have := HK1.out; omega
    case rel => exact ⟨(y515), (wrap64 (x1_1 + 1)), (wrap64 (x5_1 + 1)), ab6, ab6, H', ⟨by have := HK1.out; omega⟩, ⟨ab8 HO_0⟩, ⟨z29_1⟩, ⟨ab1⟩⟩
   ·simp only [Option.some.injEq, Prod.mk.injEq] at H
    obtain ⟨rfl, rfl⟩ := H
    obtain ⟨Ao9, co9, eo9⟩ := Kd.R_slice HO_0.out
    subst eo9
    go_wp2
    go_ret
    exact ⟨ab7, ab8 HO_0, ab1, z29_1⟩
def laws_heldIntS.l0 : Nat → List Int → Int → Int → Option (Int)
 | 0, _, _, _ => none
 | k + 1, x0, x1, x5 => if x5 < (x0.length : Int) then (if 0 ≤ x5 then (if (rd x0 x5) = x1 then (laws_heldIntS.l0 k x0 (wrap64 (x1 + 1)) (wrap64 (x5 + 1))) else (some (-1))) else (none)) else (some x1)
def laws_heldIntS.f (k : Nat) (l0 : List Int) (a1 : Int) : Option (Int) := laws_heldIntS.l0 k l0 a1 0
theorem laws_heldIntS.calls (k : Nat) (A0 : Option Addr) (c0 : Nat) (l0 : List Int) (a1 : Int) (r : Int) (w : World) (hr0 : Kd.C (Kd.int .i64) w A0 l0.length l0) (hc0 : l0.length ≤ c0) (h : laws_heldIntS.f k l0 a1 = some r) :
  Calls Tryz.prog 42 #[.slice A0 l0.length c0, .int .i64 a1] w fun e w' => e = .returned (.int .i64 r) ∧ Drawn0 w w' := by
 have HR0 := am hr0
 have HC0 := am hc0
 clear hr0 hc0
 have H : (laws_heldIntS.l0 k l0 a1 0) = some r := h
 clear h
 have H' := am H
 clear H
 go_enter Tryz.func42, Tryz.ntmps42
 go_wp2
 go_loopg [1, 5] k (fun kq v1 v5 w' => ∃ (x1_1 : Int) (x5_1 : Int), v1 = .int .i64 x1_1 ∧ v5 = .int .i64 x5_1 ∧ Aside0 (laws_heldIntS.l0 kq l0 x1_1 x5_1 = some r) ∧ Aside0 (kq ≤ k) ∧ Drawn0 w w')
 case atStart => exact ⟨(a1), (0), ab6, ab6, H', ⟨Nat.le_refl _⟩, by repeat (first | exact Drawn0.refl _ | apply Drawn0.step)⟩
 case round =>
  clear H'
  try clear p2
  obtain ⟨x1_1, x5_1, rfl, rfl, HA, HK1, ⟨m1, rfl⟩⟩ := hrel
  cases gk with
  | zero => exact absurd HA.out (by simp [laws_heldIntS.l0])
  | succ k1 =>
   have H := HA.out
   clear HA
   simp only [laws_heldIntS.l0] at H
   replace H := ir_ H; rcases H with ⟨c3b0, H⟩ | ⟨c3b0, H⟩
   ·replace H := iq_ H; obtain ⟨c4b0, H⟩ := H
    replace H := ie_ H; rcases H with ⟨c5b0, c5b1, H⟩ | ⟨c5, c5b0, c5b1, H⟩
    ·have H' := am H
     clear H
     have p516 : 0 ≤ (x5_1 : Int) := of_decide_eq_true ab4
     have q516 : x5_1 < (l0.length : Int) := of_decide_eq_true ab4
     obtain ⟨ad516, e516, hx516_0⟩ := Kd.at_int HR0.out x5_1 p516 q516
     cases e516
     replace p516 := eq_true p516
     replace q516 := eq_true q516
     go_wp2
     go_roundg k1
     case measure => have := HK1.out; omega
     case rel => exact ⟨(wrap64 (x1_1 + 1)), (wrap64 (x5_1 + 1)), ab6, ab6, H', ⟨by have := HK1.out; omega⟩, by repeat (first | exact Drawn0.refl _ | apply Drawn0.step)⟩
    ·obtain rfl := Option.some.inj H
     have p516 : 0 ≤ (x5_1 : Int) := of_decide_eq_true ab4
     have q516 : x5_1 < (l0.length : Int) := of_decide_eq_true ab4
     obtain ⟨ad516, e516, hx516_0⟩ := Kd.at_int HR0.out x5_1 p516 q516
     cases e516
     replace p516 := eq_true p516
     replace q516 := eq_true q516
     go_wp2
     go_ret
     exact ⟨ab6, by repeat (first | exact Drawn0.refl _ | apply Drawn0.step)⟩
   ·obtain rfl := Option.some.inj H
    go_wp2
    go_ret
    exact ⟨ab6, by repeat (first | exact Drawn0.refl _ | apply Drawn0.step)⟩
def laws_heldAttrS.l0 : Nat → List (S56) → Int → Int → Option (Int)
 | 0, _, _, _ => none
 | k + 1, x0, x1, x5 => if x5 < (x0.length : Int) then (if 0 ≤ x5 then ((laws_markText.f k x1).bind fun t518 => (if ((rd_T56 x0 x5).f0).toList = t518.toList then ((laws_markText.f k (wrap64 (x1 + 1))).bind fun t520 => (if ((rd_T56 x0 x5).f1).toList = t520.toList then (laws_heldAttrS.l0 k x0 (wrap64 ((wrap64 (x1 + 1)) + 1)) (wrap64 (x5 + 1))) else (some (-1)))) else (some (-1)))) else (none)) else (some x1)
def laws_heldAttrS.f (k : Nat) (l0 : List (S56)) (a1 : Int) : Option (Int) := laws_heldAttrS.l0 k l0 a1 0
def laws_heldAttrS.T4 : Bool × List (List Nat × List Nat) := (true, [([], []), ([], []), ([0, 1], [0, 1]), ([2], [2]), ([3], [3]), ([], []), ([5], [5]), ([4, 6], [4, 6])])
def laws_heldAttrS.B4 : List Nat := [0, 0, 3, 7, 15, 0, 32, 127]
theorem laws_heldAttrS.tab4 : rtab .any (opsOf Tryz.f69 4) = laws_heldAttrS.T4 := by kernel_rfl
theorem laws_heldAttrS.bits4 : waitsOk laws_heldAttrS.T4.2 laws_heldAttrS.B4 = true := by kernel_rfl
def laws_heldAttrS.T7 : Bool × List (List Nat × List Nat) := (true, [([], []), ([], []), ([0, 1], [0, 1]), ([2], [2]), ([3], [3]), ([], []), ([5], [5]), ([4, 6], [4, 6])])
def laws_heldAttrS.B7 : List Nat := [0, 0, 3, 7, 15, 0, 32, 127]
theorem laws_heldAttrS.tab7 : rtab .any (opsOf Tryz.f69 7) = laws_heldAttrS.T7 := by kernel_rfl
theorem laws_heldAttrS.bits7 : waitsOk laws_heldAttrS.T7.2 laws_heldAttrS.B7 = true := by kernel_rfl
theorem laws_heldAttrS.calls (k : Nat) (A0 : Option Addr) (c0 : Nat) (l0 : List (S56)) (a1 : Int) (r : Int) (w : World) (hr0 : Kd.C k56 w A0 l0.length l0) (hc0 : l0.length ≤ c0) (h : laws_heldAttrS.f k l0 a1 = some r) :
  Calls Tryz.prog 69 #[.slice A0 l0.length c0, .int .i64 a1] w fun e w' => e = .returned (.int .i64 r) ∧ Below w.heap.size w w' := by
 have HR0 := am hr0
 have HC0 := am hc0
 clear hr0 hc0
 have HB := am (Below.refl w.heap.size w)
 have H : (laws_heldAttrS.l0 k l0 a1 0) = some r := h
 clear h
 have H' := am H
 clear H
 go_enter Tryz.func69, Tryz.ntmps69
 go_wp2
 go_loopg [1, 5] k (fun kq v1 v5 w' => ∃ (x1_1 : Int) (x5_1 : Int), v1 = .int .i64 x1_1 ∧ v5 = .int .i64 x5_1 ∧ Aside0 (laws_heldAttrS.l0 kq l0 x1_1 x5_1 = some r) ∧ Aside0 (kq ≤ k) ∧ Aside0 (Below w.heap.size w w'))
 case atStart => exact ⟨(a1), (0), ab6, ab6, H', ⟨Nat.le_refl _⟩, ⟨ab1⟩⟩
 case round =>
  clear H'
  try clear p2
  obtain ⟨x1_1, x5_1, rfl, rfl, HA, HK1, HB⟩ := hrel
  cases gk with
  | zero => exact absurd HA.out (by simp [laws_heldAttrS.l0])
  | succ k1 =>
   have H := HA.out
   clear HA
   simp only [laws_heldAttrS.l0] at H
   replace H := ir_ H; rcases H with ⟨c3b0, H⟩ | ⟨c3b0, H⟩
   ·replace H := iq_ H; obtain ⟨c4b0, H⟩ := H
    replace H := bi_ H; obtain ⟨t518, A5, H⟩ := H
    replace H := ie_ H; rcases H with ⟨c6b0, c6b1, H⟩ | ⟨c6, c6b0, c6b1, H⟩
    ·replace H := bi_ H; obtain ⟨t520, A7, H⟩ := H
     replace H := ie_ H; rcases H with ⟨c8b0, c8b1, H⟩ | ⟨c8, c8b0, c8b1, H⟩
     ·have H' := am H
      clear H
      try go_wp2
      replace HB := am (below_drew1 HB.out)
      obtain ⟨p517, q517, ad517, rfl, hx517_0, hx517_1, hw517⟩ := osT56 HB HR0.out x5_1 (of_decide_eq_true ab4) (of_decide_eq_true ab4)
      refine start_ (n := 8) (ds := []) #[false, false, false, false, false, false, false, false] (by kernel_rfl) rfl rfl (spT56 HB hw517 tr_ :) (fun hHeld => ?_); refine with_tabW laws_heldAttrS.tab4 laws_heldAttrS.bits4 (fun HT_ HW_ => ?_)
      generalize wr.drew = w9 at HB hx517_0 hx517_1 hHeld ⊢
      refine pa_ 0 12 HT_ ?_
      refine pa_ 1 13 HT_ ?_
      refine pa_ 2 14 HT_ ?_
      refine pa_ 3 15 HT_ ?_
      refine pa_ 5 17 HT_ ?_
      refine tk_ 4 16 HT_ HW_ hHeld ?_
      refine on_ 6 18 HT_ fun K hK => ?_
      refine goes_ Tryz.func40 (by kernel_rfl) rfl #[.int .i64 x1_1] (by rfl) rfl rfl ab5 ?_
      with_reducible refine (laws_markText.calls k1 x1_1 t518 _ A5.out).mono ?_
      rintro e w10 ⟨rfl, hb⟩
      refine ⟨_, rfl, ?_⟩
      replace HB := am (below_step ab1 hb)
      (try clear hb)
      refine hK.out _ _ (spT56 HB hw517 tr_ :) (fun hHeld => ?_)
      clear hK K
      refine nm_ ?_
      refine pa_ 7 19 HT_ ?_
      refine dn_ HT_ ?_
      try go_wp2
      replace HB := am (below_drew1 HB.out)
      obtain ⟨p519, q519, hx519_0, hx519_1, hw519⟩ := ahT56 HB HR0.out x5_1 (of_decide_eq_true ab4) (of_decide_eq_true ab4)
      refine start_ (n := 8) (ds := []) #[false, false, false, false, false, false, false, false] (by kernel_rfl) rfl rfl (spT56 HB hw519 tr_ :) (fun hHeld => ?_); refine with_tabW laws_heldAttrS.tab7 laws_heldAttrS.bits7 (fun HT_ HW_ => ?_)
      generalize w10.drew = w11 at HB hx519_0 hx519_1 hHeld ⊢
      refine pa_ 0 22 HT_ ?_
      refine pa_ 1 23 HT_ ?_
      refine pa_ 2 24 HT_ ?_
      refine pa_ 3 25 HT_ ?_
      refine pa_ 5 27 HT_ ?_
      refine tk_ 4 26 HT_ HW_ hHeld ?_
      refine on_ 6 28 HT_ fun K hK => ?_
      refine goes_ Tryz.func40 (by kernel_rfl) rfl #[.int .i64 (wrap64 (x1_1 + 1))] (by rfl) rfl rfl ab5 ?_
      with_reducible refine (laws_markText.calls k1 (wrap64 (x1_1 + 1)) t520 _ A7.out).mono ?_
      rintro e w12 ⟨rfl, hb⟩
      refine ⟨_, rfl, ?_⟩
      replace HB := am (below_step ab1 hb)
      (try clear hb)
      refine hK.out _ _ (spT56 HB hw519 tr_ :) (fun hHeld => ?_)
      clear hK K
      refine nm_ ?_
      refine pa_ 7 29 HT_ ?_
      refine dn_ HT_ ?_
      try go_wp2
      go_roundg k1
      case measure => have := HK1.out; omega
      case rel => exact ⟨(wrap64 ((wrap64 (x1_1 + 1)) + 1)), (wrap64 (x5_1 + 1)), ab6, ab6, H', ⟨by have := HK1.out; omega⟩, ⟨ab1⟩⟩
     ·obtain rfl := Option.some.inj H
      try go_wp2
      replace HB := am (below_drew1 HB.out)
      obtain ⟨p517, q517, ad517, rfl, hx517_0, hx517_1, hw517⟩ := osT56 HB HR0.out x5_1 (of_decide_eq_true ab4) (of_decide_eq_true ab4)
      refine start_ (n := 8) (ds := []) #[false, false, false, false, false, false, false, false] (by kernel_rfl) rfl rfl (spT56 HB hw517 tr_ :) (fun hHeld => ?_); refine with_tabW laws_heldAttrS.tab4 laws_heldAttrS.bits4 (fun HT_ HW_ => ?_)
      generalize wr.drew = w13 at HB hx517_0 hx517_1 hHeld ⊢
      refine pa_ 0 12 HT_ ?_
      refine pa_ 1 13 HT_ ?_
      refine pa_ 2 14 HT_ ?_
      refine pa_ 3 15 HT_ ?_
      refine pa_ 5 17 HT_ ?_
      refine tk_ 4 16 HT_ HW_ hHeld ?_
      refine on_ 6 18 HT_ fun K hK => ?_
      refine goes_ Tryz.func40 (by kernel_rfl) rfl #[.int .i64 x1_1] (by rfl) rfl rfl ab5 ?_
      with_reducible refine (laws_markText.calls k1 x1_1 t518 _ A5.out).mono ?_
      rintro e w14 ⟨rfl, hb⟩
      refine ⟨_, rfl, ?_⟩
      replace HB := am (below_step ab1 hb)
      (try clear hb)
      refine hK.out _ _ (spT56 HB hw517 tr_ :) (fun hHeld => ?_)
      clear hK K
      refine nm_ ?_
      refine pa_ 7 19 HT_ ?_
      refine dn_ HT_ ?_
      try go_wp2
      replace HB := am (below_drew1 HB.out)
      obtain ⟨p519, q519, hx519_0, hx519_1, hw519⟩ := ahT56 HB HR0.out x5_1 (of_decide_eq_true ab4) (of_decide_eq_true ab4)
      refine start_ (n := 8) (ds := []) #[false, false, false, false, false, false, false, false] (by kernel_rfl) rfl rfl (spT56 HB hw519 tr_ :) (fun hHeld => ?_); refine with_tabW laws_heldAttrS.tab7 laws_heldAttrS.bits7 (fun HT_ HW_ => ?_)
      generalize w14.drew = w15 at HB hx519_0 hx519_1 hHeld ⊢
      refine pa_ 0 22 HT_ ?_
      refine pa_ 1 23 HT_ ?_
      refine pa_ 2 24 HT_ ?_
      refine pa_ 3 25 HT_ ?_
      refine pa_ 5 27 HT_ ?_
      refine tk_ 4 26 HT_ HW_ hHeld ?_
      refine on_ 6 28 HT_ fun K hK => ?_
      refine goes_ Tryz.func40 (by kernel_rfl) rfl #[.int .i64 (wrap64 (x1_1 + 1))] (by rfl) rfl rfl ab5 ?_
      with_reducible refine (laws_markText.calls k1 (wrap64 (x1_1 + 1)) t520 _ A7.out).mono ?_
      rintro e w16 ⟨rfl, hb⟩
      refine ⟨_, rfl, ?_⟩
      replace HB := am (below_step ab1 hb)
      (try clear hb)
      refine hK.out _ _ (spT56 HB hw519 tr_ :) (fun hHeld => ?_)
      clear hK K
      refine nm_ ?_
      refine pa_ 7 29 HT_ ?_
      refine dn_ HT_ ?_
      try go_wp2
      go_ret
      exact ⟨ab7, ab1⟩
    ·obtain rfl := Option.some.inj H
     try go_wp2
     replace HB := am (below_drew1 HB.out)
     obtain ⟨p517, q517, ad517, rfl, hx517_0, hx517_1, hw517⟩ := osT56 HB HR0.out x5_1 (of_decide_eq_true ab4) (of_decide_eq_true ab4)
     refine start_ (n := 8) (ds := []) #[false, false, false, false, false, false, false, false] (by kernel_rfl) rfl rfl (spT56 HB hw517 tr_ :) (fun hHeld => ?_); refine with_tabW laws_heldAttrS.tab4 laws_heldAttrS.bits4 (fun HT_ HW_ => ?_)
     generalize wr.drew = w17 at HB hx517_0 hx517_1 hHeld ⊢
     refine pa_ 0 12 HT_ ?_
     refine pa_ 1 13 HT_ ?_
     refine pa_ 2 14 HT_ ?_
     refine pa_ 3 15 HT_ ?_
     refine pa_ 5 17 HT_ ?_
     refine tk_ 4 16 HT_ HW_ hHeld ?_
     refine on_ 6 18 HT_ fun K hK => ?_
     refine goes_ Tryz.func40 (by kernel_rfl) rfl #[.int .i64 x1_1] (by rfl) rfl rfl ab5 ?_
     with_reducible refine (laws_markText.calls k1 x1_1 t518 _ A5.out).mono ?_
     rintro e w18 ⟨rfl, hb⟩
     refine ⟨_, rfl, ?_⟩
     replace HB := am (below_step ab1 hb)
     (try clear hb)
     refine hK.out _ _ (spT56 HB hw517 tr_ :) (fun hHeld => ?_)
     clear hK K
     refine nm_ ?_
     refine pa_ 7 19 HT_ ?_
     refine dn_ HT_ ?_
     try go_wp2
     go_ret
     exact ⟨ab7, ab1⟩
   ·obtain rfl := Option.some.inj H
    go_wp2
    go_ret
    exact ⟨ab7, ab1⟩
def laws_heldItemS.l0 : Nat → List (S53) → Int → Int → Option (Int)
 | 0, _, _, _ => none
 | k + 1, x0, x1, x5 => if x5 < (x0.length : Int) then (if 0 ≤ x5 then (if ((rd_T53 x0 x5).f0) = x1 then (if ((rd_T53 x0 x5).f1) = (wrap64 (x1 + 1)) then ((laws_markText.f k (wrap64 ((wrap64 (x1 + 1)) + 1))).bind fun t524 => (if ((rd_T53 x0 x5).f2).toList = t524.toList then ((laws_heldAttrS.f k ((rd_T53 x0 x5).f3) (wrap64 ((wrap64 ((wrap64 (x1 + 1)) + 1)) + 1))).bind fun t526 => (if t526 < 0 then (some (-1)) else ((laws_markText.f k t526).bind fun t528 => (if ((rd_T53 x0 x5).f4).toList = t528.toList then (if ((rd_T53 x0 x5).f5) = (wrap64 (t526 + 1)) then ((laws_heldIntS.f k ((rd_T53 x0 x5).f6) (wrap64 ((wrap64 (t526 + 1)) + 1))).bind fun t531 => (if t531 < 0 then (some (-1)) else (laws_heldItemS.l0 k x0 t531 (wrap64 (x5 + 1))))) else (some (-1))) else (some (-1)))))) else (some (-1)))) else (some (-1))) else (some (-1))) else (none)) else (some x1)
def laws_heldItemS.f (k : Nat) (l0 : List (S53)) (a1 : Int) : Option (Int) := laws_heldItemS.l0 k l0 a1 0
def laws_heldItemS.T10 : Bool × List (List Nat × List Nat) := (true, [([], []), ([], []), ([0, 1], [0, 1]), ([2], [2]), ([3], [3]), ([], []), ([5], [5]), ([4, 6], [4, 6])])
def laws_heldItemS.B10 : List Nat := [0, 0, 3, 7, 15, 0, 32, 127]
theorem laws_heldItemS.tab10 : rtab .any (opsOf Tryz.f41 10) = laws_heldItemS.T10 := by kernel_rfl
theorem laws_heldItemS.bits10 : waitsOk laws_heldItemS.T10.2 laws_heldItemS.B10 = true := by kernel_rfl
def laws_heldItemS.T16 : Bool × List (List Nat × List Nat) := (true, [([], []), ([], []), ([0, 1], [0, 1]), ([2], [2]), ([3], [3]), ([], []), ([5], [5]), ([4, 6], [4, 6])])
def laws_heldItemS.B16 : List Nat := [0, 0, 3, 7, 15, 0, 32, 127]
theorem laws_heldItemS.tab16 : rtab .any (opsOf Tryz.f41 16) = laws_heldItemS.T16 := by kernel_rfl
theorem laws_heldItemS.bits16 : waitsOk laws_heldItemS.T16.2 laws_heldItemS.B16 = true := by kernel_rfl
theorem laws_heldItemS.calls (k : Nat) (A0 : Option Addr) (c0 : Nat) (l0 : List (S53)) (a1 : Int) (r : Int) (w : World) (hr0 : Kd.C k53 w A0 l0.length l0) (hc0 : l0.length ≤ c0) (h : laws_heldItemS.f k l0 a1 = some r) :
  Calls Tryz.prog 41 #[.slice A0 l0.length c0, .int .i64 a1] w fun e w' => e = .returned (.int .i64 r) ∧ Below w.heap.size w w' := by
 have HR0 := am hr0
 have HC0 := am hc0
 clear hr0 hc0
 have HB := am (Below.refl w.heap.size w)
 have H : (laws_heldItemS.l0 k l0 a1 0) = some r := h
 clear h
 have H' := am H
 clear H
 go_enter Tryz.func41, Tryz.ntmps41
 go_wp2
 go_loopg [1, 5] k (fun kq v1 v5 w' => ∃ (x1_1 : Int) (x5_1 : Int), v1 = .int .i64 x1_1 ∧ v5 = .int .i64 x5_1 ∧ Aside0 (laws_heldItemS.l0 kq l0 x1_1 x5_1 = some r) ∧ Aside0 (kq ≤ k) ∧ Aside0 (Below w.heap.size w w'))
 case atStart => exact ⟨(a1), (0), ab6, ab6, H', ⟨Nat.le_refl _⟩, ⟨ab1⟩⟩
 case round =>
  clear H'
  try clear p2
  obtain ⟨x1_1, x5_1, rfl, rfl, HA, HK1, HB⟩ := hrel
  cases gk with
  | zero => exact absurd HA.out (by simp [laws_heldItemS.l0])
  | succ k1 =>
   have H := HA.out
   clear HA
   simp only [laws_heldItemS.l0] at H
   replace H := ir_ H; rcases H with ⟨c3b0, H⟩ | ⟨c3b0, H⟩
   ·replace H := iq_ H; obtain ⟨c4b0, H⟩ := H
    replace H := ie_ H; rcases H with ⟨c5b0, c5b1, H⟩ | ⟨c5, c5b0, c5b1, H⟩
    ·replace H := ie_ H; rcases H with ⟨c6b0, c6b1, H⟩ | ⟨c6, c6b0, c6b1, H⟩
     ·replace H := bi_ H; obtain ⟨t524, A7, H⟩ := H
      replace H := ie_ H; rcases H with ⟨c8b0, c8b1, H⟩ | ⟨c8, c8b0, c8b1, H⟩
      ·replace H := bi_ H; obtain ⟨t526, A9, H⟩ := H
       replace H := ir_ H; rcases H with ⟨c10b0, H⟩ | ⟨c10b0, H⟩
       ·obtain rfl := Option.some.inj H
        obtain ⟨p521, q521, ad521, A521_3, c521_3, A521_6, c521_6, rfl, hx521_0, hx521_1, hx521_2, hx521_3, hx521_4, hx521_5, hx521_6, HC521_3, HR521_3, HC521_6, HR521_6⟩ := otT53 HB HR0.out x5_1 (of_decide_eq_true ab4) (of_decide_eq_true ab4)
        obtain ⟨p522, q522, A522_3, c522_3, A522_6, c522_6, hx522_0, hx522_1, hx522_2, hx522_3, hx522_4, hx522_5, hx522_6, HC522_3, HR522_3, HC522_6, HR522_6⟩ := agT53 HB HR0.out x5_1 (of_decide_eq_true ab4) (of_decide_eq_true ab4)
        obtain ⟨rfl, rfl⟩ := sl_ hx521_3 hx522_3
        obtain ⟨rfl, rfl⟩ := sl_ hx521_6 hx522_6
        try go_wp2
        replace HB := am (below_drew1 HB.out)
        obtain ⟨p523, q523, A523_3, c523_3, A523_6, c523_6, hx523_0, hx523_1, hx523_2, hx523_3, hx523_4, hx523_5, hx523_6, HC523_3, HR523_3, HC523_6, HR523_6, hw523⟩ := ahT53 HB HR0.out x5_1 (of_decide_eq_true ab4) (of_decide_eq_true ab4)
        refine start_ (n := 8) (ds := []) #[false, false, false, false, false, false, false, false] (by kernel_rfl) rfl rfl (spT53 HB hw523 tr_ :) (fun hHeld => ?_); refine with_tabW laws_heldItemS.tab10 laws_heldItemS.bits10 (fun HT_ HW_ => ?_)
        generalize wr.drew = w11 at HB HR523_3 HR523_6 hx523_0 hx523_1 hx523_2 hx523_3 hx523_4 hx523_5 hx523_6 hHeld ⊢
        refine pa_ 0 30 HT_ ?_
        refine pa_ 1 31 HT_ ?_
        refine pa_ 2 32 HT_ ?_
        refine pa_ 3 33 HT_ ?_
        refine pa_ 5 35 HT_ ?_
        refine tk_ 4 34 HT_ HW_ hHeld ?_
        refine on_ 6 36 HT_ fun K hK => ?_
        refine goes_ Tryz.func40 (by kernel_rfl) rfl #[.int .i64 (wrap64 ((wrap64 (x1_1 + 1)) + 1))] (by rfl) rfl rfl ab5 ?_
        with_reducible refine (laws_markText.calls k1 (wrap64 ((wrap64 (x1_1 + 1)) + 1)) t524 _ A7.out).mono ?_
        rintro e w12 ⟨rfl, hb⟩
        refine ⟨_, rfl, ?_⟩
        replace HB := am (below_step ab1 hb)
        (try clear hb)
        refine hK.out _ _ (spT53 HB hw523 tr_ :) (fun hHeld => ?_)
        clear hK K
        refine nm_ ?_
        refine pa_ 7 37 HT_ ?_
        refine dn_ HT_ ?_
        (try clear hHeld)
        obtain ⟨p525, q525, A525_3, c525_3, A525_6, c525_6, hx525_0, hx525_1, hx525_2, hx525_3, hx525_4, hx525_5, hx525_6, HC525_3, HR525_3, HC525_6, HR525_6⟩ := agT53 HB HR0.out x5_1 (of_decide_eq_true ab4) (of_decide_eq_true ab4)
        try go_wp2_with (first | ((with_reducible refine gf_ 69 ?_); refine gc_ Tryz.func69 (laws_heldAttrS.calls k1 _ _ ((rd_T53 l0 x5_1).f3) (wrap64 ((wrap64 ((wrap64 (x1_1 + 1)) + 1)) + 1)) t526 _ (sc_ HR525_3) HC525_3.out A9.out) ?_; rintro w13 hb; replace HB := am (below_step ab1 hb); (try clear hb)))
        go_ret
        exact ⟨ab7, ab1⟩
       ·replace H := bi_ H; obtain ⟨t528, A14, H⟩ := H
        replace H := ie_ H; rcases H with ⟨c15b0, c15b1, H⟩ | ⟨c15, c15b0, c15b1, H⟩
        ·replace H := ie_ H; rcases H with ⟨c16b0, c16b1, H⟩ | ⟨c16, c16b0, c16b1, H⟩
         ·replace H := bi_ H; obtain ⟨t531, A17, H⟩ := H
          replace H := ir_ H; rcases H with ⟨c18b0, H⟩ | ⟨c18b0, H⟩
          ·obtain rfl := Option.some.inj H
           obtain ⟨p521, q521, ad521, A521_3, c521_3, A521_6, c521_6, rfl, hx521_0, hx521_1, hx521_2, hx521_3, hx521_4, hx521_5, hx521_6, HC521_3, HR521_3, HC521_6, HR521_6⟩ := otT53 HB HR0.out x5_1 (of_decide_eq_true ab4) (of_decide_eq_true ab4)
           obtain ⟨p522, q522, A522_3, c522_3, A522_6, c522_6, hx522_0, hx522_1, hx522_2, hx522_3, hx522_4, hx522_5, hx522_6, HC522_3, HR522_3, HC522_6, HR522_6⟩ := agT53 HB HR0.out x5_1 (of_decide_eq_true ab4) (of_decide_eq_true ab4)
           obtain ⟨rfl, rfl⟩ := sl_ hx521_3 hx522_3
           obtain ⟨rfl, rfl⟩ := sl_ hx521_6 hx522_6
           try go_wp2
           replace HB := am (below_drew1 HB.out)
           obtain ⟨p523, q523, A523_3, c523_3, A523_6, c523_6, hx523_0, hx523_1, hx523_2, hx523_3, hx523_4, hx523_5, hx523_6, HC523_3, HR523_3, HC523_6, HR523_6, hw523⟩ := ahT53 HB HR0.out x5_1 (of_decide_eq_true ab4) (of_decide_eq_true ab4)
           refine start_ (n := 8) (ds := []) #[false, false, false, false, false, false, false, false] (by kernel_rfl) rfl rfl (spT53 HB hw523 tr_ :) (fun hHeld => ?_); refine with_tabW laws_heldItemS.tab10 laws_heldItemS.bits10 (fun HT_ HW_ => ?_)
           generalize wr.drew = w19 at HB HR523_3 HR523_6 hx523_0 hx523_1 hx523_2 hx523_3 hx523_4 hx523_5 hx523_6 hHeld ⊢
           refine pa_ 0 30 HT_ ?_
           refine pa_ 1 31 HT_ ?_
           refine pa_ 2 32 HT_ ?_
           refine pa_ 3 33 HT_ ?_
           refine pa_ 5 35 HT_ ?_
           refine tk_ 4 34 HT_ HW_ hHeld ?_
           refine on_ 6 36 HT_ fun K hK => ?_
           refine goes_ Tryz.func40 (by kernel_rfl) rfl #[.int .i64 (wrap64 ((wrap64 (x1_1 + 1)) + 1))] (by rfl) rfl rfl ab5 ?_
           with_reducible refine (laws_markText.calls k1 (wrap64 ((wrap64 (x1_1 + 1)) + 1)) t524 _ A7.out).mono ?_
           rintro e w20 ⟨rfl, hb⟩
           refine ⟨_, rfl, ?_⟩
           replace HB := am (below_step ab1 hb)
           (try clear hb)
           refine hK.out _ _ (spT53 HB hw523 tr_ :) (fun hHeld => ?_)
           clear hK K
           refine nm_ ?_
           refine pa_ 7 37 HT_ ?_
           refine dn_ HT_ ?_
           (try clear hHeld)
           obtain ⟨p525, q525, A525_3, c525_3, A525_6, c525_6, hx525_0, hx525_1, hx525_2, hx525_3, hx525_4, hx525_5, hx525_6, HC525_3, HR525_3, HC525_6, HR525_6⟩ := agT53 HB HR0.out x5_1 (of_decide_eq_true ab4) (of_decide_eq_true ab4)
           try go_wp2_with (first | ((with_reducible refine gf_ 69 ?_); refine gc_ Tryz.func69 (laws_heldAttrS.calls k1 _ _ ((rd_T53 l0 x5_1).f3) (wrap64 ((wrap64 ((wrap64 (x1_1 + 1)) + 1)) + 1)) t526 _ (sc_ HR525_3) HC525_3.out A9.out) ?_; rintro w21 hb; replace HB := am (below_step ab1 hb); (try clear hb)))
           replace HB := am (below_drew1 HB.out)
           obtain ⟨p527, q527, A527_3, c527_3, A527_6, c527_6, hx527_0, hx527_1, hx527_2, hx527_3, hx527_4, hx527_5, hx527_6, HC527_3, HR527_3, HC527_6, HR527_6, hw527⟩ := ahT53 HB HR0.out x5_1 (of_decide_eq_true ab4) (of_decide_eq_true ab4)
           refine start_ (n := 8) (ds := []) #[false, false, false, false, false, false, false, false] (by kernel_rfl) rfl rfl (spT53 HB hw527 tr_ :) (fun hHeld => ?_); refine with_tabW laws_heldItemS.tab16 laws_heldItemS.bits16 (fun HT_ HW_ => ?_)
           generalize w21.drew = w22 at HB HR527_3 HR527_6 hx527_0 hx527_1 hx527_2 hx527_3 hx527_4 hx527_5 hx527_6 hHeld ⊢
           refine pa_ 0 49 HT_ ?_
           refine pa_ 1 50 HT_ ?_
           refine pa_ 2 51 HT_ ?_
           refine pa_ 3 52 HT_ ?_
           refine pa_ 5 54 HT_ ?_
           refine tk_ 4 53 HT_ HW_ hHeld ?_
           refine on_ 6 55 HT_ fun K hK => ?_
           refine goes_ Tryz.func40 (by kernel_rfl) rfl #[.int .i64 t526] (by rfl) rfl rfl ab5 ?_
           with_reducible refine (laws_markText.calls k1 t526 t528 _ A14.out).mono ?_
           rintro e w23 ⟨rfl, hb⟩
           refine ⟨_, rfl, ?_⟩
           replace HB := am (below_step ab1 hb)
           (try clear hb)
           refine hK.out _ _ (spT53 HB hw527 tr_ :) (fun hHeld => ?_)
           clear hK K
           refine nm_ ?_
           refine pa_ 7 56 HT_ ?_
           refine dn_ HT_ ?_
           (try clear hHeld)
           obtain ⟨p529, q529, A529_3, c529_3, A529_6, c529_6, hx529_0, hx529_1, hx529_2, hx529_3, hx529_4, hx529_5, hx529_6, HC529_3, HR529_3, HC529_6, HR529_6⟩ := agT53 HB HR0.out x5_1 (of_decide_eq_true ab4) (of_decide_eq_true ab4)
           obtain ⟨p530, q530, A530_3, c530_3, A530_6, c530_6, hx530_0, hx530_1, hx530_2, hx530_3, hx530_4, hx530_5, hx530_6, HC530_3, HR530_3, HC530_6, HR530_6⟩ := agT53 HB HR0.out x5_1 (of_decide_eq_true ab4) (of_decide_eq_true ab4)
           obtain ⟨rfl, rfl⟩ := sl_ hx529_3 hx530_3
           obtain ⟨rfl, rfl⟩ := sl_ hx529_6 hx530_6
           try go_wp2_with (first | ((with_reducible refine gf_ 42 ?_); refine gc_ Tryz.func42 (laws_heldIntS.calls k1 _ _ ((rd_T53 l0 x5_1).f6) (wrap64 ((wrap64 (t526 + 1)) + 1)) t531 _ (sc_ HR530_6) HC530_6.out A17.out) ?_; rintro w' ⟨nd, rfl⟩))
           go_ret
           exact ⟨ab7, ab1⟩
          ·have H' := am H
           clear H
           obtain ⟨p521, q521, ad521, A521_3, c521_3, A521_6, c521_6, rfl, hx521_0, hx521_1, hx521_2, hx521_3, hx521_4, hx521_5, hx521_6, HC521_3, HR521_3, HC521_6, HR521_6⟩ := otT53 HB HR0.out x5_1 (of_decide_eq_true ab4) (of_decide_eq_true ab4)
           obtain ⟨p522, q522, A522_3, c522_3, A522_6, c522_6, hx522_0, hx522_1, hx522_2, hx522_3, hx522_4, hx522_5, hx522_6, HC522_3, HR522_3, HC522_6, HR522_6⟩ := agT53 HB HR0.out x5_1 (of_decide_eq_true ab4) (of_decide_eq_true ab4)
           obtain ⟨rfl, rfl⟩ := sl_ hx521_3 hx522_3
           obtain ⟨rfl, rfl⟩ := sl_ hx521_6 hx522_6
           try go_wp2
           replace HB := am (below_drew1 HB.out)
           obtain ⟨p523, q523, A523_3, c523_3, A523_6, c523_6, hx523_0, hx523_1, hx523_2, hx523_3, hx523_4, hx523_5, hx523_6, HC523_3, HR523_3, HC523_6, HR523_6, hw523⟩ := ahT53 HB HR0.out x5_1 (of_decide_eq_true ab4) (of_decide_eq_true ab4)
           refine start_ (n := 8) (ds := []) #[false, false, false, false, false, false, false, false] (by kernel_rfl) rfl rfl (spT53 HB hw523 tr_ :) (fun hHeld => ?_); refine with_tabW laws_heldItemS.tab10 laws_heldItemS.bits10 (fun HT_ HW_ => ?_)
           generalize wr.drew = w24 at HB HR523_3 HR523_6 hx523_0 hx523_1 hx523_2 hx523_3 hx523_4 hx523_5 hx523_6 hHeld ⊢
           refine pa_ 0 30 HT_ ?_
           refine pa_ 1 31 HT_ ?_
           refine pa_ 2 32 HT_ ?_
           refine pa_ 3 33 HT_ ?_
           refine pa_ 5 35 HT_ ?_
           refine tk_ 4 34 HT_ HW_ hHeld ?_
           refine on_ 6 36 HT_ fun K hK => ?_
           refine goes_ Tryz.func40 (by kernel_rfl) rfl #[.int .i64 (wrap64 ((wrap64 (x1_1 + 1)) + 1))] (by rfl) rfl rfl ab5 ?_
           with_reducible refine (laws_markText.calls k1 (wrap64 ((wrap64 (x1_1 + 1)) + 1)) t524 _ A7.out).mono ?_
           rintro e w25 ⟨rfl, hb⟩
           refine ⟨_, rfl, ?_⟩
           replace HB := am (below_step ab1 hb)
           (try clear hb)
           refine hK.out _ _ (spT53 HB hw523 tr_ :) (fun hHeld => ?_)
           clear hK K
           refine nm_ ?_
           refine pa_ 7 37 HT_ ?_
           refine dn_ HT_ ?_
           (try clear hHeld)
           obtain ⟨p525, q525, A525_3, c525_3, A525_6, c525_6, hx525_0, hx525_1, hx525_2, hx525_3, hx525_4, hx525_5, hx525_6, HC525_3, HR525_3, HC525_6, HR525_6⟩ := agT53 HB HR0.out x5_1 (of_decide_eq_true ab4) (of_decide_eq_true ab4)
           try go_wp2_with (first | ((with_reducible refine gf_ 69 ?_); refine gc_ Tryz.func69 (laws_heldAttrS.calls k1 _ _ ((rd_T53 l0 x5_1).f3) (wrap64 ((wrap64 ((wrap64 (x1_1 + 1)) + 1)) + 1)) t526 _ (sc_ HR525_3) HC525_3.out A9.out) ?_; rintro w26 hb; replace HB := am (below_step ab1 hb); (try clear hb)))
           replace HB := am (below_drew1 HB.out)
           obtain ⟨p527, q527, A527_3, c527_3, A527_6, c527_6, hx527_0, hx527_1, hx527_2, hx527_3, hx527_4, hx527_5, hx527_6, HC527_3, HR527_3, HC527_6, HR527_6, hw527⟩ := ahT53 HB HR0.out x5_1 (of_decide_eq_true ab4) (of_decide_eq_true ab4)
           refine start_ (n := 8) (ds := []) #[false, false, false, false, false, false, false, false] (by kernel_rfl) rfl rfl (spT53 HB hw527 tr_ :) (fun hHeld => ?_); refine with_tabW laws_heldItemS.tab16 laws_heldItemS.bits16 (fun HT_ HW_ => ?_)
           generalize w26.drew = w27 at HB HR527_3 HR527_6 hx527_0 hx527_1 hx527_2 hx527_3 hx527_4 hx527_5 hx527_6 hHeld ⊢
           refine pa_ 0 49 HT_ ?_
           refine pa_ 1 50 HT_ ?_
           refine pa_ 2 51 HT_ ?_
           refine pa_ 3 52 HT_ ?_
           refine pa_ 5 54 HT_ ?_
           refine tk_ 4 53 HT_ HW_ hHeld ?_
           refine on_ 6 55 HT_ fun K hK => ?_
           refine goes_ Tryz.func40 (by kernel_rfl) rfl #[.int .i64 t526] (by rfl) rfl rfl ab5 ?_
           with_reducible refine (laws_markText.calls k1 t526 t528 _ A14.out).mono ?_
           rintro e w28 ⟨rfl, hb⟩
           refine ⟨_, rfl, ?_⟩
           replace HB := am (below_step ab1 hb)
           (try clear hb)
           refine hK.out _ _ (spT53 HB hw527 tr_ :) (fun hHeld => ?_)
           clear hK K
           refine nm_ ?_
           refine pa_ 7 56 HT_ ?_
           refine dn_ HT_ ?_
           (try clear hHeld)
           obtain ⟨p529, q529, A529_3, c529_3, A529_6, c529_6, hx529_0, hx529_1, hx529_2, hx529_3, hx529_4, hx529_5, hx529_6, HC529_3, HR529_3, HC529_6, HR529_6⟩ := agT53 HB HR0.out x5_1 (of_decide_eq_true ab4) (of_decide_eq_true ab4)
           obtain ⟨p530, q530, A530_3, c530_3, A530_6, c530_6, hx530_0, hx530_1, hx530_2, hx530_3, hx530_4, hx530_5, hx530_6, HC530_3, HR530_3, HC530_6, HR530_6⟩ := agT53 HB HR0.out x5_1 (of_decide_eq_true ab4) (of_decide_eq_true ab4)
           obtain ⟨rfl, rfl⟩ := sl_ hx529_3 hx530_3
           obtain ⟨rfl, rfl⟩ := sl_ hx529_6 hx530_6
           try go_wp2_with (first | ((with_reducible refine gf_ 42 ?_); refine gc_ Tryz.func42 (laws_heldIntS.calls k1 _ _ ((rd_T53 l0 x5_1).f6) (wrap64 ((wrap64 (t526 + 1)) + 1)) t531 _ (sc_ HR530_6) HC530_6.out A17.out) ?_; rintro w' ⟨nd, rfl⟩))
           go_roundg k1
           case measure => have := HK1.out; omega
           case rel => exact ⟨(t531), (wrap64 (x5_1 + 1)), ab6, ab6, H', ⟨by have := HK1.out; omega⟩, ⟨ab1⟩⟩
         ·obtain rfl := Option.some.inj H
          obtain ⟨p521, q521, ad521, A521_3, c521_3, A521_6, c521_6, rfl, hx521_0, hx521_1, hx521_2, hx521_3, hx521_4, hx521_5, hx521_6, HC521_3, HR521_3, HC521_6, HR521_6⟩ := otT53 HB HR0.out x5_1 (of_decide_eq_true ab4) (of_decide_eq_true ab4)
          obtain ⟨p522, q522, A522_3, c522_3, A522_6, c522_6, hx522_0, hx522_1, hx522_2, hx522_3, hx522_4, hx522_5, hx522_6, HC522_3, HR522_3, HC522_6, HR522_6⟩ := agT53 HB HR0.out x5_1 (of_decide_eq_true ab4) (of_decide_eq_true ab4)
          obtain ⟨rfl, rfl⟩ := sl_ hx521_3 hx522_3
          obtain ⟨rfl, rfl⟩ := sl_ hx521_6 hx522_6
          try go_wp2
          replace HB := am (below_drew1 HB.out)
          obtain ⟨p523, q523, A523_3, c523_3, A523_6, c523_6, hx523_0, hx523_1, hx523_2, hx523_3, hx523_4, hx523_5, hx523_6, HC523_3, HR523_3, HC523_6, HR523_6, hw523⟩ := ahT53 HB HR0.out x5_1 (of_decide_eq_true ab4) (of_decide_eq_true ab4)
          refine start_ (n := 8) (ds := []) #[false, false, false, false, false, false, false, false] (by kernel_rfl) rfl rfl (spT53 HB hw523 tr_ :) (fun hHeld => ?_); refine with_tabW laws_heldItemS.tab10 laws_heldItemS.bits10 (fun HT_ HW_ => ?_)
          generalize wr.drew = w29 at HB HR523_3 HR523_6 hx523_0 hx523_1 hx523_2 hx523_3 hx523_4 hx523_5 hx523_6 hHeld ⊢
          refine pa_ 0 30 HT_ ?_
          refine pa_ 1 31 HT_ ?_
          refine pa_ 2 32 HT_ ?_
          refine pa_ 3 33 HT_ ?_
          refine pa_ 5 35 HT_ ?_
          refine tk_ 4 34 HT_ HW_ hHeld ?_
          refine on_ 6 36 HT_ fun K hK => ?_
          refine goes_ Tryz.func40 (by kernel_rfl) rfl #[.int .i64 (wrap64 ((wrap64 (x1_1 + 1)) + 1))] (by rfl) rfl rfl ab5 ?_
          with_reducible refine (laws_markText.calls k1 (wrap64 ((wrap64 (x1_1 + 1)) + 1)) t524 _ A7.out).mono ?_
          rintro e w30 ⟨rfl, hb⟩
          refine ⟨_, rfl, ?_⟩
          replace HB := am (below_step ab1 hb)
          (try clear hb)
          refine hK.out _ _ (spT53 HB hw523 tr_ :) (fun hHeld => ?_)
          clear hK K
          refine nm_ ?_
          refine pa_ 7 37 HT_ ?_
          refine dn_ HT_ ?_
          (try clear hHeld)
          obtain ⟨p525, q525, A525_3, c525_3, A525_6, c525_6, hx525_0, hx525_1, hx525_2, hx525_3, hx525_4, hx525_5, hx525_6, HC525_3, HR525_3, HC525_6, HR525_6⟩ := agT53 HB HR0.out x5_1 (of_decide_eq_true ab4) (of_decide_eq_true ab4)
          try go_wp2_with (first | ((with_reducible refine gf_ 69 ?_); refine gc_ Tryz.func69 (laws_heldAttrS.calls k1 _ _ ((rd_T53 l0 x5_1).f3) (wrap64 ((wrap64 ((wrap64 (x1_1 + 1)) + 1)) + 1)) t526 _ (sc_ HR525_3) HC525_3.out A9.out) ?_; rintro w31 hb; replace HB := am (below_step ab1 hb); (try clear hb)))
          replace HB := am (below_drew1 HB.out)
          obtain ⟨p527, q527, A527_3, c527_3, A527_6, c527_6, hx527_0, hx527_1, hx527_2, hx527_3, hx527_4, hx527_5, hx527_6, HC527_3, HR527_3, HC527_6, HR527_6, hw527⟩ := ahT53 HB HR0.out x5_1 (of_decide_eq_true ab4) (of_decide_eq_true ab4)
          refine start_ (n := 8) (ds := []) #[false, false, false, false, false, false, false, false] (by kernel_rfl) rfl rfl (spT53 HB hw527 tr_ :) (fun hHeld => ?_); refine with_tabW laws_heldItemS.tab16 laws_heldItemS.bits16 (fun HT_ HW_ => ?_)
          generalize w31.drew = w32 at HB HR527_3 HR527_6 hx527_0 hx527_1 hx527_2 hx527_3 hx527_4 hx527_5 hx527_6 hHeld ⊢
          refine pa_ 0 49 HT_ ?_
          refine pa_ 1 50 HT_ ?_
          refine pa_ 2 51 HT_ ?_
          refine pa_ 3 52 HT_ ?_
          refine pa_ 5 54 HT_ ?_
          refine tk_ 4 53 HT_ HW_ hHeld ?_
          refine on_ 6 55 HT_ fun K hK => ?_
          refine goes_ Tryz.func40 (by kernel_rfl) rfl #[.int .i64 t526] (by rfl) rfl rfl ab5 ?_
          with_reducible refine (laws_markText.calls k1 t526 t528 _ A14.out).mono ?_
          rintro e w33 ⟨rfl, hb⟩
          refine ⟨_, rfl, ?_⟩
          replace HB := am (below_step ab1 hb)
          (try clear hb)
          refine hK.out _ _ (spT53 HB hw527 tr_ :) (fun hHeld => ?_)
          clear hK K
          refine nm_ ?_
          refine pa_ 7 56 HT_ ?_
          refine dn_ HT_ ?_
          (try clear hHeld)
          obtain ⟨p529, q529, A529_3, c529_3, A529_6, c529_6, hx529_0, hx529_1, hx529_2, hx529_3, hx529_4, hx529_5, hx529_6, HC529_3, HR529_3, HC529_6, HR529_6⟩ := agT53 HB HR0.out x5_1 (of_decide_eq_true ab4) (of_decide_eq_true ab4)
          try go_wp2
          go_ret
          exact ⟨ab7, ab1⟩
        ·obtain rfl := Option.some.inj H
         obtain ⟨p521, q521, ad521, A521_3, c521_3, A521_6, c521_6, rfl, hx521_0, hx521_1, hx521_2, hx521_3, hx521_4, hx521_5, hx521_6, HC521_3, HR521_3, HC521_6, HR521_6⟩ := otT53 HB HR0.out x5_1 (of_decide_eq_true ab4) (of_decide_eq_true ab4)
         obtain ⟨p522, q522, A522_3, c522_3, A522_6, c522_6, hx522_0, hx522_1, hx522_2, hx522_3, hx522_4, hx522_5, hx522_6, HC522_3, HR522_3, HC522_6, HR522_6⟩ := agT53 HB HR0.out x5_1 (of_decide_eq_true ab4) (of_decide_eq_true ab4)
         obtain ⟨rfl, rfl⟩ := sl_ hx521_3 hx522_3
         obtain ⟨rfl, rfl⟩ := sl_ hx521_6 hx522_6
         try go_wp2
         replace HB := am (below_drew1 HB.out)
         obtain ⟨p523, q523, A523_3, c523_3, A523_6, c523_6, hx523_0, hx523_1, hx523_2, hx523_3, hx523_4, hx523_5, hx523_6, HC523_3, HR523_3, HC523_6, HR523_6, hw523⟩ := ahT53 HB HR0.out x5_1 (of_decide_eq_true ab4) (of_decide_eq_true ab4)
         refine start_ (n := 8) (ds := []) #[false, false, false, false, false, false, false, false] (by kernel_rfl) rfl rfl (spT53 HB hw523 tr_ :) (fun hHeld => ?_); refine with_tabW laws_heldItemS.tab10 laws_heldItemS.bits10 (fun HT_ HW_ => ?_)
         generalize wr.drew = w34 at HB HR523_3 HR523_6 hx523_0 hx523_1 hx523_2 hx523_3 hx523_4 hx523_5 hx523_6 hHeld ⊢
         refine pa_ 0 30 HT_ ?_
         refine pa_ 1 31 HT_ ?_
         refine pa_ 2 32 HT_ ?_
         refine pa_ 3 33 HT_ ?_
         refine pa_ 5 35 HT_ ?_
         refine tk_ 4 34 HT_ HW_ hHeld ?_
         refine on_ 6 36 HT_ fun K hK => ?_
         refine goes_ Tryz.func40 (by kernel_rfl) rfl #[.int .i64 (wrap64 ((wrap64 (x1_1 + 1)) + 1))] (by rfl) rfl rfl ab5 ?_
         with_reducible refine (laws_markText.calls k1 (wrap64 ((wrap64 (x1_1 + 1)) + 1)) t524 _ A7.out).mono ?_
         rintro e w35 ⟨rfl, hb⟩
         refine ⟨_, rfl, ?_⟩
         replace HB := am (below_step ab1 hb)
         (try clear hb)
         refine hK.out _ _ (spT53 HB hw523 tr_ :) (fun hHeld => ?_)
         clear hK K
         refine nm_ ?_
         refine pa_ 7 37 HT_ ?_
         refine dn_ HT_ ?_
         (try clear hHeld)
         obtain ⟨p525, q525, A525_3, c525_3, A525_6, c525_6, hx525_0, hx525_1, hx525_2, hx525_3, hx525_4, hx525_5, hx525_6, HC525_3, HR525_3, HC525_6, HR525_6⟩ := agT53 HB HR0.out x5_1 (of_decide_eq_true ab4) (of_decide_eq_true ab4)
         try go_wp2_with (first | ((with_reducible refine gf_ 69 ?_); refine gc_ Tryz.func69 (laws_heldAttrS.calls k1 _ _ ((rd_T53 l0 x5_1).f3) (wrap64 ((wrap64 ((wrap64 (x1_1 + 1)) + 1)) + 1)) t526 _ (sc_ HR525_3) HC525_3.out A9.out) ?_; rintro w36 hb; replace HB := am (below_step ab1 hb); (try clear hb)))
         replace HB := am (below_drew1 HB.out)
         obtain ⟨p527, q527, A527_3, c527_3, A527_6, c527_6, hx527_0, hx527_1, hx527_2, hx527_3, hx527_4, hx527_5, hx527_6, HC527_3, HR527_3, HC527_6, HR527_6, hw527⟩ := ahT53 HB HR0.out x5_1 (of_decide_eq_true ab4) (of_decide_eq_true ab4)
         refine start_ (n := 8) (ds := []) #[false, false, false, false, false, false, false, false] (by kernel_rfl) rfl rfl (spT53 HB hw527 tr_ :) (fun hHeld => ?_); refine with_tabW laws_heldItemS.tab16 laws_heldItemS.bits16 (fun HT_ HW_ => ?_)
         generalize w36.drew = w37 at HB HR527_3 HR527_6 hx527_0 hx527_1 hx527_2 hx527_3 hx527_4 hx527_5 hx527_6 hHeld ⊢
         refine pa_ 0 49 HT_ ?_
         refine pa_ 1 50 HT_ ?_
         refine pa_ 2 51 HT_ ?_
         refine pa_ 3 52 HT_ ?_
         refine pa_ 5 54 HT_ ?_
         refine tk_ 4 53 HT_ HW_ hHeld ?_
         refine on_ 6 55 HT_ fun K hK => ?_
         refine goes_ Tryz.func40 (by kernel_rfl) rfl #[.int .i64 t526] (by rfl) rfl rfl ab5 ?_
         with_reducible refine (laws_markText.calls k1 t526 t528 _ A14.out).mono ?_
         rintro e w38 ⟨rfl, hb⟩
         refine ⟨_, rfl, ?_⟩
         replace HB := am (below_step ab1 hb)
         (try clear hb)
         refine hK.out _ _ (spT53 HB hw527 tr_ :) (fun hHeld => ?_)
         clear hK K
         refine nm_ ?_
         refine pa_ 7 56 HT_ ?_
         refine dn_ HT_ ?_
         (try clear hHeld)
         try go_wp2
         go_ret
         exact ⟨ab7, ab1⟩
      ·obtain rfl := Option.some.inj H
       obtain ⟨p521, q521, ad521, A521_3, c521_3, A521_6, c521_6, rfl, hx521_0, hx521_1, hx521_2, hx521_3, hx521_4, hx521_5, hx521_6, HC521_3, HR521_3, HC521_6, HR521_6⟩ := otT53 HB HR0.out x5_1 (of_decide_eq_true ab4) (of_decide_eq_true ab4)
       obtain ⟨p522, q522, A522_3, c522_3, A522_6, c522_6, hx522_0, hx522_1, hx522_2, hx522_3, hx522_4, hx522_5, hx522_6, HC522_3, HR522_3, HC522_6, HR522_6⟩ := agT53 HB HR0.out x5_1 (of_decide_eq_true ab4) (of_decide_eq_true ab4)
       obtain ⟨rfl, rfl⟩ := sl_ hx521_3 hx522_3
       obtain ⟨rfl, rfl⟩ := sl_ hx521_6 hx522_6
       try go_wp2
       replace HB := am (below_drew1 HB.out)
       obtain ⟨p523, q523, A523_3, c523_3, A523_6, c523_6, hx523_0, hx523_1, hx523_2, hx523_3, hx523_4, hx523_5, hx523_6, HC523_3, HR523_3, HC523_6, HR523_6, hw523⟩ := ahT53 HB HR0.out x5_1 (of_decide_eq_true ab4) (of_decide_eq_true ab4)
       refine start_ (n := 8) (ds := []) #[false, false, false, false, false, false, false, false] (by kernel_rfl) rfl rfl (spT53 HB hw523 tr_ :) (fun hHeld => ?_); refine with_tabW laws_heldItemS.tab10 laws_heldItemS.bits10 (fun HT_ HW_ => ?_)
       generalize wr.drew = w39 at HB HR523_3 HR523_6 hx523_0 hx523_1 hx523_2 hx523_3 hx523_4 hx523_5 hx523_6 hHeld ⊢
       refine pa_ 0 30 HT_ ?_
       refine pa_ 1 31 HT_ ?_
       refine pa_ 2 32 HT_ ?_
       refine pa_ 3 33 HT_ ?_
       refine pa_ 5 35 HT_ ?_
       refine tk_ 4 34 HT_ HW_ hHeld ?_
       refine on_ 6 36 HT_ fun K hK => ?_
       refine goes_ Tryz.func40 (by kernel_rfl) rfl #[.int .i64 (wrap64 ((wrap64 (x1_1 + 1)) + 1))] (by rfl) rfl rfl ab5 ?_
       with_reducible refine (laws_markText.calls k1 (wrap64 ((wrap64 (x1_1 + 1)) + 1)) t524 _ A7.out).mono ?_
       rintro e w40 ⟨rfl, hb⟩
       refine ⟨_, rfl, ?_⟩
       replace HB := am (below_step ab1 hb)
       (try clear hb)
       refine hK.out _ _ (spT53 HB hw523 tr_ :) (fun hHeld => ?_)
       clear hK K
       refine nm_ ?_
       refine pa_ 7 37 HT_ ?_
       refine dn_ HT_ ?_
       (try clear hHeld)
       try go_wp2
       go_ret
       exact ⟨ab7, ab1⟩
     ·obtain rfl := Option.some.inj H
      obtain ⟨p521, q521, ad521, A521_3, c521_3, A521_6, c521_6, rfl, hx521_0, hx521_1, hx521_2, hx521_3, hx521_4, hx521_5, hx521_6, HC521_3, HR521_3, HC521_6, HR521_6⟩ := otT53 HB HR0.out x5_1 (of_decide_eq_true ab4) (of_decide_eq_true ab4)
      obtain ⟨p522, q522, A522_3, c522_3, A522_6, c522_6, hx522_0, hx522_1, hx522_2, hx522_3, hx522_4, hx522_5, hx522_6, HC522_3, HR522_3, HC522_6, HR522_6⟩ := agT53 HB HR0.out x5_1 (of_decide_eq_true ab4) (of_decide_eq_true ab4)
      obtain ⟨rfl, rfl⟩ := sl_ hx521_3 hx522_3
      obtain ⟨rfl, rfl⟩ := sl_ hx521_6 hx522_6
      go_wp2
      go_ret
      exact ⟨ab7, ab1⟩
    ·obtain rfl := Option.some.inj H
     obtain ⟨p521, q521, ad521, A521_3, c521_3, A521_6, c521_6, rfl, hx521_0, hx521_1, hx521_2, hx521_3, hx521_4, hx521_5, hx521_6, HC521_3, HR521_3, HC521_6, HR521_6⟩ := otT53 HB HR0.out x5_1 (of_decide_eq_true ab4) (of_decide_eq_true ab4)
     go_wp2
     go_ret
     exact ⟨ab7, ab1⟩
   ·obtain rfl := Option.some.inj H
    go_wp2
    go_ret
    exact ⟨ab7, ab1⟩
def laws_heldPage.f (k : Nat) (l0_0 : List (S53)) (l0_1 : List Int) (l0_2 : List Int) (a0_3 : Int) (a0_4 : Int) (a1 : Int) : Option (Int) := (laws_heldItemS.f k l0_0 a1).bind fun t533 => (if t533 < 0 then (some (-1)) else ((laws_heldIntS.f k l0_1 t533).bind fun t534 => (if t534 < 0 then (some (-1)) else ((laws_heldIntS.f k l0_2 t534).bind fun t535 => (if t535 < 0 then (some (-1)) else (some t535))))))
theorem laws_heldPage.calls (k : Nat) (A0_0 : Option Addr) (c0_0 : Nat) (l0_0 : List (S53)) (A0_1 : Option Addr) (c0_1 : Nat) (l0_1 : List Int) (A0_2 : Option Addr) (c0_2 : Nat) (l0_2 : List Int) (a0_3 : Int) (a0_4 : Int) (a1 : Int) (r : Int) (w : World) (hr0_0 : Kd.C k53 w A0_0 l0_0.length l0_0) (hc0_0 : l0_0.length ≤ c0_0) (hr0_1 : Kd.C (Kd.int .i64) w A0_1 l0_1.length l0_1) (hc0_1 : l0_1.length ≤ c0_1) (hr0_2 : Kd.C (Kd.int .i64) w A0_2 l0_2.length l0_2) (hc0_2 : l0_2.length ≤ c0_2) (h : laws_heldPage.f k l0_0 l0_1 l0_2 a0_3 a0_4 a1 = some r) :
  Calls Tryz.prog 16 #[.agg #[.slice A0_0 l0_0.length c0_0, .slice A0_1 l0_1.length c0_1, .slice A0_2 l0_2.length c0_2, .int .i64 a0_3, .int .i64 a0_4], .int .i64 a1] w fun e w' => e = .returned (.int .i64 r) ∧ Below w.heap.size w w' := by
 have hu31 := Tryz.underlying31
 have HR0_0 := am hr0_0
 have HC0_0 := am hc0_0
 clear hr0_0 hc0_0
 have HR0_1 := am hr0_1
 have HC0_1 := am hc0_1
 clear hr0_1 hc0_1
 have HR0_2 := am hr0_2
 have HC0_2 := am hc0_2
 clear hr0_2 hc0_2
 have HB := am (Below.refl w.heap.size w)
 have H : ((laws_heldItemS.f k l0_0 a1).bind fun t533 => (if t533 < 0 then (some (-1)) else ((laws_heldIntS.f k l0_1 t533).bind fun t534 => (if t534 < 0 then (some (-1)) else ((laws_heldIntS.f k l0_2 t534).bind fun t535 => (if t535 < 0 then (some (-1)) else (some t535))))))) = some r := h
 clear h
 replace H := bi_ H; obtain ⟨t533, A3, H⟩ := H
 replace H := ir_ H; rcases H with ⟨c4b0, H⟩ | ⟨c4b0, H⟩
 ·obtain rfl := Option.some.inj H
  go_enter Tryz.func16, Tryz.ntmps16
  go_wp2_with (first | ((with_reducible refine gd_ 2 ?_); refine bx_ 2 (cs := #[.slice A0_0 l0_0.length c0_0, .slice A0_1 l0_1.length c0_1, .slice A0_2 l0_2.length c0_2, .int .i64 a0_3, .int .i64 a0_4]) 31 ?_; intro gb532 hg w5 hbox hb; have BK532 := am hbox; have GW532 := ge_ (w := w) hg; have GE532 := ge_ (w := w) hg; replace HB := am (below_step ab1 hb); clear hb hbox hg; obtain ⟨⟨_, _, _, _, _⟩, _, _, _, _, _⟩ := Op.cells5 BK532.out) | ((with_reducible refine gf_ 41 ?_); refine gc_ Tryz.func41 (laws_heldItemS.calls k _ _ l0_0 a1 t533 _ (sc_ HR0_0) HC0_0.out A3.out) ?_; rintro w7 hb; replace BK532 := bl_ BK532 hb; replace HB := am (below_step (ab2 GE532) hb); (try clear hb)))
  go_ret
  exact ⟨ab7, ab2 GE532⟩
 ·replace H := bi_ H; obtain ⟨t534, A8, H⟩ := H
  replace H := ir_ H; rcases H with ⟨c9b0, H⟩ | ⟨c9b0, H⟩
  ·obtain rfl := Option.some.inj H
   go_enter Tryz.func16, Tryz.ntmps16
   go_wp2_with (first | ((with_reducible refine gd_ 2 ?_); refine bx_ 2 (cs := #[.slice A0_0 l0_0.length c0_0, .slice A0_1 l0_1.length c0_1, .slice A0_2 l0_2.length c0_2, .int .i64 a0_3, .int .i64 a0_4]) 31 ?_; intro gb532 hg w10 hbox hb; have BK532 := am hbox; have GW532 := ge_ (w := w) hg; have GE532 := ge_ (w := w) hg; replace HB := am (below_step ab1 hb); clear hb hbox hg; obtain ⟨⟨_, _, _, _, _⟩, _, _, _, _, _⟩ := Op.cells5 BK532.out) | ((with_reducible refine gf_ 41 ?_); refine gc_ Tryz.func41 (laws_heldItemS.calls k _ _ l0_0 a1 t533 _ (sc_ HR0_0) HC0_0.out A3.out) ?_; rintro w12 hb; replace BK532 := bl_ BK532 hb; replace HB := am (below_step (ab2 GE532) hb); (try clear hb); obtain ⟨⟨_, _, _, _, _⟩, _, _, _, _, _⟩ := Op.cells5 BK532.out) | ((with_reducible refine gf_ 42 ?_); refine gc_ Tryz.func42 (laws_heldIntS.calls k _ _ l0_1 t533 t534 _ (sc_ HR0_1) HC0_1.out A8.out) ?_; rintro w' ⟨nd, rfl⟩))
   go_ret
   exact ⟨ab7, ab2 GE532⟩
  ·replace H := bi_ H; obtain ⟨t535, A14, H⟩ := H
   replace H := ir_ H; rcases H with ⟨c15b0, H⟩ | ⟨c15b0, H⟩
   ·obtain rfl := Option.some.inj H
    go_enter Tryz.func16, Tryz.ntmps16
    go_wp2_with (first | ((with_reducible refine gd_ 2 ?_); refine bx_ 2 (cs := #[.slice A0_0 l0_0.length c0_0, .slice A0_1 l0_1.length c0_1, .slice A0_2 l0_2.length c0_2, .int .i64 a0_3, .int .i64 a0_4]) 31 ?_; intro gb532 hg w16 hbox hb; have BK532 := am hbox; have GW532 := ge_ (w := w) hg; have GE532 := ge_ (w := w) hg; replace HB := am (below_step ab1 hb); clear hb hbox hg; obtain ⟨⟨_, _, _, _, _⟩, _, _, _, _, _⟩ := Op.cells5 BK532.out) | ((with_reducible refine gf_ 41 ?_); refine gc_ Tryz.func41 (laws_heldItemS.calls k _ _ l0_0 a1 t533 _ (sc_ HR0_0) HC0_0.out A3.out) ?_; rintro w18 hb; replace BK532 := bl_ BK532 hb; replace HB := am (below_step (ab2 GE532) hb); (try clear hb); obtain ⟨⟨_, _, _, _, _⟩, _, _, _, _, _⟩ := Op.cells5 BK532.out) | ((with_reducible refine gf_ 42 ?_); refine gc_ Tryz.func42 (laws_heldIntS.calls k _ _ l0_1 t533 t534 _ (sc_ HR0_1) HC0_1.out A8.out) ?_; rintro w' ⟨nd, rfl⟩) | ((with_reducible refine gf_ 42 ?_); refine gc_ Tryz.func42 (laws_heldIntS.calls k _ _ l0_2 t534 t535 _ ?side1 HC0_2.out A14.out) ?_; (case side1 => exact (by repeat (first | exact (Kd.C_below HR0_2.out (ab2 GE532)) | (with_reducible refine Kd.C_alloc ?_ _) | (with_reducible refine Kd.C_drewN ?_ _) | (with_reducible refine Kd.C_drew ?_)))); rintro w' ⟨nd, rfl⟩))
    go_ret
    exact ⟨ab7, ab2 GE532⟩
   ·obtain rfl := Option.some.inj H
    go_enter Tryz.func16, Tryz.ntmps16
    go_wp2_with (first | ((with_reducible refine gd_ 2 ?_); refine bx_ 2 (cs := #[.slice A0_0 l0_0.length c0_0, .slice A0_1 l0_1.length c0_1, .slice A0_2 l0_2.length c0_2, .int .i64 a0_3, .int .i64 a0_4]) 31 ?_; intro gb532 hg w20 hbox hb; have BK532 := am hbox; have GW532 := ge_ (w := w) hg; have GE532 := ge_ (w := w) hg; replace HB := am (below_step ab1 hb); clear hb hbox hg; obtain ⟨⟨_, _, _, _, _⟩, _, _, _, _, _⟩ := Op.cells5 BK532.out) | ((with_reducible refine gf_ 41 ?_); refine gc_ Tryz.func41 (laws_heldItemS.calls k _ _ l0_0 a1 t533 _ (sc_ HR0_0) HC0_0.out A3.out) ?_; rintro w22 hb; replace BK532 := bl_ BK532 hb; replace HB := am (below_step (ab2 GE532) hb); (try clear hb); obtain ⟨⟨_, _, _, _, _⟩, _, _, _, _, _⟩ := Op.cells5 BK532.out) | ((with_reducible refine gf_ 42 ?_); refine gc_ Tryz.func42 (laws_heldIntS.calls k _ _ l0_1 t533 t534 _ (sc_ HR0_1) HC0_1.out A8.out) ?_; rintro w' ⟨nd, rfl⟩) | ((with_reducible refine gf_ 42 ?_); refine gc_ Tryz.func42 (laws_heldIntS.calls k _ _ l0_2 t534 t535 _ ?side1 HC0_2.out A14.out) ?_; (case side1 => exact (by repeat (first | exact (Kd.C_below HR0_2.out (ab2 GE532)) | (with_reducible refine Kd.C_alloc ?_ _) | (with_reducible refine Kd.C_drewN ?_ _) | (with_reducible refine Kd.C_drew ?_)))); rintro w' ⟨nd, rfl⟩))
    go_ret
    exact ⟨ab7, ab2 GE532⟩
theorem bu_Contains (s sub : ByteArray) (b : Bool) (m : Int) (w : World) (h : Lib.contains s.data.toList sub.data.toList = b) (hs : s.size ≤ 100000000) (hm : w.cell? ⟨0, 0, none⟩ = some (.int .i64 m)) :
  Calls Tryz.prog 116 #[.string s, .string sub] w fun e w' => e = .returned (.bool b) ∧ w' = w := by
 subst h
 exact Tryz.strings_Contains s sub m w (by omega) hm
def strings_Contains.f (a0 a1 : ByteArray) : Option Bool := if a0.size ≤ 100000000 then some (Lib.contains a0.data.toList a1.data.toList) else none
theorem strings_Contains.calls (a0 a1 : ByteArray) (r : Bool) (w : World) (M_ : Int) (hm_ : w.cell? ⟨0, 0, none⟩ = some (.int .i64 M_)) (h : strings_Contains.f a0 a1 = some r) :
  Calls Tryz.prog 116 #[.string a0, .string a1] w fun e w' => e = .returned (.bool r) ∧ Drawn0 w w' := by
 unfold strings_Contains.f at h
 by_cases hs : a0.size ≤ 100000000
 ·rw [if_pos hs] at h
  exact (bu_Contains a0 a1 r M_ w (Option.some.inj h) hs hm_).mono fun e w' ⟨he, hw⟩ => ⟨he, by rw [hw]; exact Drawn0.refl _⟩
 ·rw [if_neg hs] at h; cases h
end Go.Proofs.YtekkalnafngfeaaGreat.P
