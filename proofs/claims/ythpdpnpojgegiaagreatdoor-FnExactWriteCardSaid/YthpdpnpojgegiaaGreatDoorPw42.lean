-- WRITTEN BY hprint.py
import Derived.Test.YthpdpnpojgegiaaGreatDoorPw0
namespace Go.Proofs.YthpdpnpojgegiaaGreatDoor.P
open Go.RowKit Go.Proofs.YthpdpnpojgegiaaGreatDoorW.PrintWords Go.Proofs.YthpdpnpojgegiaaGreatDoorW.PrintLast Go.Proofs.YthpdpnpojgegiaaGreatDoorW.PrintMore
attribute [local go_sem] max2_int min2_int max_two min_two max_three min_three max_four min_four
set_option linter.unusedVariables false
set_option linter.unusedSimpArgs false
set_option maxHeartbeats 8000000
set_option maxRecDepth 100000

/-! ### laws_eqAttr: function 36 -/
def laws_eqAttr.f (a0_0 : ByteArray) (a0_1 : ByteArray) (a1_0 : ByteArray) (a1_1 : ByteArray) : Option (Bool) := if a0_0.toList = a1_0.toList then (if a0_1.toList = a1_1.toList then (some true) else (some false)) else (some false)
theorem laws_eqAttr.calls (a0_0 : ByteArray) (a0_1 : ByteArray) (a1_0 : ByteArray) (a1_1 : ByteArray) (r : Bool) (w : World) (h : laws_eqAttr.f a0_0 a0_1 a1_0 a1_1 = some r) :
  Calls Tryz.prog 36 #[.agg #[.string a0_0, .string a0_1], .agg #[.string a1_0, .string a1_1]] w fun e w' => e = .returned (.bool r) ∧ Below w.heap.size w w' := by
 have hu62 := Tryz.underlying62
 have HB := am (Below.refl w.heap.size w)
 have H : (if a0_0.toList = a1_0.toList then (if a0_1.toList = a1_1.toList then (some true) else (some false)) else (some false)) = some r := h
 clear h
 replace H := ie_ H; rcases H with ⟨c3b0, c3b1, H⟩ | ⟨c3, c3b0, c3b1, H⟩
 ·replace H := ie_ H; rcases H with ⟨c4b0, c4b1, H⟩ | ⟨c4, c4b0, c4b1, H⟩
  ·obtain rfl := Option.some.inj H
   go_enter Tryz.func36, Tryz.ntmps36
   go_wp2_with (first | ((with_reducible refine gd_ 2 ?_); refine bx_ 2 (cs := #[.string a0_0, .string a0_1]) 62 ?_; intro gb397 hg w5 hbox hb; have BK397 := am hbox; have GW397 := ge_ (w := w) hg; have GE397 := ge_ (w := w) hg; replace HB := am (below_step ab1 hb); clear hb hbox hg) | ((with_reducible refine gd_ 3 ?_); refine bx_ 3 (cs := #[.string a1_0, .string a1_1]) 62 ?_; intro gb398 hg w6 hbox hb; have BK398 := am hbox; have GW398 := gE_ (w := w) GE397 hg; have GE398 := gE_ (w := w) GE397 hg; replace HB := am (below_step (ab2 GE397) hb); have NB397_398 := nl_ BK397 hg; have NB398_397 := ng_ BK397 hg; replace BK397 := bl_ BK397 hb; clear hb hbox hg; have hnb7 := NB397_398.out; have hnc7 := NB398_397.out; obtain ⟨⟨_, _⟩, _, _⟩ := Op.cells2 BK397.out; obtain ⟨⟨_, _⟩, _, _⟩ := Op.cells2 BK398.out))
   go_ret
   exact ⟨ab7, ba_⟩
  ·obtain rfl := Option.some.inj H
   go_enter Tryz.func36, Tryz.ntmps36
   go_wp2_with (first | ((with_reducible refine gd_ 2 ?_); refine bx_ 2 (cs := #[.string a0_0, .string a0_1]) 62 ?_; intro gb397 hg w10 hbox hb; have BK397 := am hbox; have GW397 := ge_ (w := w) hg; have GE397 := ge_ (w := w) hg; replace HB := am (below_step ab1 hb); clear hb hbox hg) | ((with_reducible refine gd_ 3 ?_); refine bx_ 3 (cs := #[.string a1_0, .string a1_1]) 62 ?_; intro gb398 hg w11 hbox hb; have BK398 := am hbox; have GW398 := gE_ (w := w) GE397 hg; have GE398 := gE_ (w := w) GE397 hg; replace HB := am (below_step (ab2 GE397) hb); have NB397_398 := nl_ BK397 hg; have NB398_397 := ng_ BK397 hg; replace BK397 := bl_ BK397 hb; clear hb hbox hg; have hnb12 := NB397_398.out; have hnc12 := NB398_397.out; obtain ⟨⟨_, _⟩, _, _⟩ := Op.cells2 BK397.out; obtain ⟨⟨_, _⟩, _, _⟩ := Op.cells2 BK398.out))
   go_ret
   exact ⟨ab7, ba_⟩
 ·obtain rfl := Option.some.inj H
  go_enter Tryz.func36, Tryz.ntmps36
  go_wp2_with (first | ((with_reducible refine gd_ 2 ?_); refine bx_ 2 (cs := #[.string a0_0, .string a0_1]) 62 ?_; intro gb397 hg w15 hbox hb; have BK397 := am hbox; have GW397 := ge_ (w := w) hg; have GE397 := ge_ (w := w) hg; replace HB := am (below_step ab1 hb); clear hb hbox hg) | ((with_reducible refine gd_ 3 ?_); refine bx_ 3 (cs := #[.string a1_0, .string a1_1]) 62 ?_; intro gb398 hg w16 hbox hb; have BK398 := am hbox; have GW398 := gE_ (w := w) GE397 hg; have GE398 := gE_ (w := w) GE397 hg; replace HB := am (below_step (ab2 GE397) hb); have NB397_398 := nl_ BK397 hg; have NB398_397 := ng_ BK397 hg; replace BK397 := bl_ BK397 hb; clear hb hbox hg; have hnb17 := NB397_398.out; have hnc17 := NB398_397.out; obtain ⟨⟨_, _⟩, _, _⟩ := Op.cells2 BK397.out; obtain ⟨⟨_, _⟩, _, _⟩ := Op.cells2 BK398.out))
  go_ret
  exact ⟨ab7, ba_⟩

/-! ### laws_eqAttrS: function 22 -/
def laws_eqAttrS.l0 : Nat → List (S62) → List (S62) → Int → Option (Bool)
 | 0, _, _, _ => none
 | k + 1, x0, x1, x5 => if x5 < (x0.length : Int) then (if 0 ≤ x5 then (if x5 < (x1.length : Int) then ((laws_eqAttr.f ((rd_T62 x0 x5).f0) ((rd_T62 x0 x5).f1) ((rd_T62 x1 x5).f0) ((rd_T62 x1 x5).f1)).bind fun t401 => (if t401 = true then (laws_eqAttrS.l0 k x0 x1 (wrap64 (x5 + 1))) else (some false))) else (none)) else (none)) else (some true)
def laws_eqAttrS.f (k : Nat) (l0 : List (S62)) (l1 : List (S62)) : Option (Bool) := if (l0.length : Int) = (l1.length : Int) then (laws_eqAttrS.l0 k l0 l1 0) else (some false)
theorem laws_eqAttrS.mono_l : ∀ k, (∀ y0 y1 y2, LeO (laws_eqAttrS.l0 k y0 y1 y2) (laws_eqAttrS.l0 (k + 1) y0 y1 y2))
 | 0 => fun _ _ _ r h => by simp [laws_eqAttrS.l0] at h
 | k + 1 => by
  have ih0 := laws_eqAttrS.mono_l k
  ·intro y0 y1 y2
   unfold laws_eqAttrS.l0
   repeat' with_reducible first | exact ih0 _ _ _ | exact LeO.refl _ | exact LeO.none _ | refine LeO.ite ?_ ?_ | refine LeO.bind ?_ fun _ => ?_
theorem laws_eqAttrS.mono : ∀ a0 a1 k, LeO (laws_eqAttrS.f k a0 a1) (laws_eqAttrS.f (k + 1) a0 a1) := by
 intro a0 a1 k
 have ih0 := laws_eqAttrS.mono_l k
 unfold laws_eqAttrS.f
 repeat' with_reducible first | exact ih0 _ _ _ | exact LeO.refl _ | exact LeO.none _ | refine LeO.ite ?_ ?_ | refine LeO.bind ?_ fun _ => ?_
def laws_eqAttrS.T6 : Bool × List (List Nat × List Nat) := (true, [([], []), ([], []), ([0, 1], [0, 1]), ([2], [2]), ([], []), ([], []), ([4, 5], [4, 5]), ([6], [6]), ([3, 7], [3, 7]), ([8], [8])])
def laws_eqAttrS.B6 : List Nat := [0, 0, 3, 7, 0, 0, 48, 112, 255, 511]
theorem laws_eqAttrS.tab6 : rtab .any (opsOf Tryz.f22 6) = laws_eqAttrS.T6 := by kernel_rfl
theorem laws_eqAttrS.bits6 : waitsOk laws_eqAttrS.T6.2 laws_eqAttrS.B6 = true := by kernel_rfl
theorem laws_eqAttrS.calls (k : Nat) (A0 : Option Addr) (c0 : Nat) (l0 : List (S62)) (A1 : Option Addr) (c1 : Nat) (l1 : List (S62)) (r : Bool) (w : World) (hr0 : Kd.C k62 w A0 l0.length l0) (hc0 : l0.length ≤ c0) (hr1 : Kd.C k62 w A1 l1.length l1) (hc1 : l1.length ≤ c1) (h : laws_eqAttrS.f k l0 l1 = some r) :
  Calls Tryz.prog 22 #[.slice A0 l0.length c0, .slice A1 l1.length c1] w fun e w' => e = .returned (.bool r) ∧ Below w.heap.size w w' := by
 have hu62 := Tryz.underlying62
 have HR0 := am hr0
 have HC0 := am hc0
 clear hr0 hc0
 have HR1 := am hr1
 have HC1 := am hc1
 clear hr1 hc1
 have HB := am (Below.refl w.heap.size w)
 have H : (if (l0.length : Int) = (l1.length : Int) then (laws_eqAttrS.l0 k l0 l1 0) else (some false)) = some r := h
 clear h
 by_cases c3 : (l0.length : Int) = (l1.length : Int)
 ·rw [if_pos c3] at H
  have c3b0 : ((l0.length : Int) == (l1.length : Int)) = true := beq_iff_eq.mpr c3
  have c3b1 : ((l0.length : Int) != (l1.length : Int)) = false := bne_eq_false_iff_eq.mpr c3
  have c3b2 : (l0.length == l1.length) = true := by first | simpa using c3 | (simp at c3 ⊢; omega)
  clear c3
  have H' := am H
  clear H
  go_enter Tryz.func22, Tryz.ntmps22
  go_wp2
  go_loopg [5] k (fun kq v5 w' => ∃ (x5_1 : Int), v5 = .int .i64 x5_1 ∧ Aside0 (laws_eqAttrS.l0 kq l0 l1 x5_1 = some r) ∧ Aside0 (kq ≤ k) ∧ Aside0 (Below w.heap.size w w'))
  case atStart => exact ⟨(0), ab6, H', ⟨Nat.le_refl _⟩, ⟨ab1⟩⟩
  case round =>
   clear H'
   (try clear c1); (try clear c2); (try clear p2); (try clear c3); (try clear c3b0); (try clear c3b1); (try clear c3b2)
   obtain ⟨x5_1, rfl, HA, HK1, HB⟩ := hrel
   cases gk with
   | zero => exact absurd HA.out (by simp [laws_eqAttrS.l0])
   | succ k1 =>
    have H := HA.out
    clear HA
    simp only [laws_eqAttrS.l0] at H
    replace H := ir_ H; rcases H with ⟨c4b0, H⟩ | ⟨c4b0, H⟩
    ·replace H := iq_ H; obtain ⟨c5b0, H⟩ := H
     replace H := iq_ H; obtain ⟨c6b0, H⟩ := H
     replace H := bi_ H; obtain ⟨t401, A7, H⟩ := H
     replace H := ib_ H; rcases H with ⟨rfl, H⟩ | ⟨rfl, H⟩
     ·have H' := am H
      clear H
      try go_wp2
      replace HB := am (below_drew1 HB.out)
      have p399 : 0 ≤ (x5_1 : Int) := of_decide_eq_true ab4
      have q399 : x5_1 < (l0.length : Int) := of_decide_eq_true ab4
      obtain ⟨ad399, e399, hx399_0, hx399_1⟩ := at_T62 HR0.out x5_1 p399 q399
      have hw399_1 := hx399_1
      have hw399_0 := hx399_0
      cases e399
      replace hx399_0 := pc_ HB hx399_0
      replace hx399_1 := pc_ HB hx399_1
      replace p399 := eq_true p399
      replace q399 := eq_true q399
      have p400 : 0 ≤ (x5_1 : Int) := of_decide_eq_true ab4
      have q400 : x5_1 < (l1.length : Int) := of_decide_eq_true ab4
      obtain ⟨ad400, e400, hx400_0, hx400_1⟩ := at_T62 HR1.out x5_1 p400 q400
      have hw400_1 := hx400_1
      have hw400_0 := hx400_0
      cases e400
      replace hx400_0 := pc_ HB hx400_0
      replace hx400_1 := pc_ HB hx400_1
      replace p400 := eq_true p400
      replace q400 := eq_true q400
      refine start_ (n := 10) (S := fun w' => w'.cell? (ad399.add ((x5_1).toNat * 2)) = some (.string ((rd_T62 l0 x5_1).f0)) ∧ w'.cell? ⟨(ad399.add ((x5_1).toNat * 2)).block, (ad399.add ((x5_1).toNat * 2)).off + 1, none⟩ = some (.string ((rd_T62 l0 x5_1).f1)) ∧ w'.cell? (ad400.add ((x5_1).toNat * 2)) = some (.string ((rd_T62 l1 x5_1).f0)) ∧ w'.cell? ⟨(ad400.add ((x5_1).toNat * 2)).block, (ad400.add ((x5_1).toNat * 2)).off + 1, none⟩ = some (.string ((rd_T62 l1 x5_1).f1))) (ds := []) #[false, false, false, false, false, false, false, false, false, false] (by kernel_rfl) rfl rfl ⟨(pc_ HB hw399_0 :), (pc_ HB hw399_1 :), (pc_ HB hw400_0 :), (pc_ HB hw400_1 :)⟩ (fun hHeld => ?_); refine with_tabW laws_eqAttrS.tab6 laws_eqAttrS.bits6 (fun HT_ HW_ => ?_)
      generalize wr.drew = w9 at HB hx399_0 hx399_1 hx400_0 hx400_1 hHeld ⊢
      refine pa_ 0 17 HT_ ?_
      refine pa_ 1 18 HT_ ?_
      refine pa_ 2 19 HT_ ?_
      refine pa_ 4 21 HT_ ?_
      refine pa_ 5 22 HT_ ?_
      refine pa_ 6 23 HT_ ?_
      refine tk_ 3 20 HT_ HW_ hHeld ?_
      refine tk_ 7 24 HT_ HW_ hHeld ?_
      refine on_ 8 25 HT_ fun K hK => ?_
      refine goes_ Tryz.func36 (by kernel_rfl) rfl #[.agg #[.string ((rd_T62 l0 x5_1).f0), .string ((rd_T62 l0 x5_1).f1)], .agg #[.string ((rd_T62 l1 x5_1).f0), .string ((rd_T62 l1 x5_1).f1)]] (by rfl) rfl rfl ab5 ?_
      with_reducible refine (laws_eqAttr.calls ((rd_T62 l0 x5_1).f0) ((rd_T62 l0 x5_1).f1) ((rd_T62 l1 x5_1).f0) ((rd_T62 l1 x5_1).f1) true _ A7.out).mono ?_
      rintro e w10 ⟨rfl, hb⟩
      refine ⟨_, rfl, ?_⟩
      replace HB := am (below_step ab1 hb)
      (try clear hb)
      (try clear hb2)
      (try clear hk)
      (try clear hi)
      refine hK.out _ _ ⟨(pc_ HB hw399_0 :), (pc_ HB hw399_1 :), (pc_ HB hw400_0 :), (pc_ HB hw400_1 :)⟩ (fun hHeld => ?_)
      clear hK K
      refine nm_ ?_
      refine pa_ 9 26 HT_ ?_
      refine dn_ HT_ ?_
      try go_wp2
      go_roundg k1
      case measure => have := HK1.out; omega
      case rel => exact ⟨(wrap64 (x5_1 + 1)), ab6, H', ⟨by have := HK1.out; omega⟩, ⟨ab1⟩⟩
     ·obtain rfl := Option.some.inj H
      try go_wp2
      replace HB := am (below_drew1 HB.out)
      have p399 : 0 ≤ (x5_1 : Int) := of_decide_eq_true ab4
      have q399 : x5_1 < (l0.length : Int) := of_decide_eq_true ab4
      obtain ⟨ad399, e399, hx399_0, hx399_1⟩ := at_T62 HR0.out x5_1 p399 q399
      have hw399_1 := hx399_1
      have hw399_0 := hx399_0
      cases e399
      replace hx399_0 := pc_ HB hx399_0
      replace hx399_1 := pc_ HB hx399_1
      replace p399 := eq_true p399
      replace q399 := eq_true q399
      have p400 : 0 ≤ (x5_1 : Int) := of_decide_eq_true ab4
      have q400 : x5_1 < (l1.length : Int) := of_decide_eq_true ab4
      obtain ⟨ad400, e400, hx400_0, hx400_1⟩ := at_T62 HR1.out x5_1 p400 q400
      have hw400_1 := hx400_1
      have hw400_0 := hx400_0
      cases e400
      replace hx400_0 := pc_ HB hx400_0
      replace hx400_1 := pc_ HB hx400_1
      replace p400 := eq_true p400
      replace q400 := eq_true q400
      refine start_ (n := 10) (S := fun w' => w'.cell? (ad399.add ((x5_1).toNat * 2)) = some (.string ((rd_T62 l0 x5_1).f0)) ∧ w'.cell? ⟨(ad399.add ((x5_1).toNat * 2)).block, (ad399.add ((x5_1).toNat * 2)).off + 1, none⟩ = some (.string ((rd_T62 l0 x5_1).f1)) ∧ w'.cell? (ad400.add ((x5_1).toNat * 2)) = some (.string ((rd_T62 l1 x5_1).f0)) ∧ w'.cell? ⟨(ad400.add ((x5_1).toNat * 2)).block, (ad400.add ((x5_1).toNat * 2)).off + 1, none⟩ = some (.string ((rd_T62 l1 x5_1).f1))) (ds := []) #[false, false, false, false, false, false, false, false, false, false] (by kernel_rfl) rfl rfl ⟨(pc_ HB hw399_0 :), (pc_ HB hw399_1 :), (pc_ HB hw400_0 :), (pc_ HB hw400_1 :)⟩ (fun hHeld => ?_); refine with_tabW laws_eqAttrS.tab6 laws_eqAttrS.bits6 (fun HT_ HW_ => ?_)
      generalize wr.drew = w11 at HB hx399_0 hx399_1 hx400_0 hx400_1 hHeld ⊢
      refine pa_ 0 17 HT_ ?_
      refine pa_ 1 18 HT_ ?_
      refine pa_ 2 19 HT_ ?_
      refine pa_ 4 21 HT_ ?_
      refine pa_ 5 22 HT_ ?_
      refine pa_ 6 23 HT_ ?_
      refine tk_ 3 20 HT_ HW_ hHeld ?_
      refine tk_ 7 24 HT_ HW_ hHeld ?_
      refine on_ 8 25 HT_ fun K hK => ?_
      refine goes_ Tryz.func36 (by kernel_rfl) rfl #[.agg #[.string ((rd_T62 l0 x5_1).f0), .string ((rd_T62 l0 x5_1).f1)], .agg #[.string ((rd_T62 l1 x5_1).f0), .string ((rd_T62 l1 x5_1).f1)]] (by rfl) rfl rfl ab5 ?_
      with_reducible refine (laws_eqAttr.calls ((rd_T62 l0 x5_1).f0) ((rd_T62 l0 x5_1).f1) ((rd_T62 l1 x5_1).f0) ((rd_T62 l1 x5_1).f1) false _ A7.out).mono ?_
      rintro e w12 ⟨rfl, hb⟩
      refine ⟨_, rfl, ?_⟩
      replace HB := am (below_step ab1 hb)
      (try clear hb)
      (try clear hb2)
      (try clear hk)
      (try clear hi)
      refine hK.out _ _ ⟨(pc_ HB hw399_0 :), (pc_ HB hw399_1 :), (pc_ HB hw400_0 :), (pc_ HB hw400_1 :)⟩ (fun hHeld => ?_)
      clear hK K
      refine nm_ ?_
      refine pa_ 9 26 HT_ ?_
      refine dn_ HT_ ?_
      try go_wp2
      go_ret
      exact ⟨ab7, ab1⟩
    ·obtain rfl := Option.some.inj H
     go_wp2
     go_ret
     exact ⟨ab7, ab1⟩
 ·rw [if_neg c3] at H
  have c3b0 : ((l0.length : Int) == (l1.length : Int)) = false := beq_eq_false_iff_ne.mpr c3
  have c3b1 : ((l0.length : Int) != (l1.length : Int)) = true := bne_iff_ne.mpr c3
  have c3b2 : (l0.length == l1.length) = false := by first | simpa using c3 | (simp at c3 ⊢; omega)
  obtain rfl := Option.some.inj H
  go_enter Tryz.func22, Tryz.ntmps22
  go_wp2
  go_ret
  exact ⟨ab7, ab1⟩

end Go.Proofs.YthpdpnpojgegiaaGreatDoor.P
