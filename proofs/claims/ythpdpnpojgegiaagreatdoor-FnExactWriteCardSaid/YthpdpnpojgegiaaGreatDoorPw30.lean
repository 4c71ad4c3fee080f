-- WRITTEN BY hprint.py
import Derived.Test.YthpdpnpojgegiaaGreatDoorPw0
import Derived.Test.YthpdpnpojgegiaaGreatDoorPw18
import Derived.Test.YthpdpnpojgegiaaGreatDoorPw28
import Derived.Test.YthpdpnpojgegiaaGreatDoorPw29
namespace Go.Proofs.YthpdpnpojgegiaaGreatDoor.P
open Go.RowKit Go.Proofs.YthpdpnpojgegiaaGreatDoorW.PrintWords Go.Proofs.YthpdpnpojgegiaaGreatDoorW.PrintLast Go.Proofs.YthpdpnpojgegiaaGreatDoorW.PrintMore
attribute [local go_sem] max2_int min2_int max_two min_two max_three min_three max_four min_four
set_option linter.unusedVariables false
set_option linter.unusedSimpArgs false
set_option maxHeartbeats 8000000
set_option maxRecDepth 100000

/-! ### impl_strictAttrs: function 52 -/
def impl_strictAttrs.l0 : Nat → List (S62) → List (S62) → Int → Int → Option (Bool)
 | 0, _, _, _, _ => none
 | k + 1, x0, x5, x6, x7 => if x7 < x6 then (if 0 ≤ x7 then (if x7 < (x5.length : Int) then ((impl_NameOk.f k ((rd_T62 x5 x7).f0)).bind fun t376 => (if t376 = true then (if ((rd_T62 x5 x7).f0).toList = ([120, 109, 108, 110, 115] : List UInt8) then (some false) else (if x7 ≤ (x0.length : Int) then ((impl_hasAttr.f (x0.take (x7 : Int).toNat) ((rd_T62 x5 x7).f0)).bind fun t381 => (if t381 = true then (some false) else ((impl_TextOk.f k ((rd_T62 x5 x7).f1)).bind fun t382 => (if t382 = true then (impl_strictAttrs.l0 k x0 x5 x6 (wrap64 (x7 + 1))) else (some false))))) else (none))) else (some false))) else (none)) else (none)) else (some true)
def impl_strictAttrs.f (k : Nat) (l0 : List (S62)) : Option (Bool) := impl_strictAttrs.l0 k l0 l0 (l0.length : Int) 0
theorem impl_strictAttrs.mono_l : ∀ k, (∀ y0 y1 y2 y3, LeO (impl_strictAttrs.l0 k y0 y1 y2 y3) (impl_strictAttrs.l0 (k + 1) y0 y1 y2 y3))
 | 0 => fun _ _ _ _ r h => by simp [impl_strictAttrs.l0] at h
 | k + 1 => by
  have ih0 := impl_strictAttrs.mono_l k
  ·intro y0 y1 y2 y3
   unfold impl_strictAttrs.l0
   repeat' with_reducible first | exact ih0 _ _ _ _ | exact impl_NameOk.mono _ _ | exact impl_TextOk.mono _ _ | exact LeO.refl _ | exact LeO.none _ | refine LeO.ite ?_ ?_ | refine LeO.bind ?_ fun _ => ?_
theorem impl_strictAttrs.mono : ∀ a0 k, LeO (impl_strictAttrs.f k a0) (impl_strictAttrs.f (k + 1) a0) := by
 intro a0 k
 have ih0 := impl_strictAttrs.mono_l k
 unfold impl_strictAttrs.f
 repeat' with_reducible first | exact ih0 _ _ _ _ | exact impl_NameOk.mono _ _ | exact impl_TextOk.mono _ _ | exact LeO.refl _ | exact LeO.none _ | refine LeO.ite ?_ ?_ | refine LeO.bind ?_ fun _ => ?_
def impl_strictAttrs.T4 : Bool × List (List Nat × List Nat) := (true, [([], []), ([0], [0]), ([1], [1]), ([2], [2]), ([3, 2], [3]), ([4], [4]), ([5, 4], [4, 5]), ([6, 4], [4, 6]), ([4, 7], [4, 7]), ([8, 4], [8]), ([9], [9]), ([9], [9]), ([10, 11, 9], [9, 10, 11]), ([9], [9]), ([13, 9], [9, 13]), ([12, 14, 9, 9], [9, 12, 14]), ([9, 15], [9, 15]), ([16, 15], [16]), ([17], [17]), ([18, 17], [17, 18]), ([19, 17, 17], [17, 19]), ([20, 17], [17, 20]), ([17, 21], [17, 21])])
def impl_strictAttrs.B4 : List Nat := [0, 1, 3, 7, 15, 31, 63, 127, 255, 511, 1023, 1023, 4095, 1023, 9215, 32767, 65535, 131071, 262143, 524287, 1048575, 2097151, 4194303]
theorem impl_strictAttrs.tab4 : rtab .any (opsOf Tryz.f52 4) = impl_strictAttrs.T4 := by kernel_rfl
theorem impl_strictAttrs.bits4 : waitsOk impl_strictAttrs.T4.2 impl_strictAttrs.B4 = true := by kernel_rfl
theorem impl_strictAttrs.calls (k : Nat) (A0 : Option Addr) (c0 : Nat) (l0 : List (S62)) (r : Bool) (w : World) (hr0 : Kd.C k62 w A0 l0.length l0) (hc0 : l0.length ≤ c0) (h : impl_strictAttrs.f k l0 = some r) :
  Calls Tryz.prog 52 #[.slice A0 l0.length c0] w fun e w' => e = .returned (.bool r) ∧ Below w.heap.size w w' := by
 have hu62 := Tryz.underlying62
 have HR0 := am hr0
 have HC0 := am hc0
 clear hr0 hc0
 have HB := am (Below.refl w.heap.size w)
 have H : (impl_strictAttrs.l0 k l0 l0 (l0.length : Int) 0) = some r := h
 clear h
 have H' := am H
 clear H
 go_enter Tryz.func52, Tryz.ntmps52
 go_wp2
 go_loopg [7] k (fun kq v7 w' => ∃ (x7_1 : Int), v7 = .int .i64 x7_1 ∧ Aside0 (impl_strictAttrs.l0 kq l0 l0 (l0.length : Int) x7_1 = some r) ∧ Aside0 (kq ≤ k) ∧ Aside0 (Below w.heap.size w w'))
 case atStart => exact ⟨(0), ab6, H', ⟨Nat.le_refl _⟩, ⟨ab1⟩⟩
 case round =>
  clear H'
  obtain ⟨x7_1, rfl, HA, HK1, HB⟩ := hrel
  cases gk with
  | zero => exact absurd HA.out (by simp [impl_strictAttrs.l0])
  | succ k1 =>
   have H := HA.out
   clear HA
   simp only [impl_strictAttrs.l0] at H
   replace H := ir_ H; rcases H with ⟨c2b0, H⟩ | ⟨c2b0, H⟩
   ·replace H := iq_ H; obtain ⟨c3b0, H⟩ := H
    replace H := iq_ H; obtain ⟨c4b0, H⟩ := H
    replace H := bi_ H; obtain ⟨t376, A5, H⟩ := H
    replace H := ib_ H; rcases H with ⟨rfl, H⟩ | ⟨rfl, H⟩
    ·replace H := ie_ H; rcases H with ⟨c7b0, c7b1, H⟩ | ⟨c7, c7b0, c7b1, H⟩
     ·obtain rfl := Option.some.inj H
      have p374 : 0 ≤ (x7_1 : Int) := of_decide_eq_true ab4
      have q374 : x7_1 < (l0.length : Int) := of_decide_eq_true ab4
      obtain ⟨ad374, e374, hx374_0, hx374_1⟩ := at_T62 HR0.out x7_1 p374 q374
      cases e374
      replace hx374_0 := pc_ HB hx374_0
      replace hx374_1 := pc_ HB hx374_1
      replace p374 := eq_true p374
      replace q374 := eq_true q374
      try go_wp2_with (first | ((with_reducible refine gd_ 4 ?_); refine bx_ 4 (cs := #[.string (⟨#[]⟩ : ByteArray), .string (⟨#[]⟩ : ByteArray)]) 62 ?_; intro gb375 hg w8 hbox hb; have BK375 := am hbox; have GW375 := ge_ (w := w) hg; have GE375 := ge_ (w := w) hg; replace HB := am (below_step ab1 hb); clear hb hbox hg; obtain ⟨⟨_, _⟩, _, _⟩ := Op.cells2 BK375.out))
      have n0_ : Aside0 (((w8.setCell ⟨gb375, 0, none⟩ (.string ((rd_T62 l0 x7_1).f0))).setCell ⟨gb375, 1, none⟩ (.string ((rd_T62 l0 x7_1).f1))).heap[gb375]? = some (.cells #[.string ((rd_T62 l0 x7_1).f0), .string ((rd_T62 l0 x7_1).f1)] 62 (0, 0))) := ⟨by (with_reducible repeat (first | refine blk_drewN ?_ _ | refine blk_drew ?_ | refine blk_alloc ?_ _)); refine blk_put (cs := #[.string ((rd_T62 l0 x7_1).f0), .string (⟨#[]⟩ : ByteArray)]) ?_ 1 _ rfl; (with_reducible repeat (first | refine blk_drewN ?_ _ | refine blk_drew ?_ | refine blk_alloc ?_ _)); refine blk_put (cs := #[.string (⟨#[]⟩ : ByteArray), .string (⟨#[]⟩ : ByteArray)]) ?_ 0 _ rfl; (with_reducible repeat (first | refine blk_drewN ?_ _ | refine blk_drew ?_ | refine blk_alloc ?_ _)); exact BK375.out⟩
      have n1_ : Aside0 (Below w.heap.size w ((w8.setCell ⟨gb375, 0, none⟩ (.string ((rd_T62 l0 x7_1).f0))).setCell ⟨gb375, 1, none⟩ (.string ((rd_T62 l0 x7_1).f1)))) := ⟨ab2 GE375⟩
      (try clear BK375)
      (try clear HB)
      generalize ((w8.setCell ⟨gb375, 0, none⟩ (.string ((rd_T62 l0 x7_1).f0))).setCell ⟨gb375, 1, none⟩ (.string ((rd_T62 l0 x7_1).f1))) = w10 at n0_ n1_ ⊢
      have BK375 := n0_
      have HB := n1_
      clear n0_ n1_
      replace BK375 := am (blk_drew BK375.out)
      replace HB := am (below_drew1 HB.out)
      refine start_ (n := 23) (S := fun w' => w'.cell? ⟨gb375, 0, none⟩ = some (.string ((rd_T62 l0 x7_1).f0)) ∧ w'.cell? ⟨gb375, 1, none⟩ = some (.string ((rd_T62 l0 x7_1).f1))) (ds := []) #[false, false, false, false, false, false, false, false, false, false, false, false, false, false, false, false, false, false, false, false, false, false, false] (by kernel_rfl) rfl rfl ⟨(blk_cell BK375.out 0).trans rfl, (blk_cell BK375.out 1).trans rfl⟩ (fun hHeld => ?_); refine with_tabW impl_strictAttrs.tab4 impl_strictAttrs.bits4 (fun HT_ HW_ => ?_)
      generalize w10.drew = w11 at BK375 HB hHeld ⊢
      refine pa_ 0 12 HT_ ?_
      refine tk_ 1 13 HT_ HW_ hHeld ?_
      refine on_ 2 14 HT_ fun K hK => ?_
      refine goes_ Tryz.func51 (by kernel_rfl) rfl #[.string ((rd_T62 l0 x7_1).f0)] (by rfl) rfl rfl ab5 ?_
      with_reducible refine (impl_NameOk.calls k1 ((rd_T62 l0 x7_1).f0) true _ A5.out).mono ?_
      rintro e w12 ⟨rfl, hb⟩
      refine ⟨_, rfl, ?_⟩
      replace BK375 := bl_ BK375 hb
      replace HB := am (below_step (ab2 GE375) hb)
      (try clear hb)
      (try clear hb2)
      (try clear hk)
      (try clear hi)
      refine hK.out _ _ ⟨(blk_cell BK375.out 0).trans rfl, (blk_cell BK375.out 1).trans rfl⟩ (fun hHeld => ?_)
      clear hK K
      refine nm_ ?_
      refine pa_ 3 15 HT_ ?_
      refine pa_ 4 16 HT_ ?_
      refine pa_ 5 17 HT_ ?_
      refine tk_ 6 18 HT_ HW_ hHeld ?_
      refine pa_ 7 19 HT_ ?_
      refine pa_ 8 20 HT_ ?_
      refine pa_ 9 21 HT_ ?_
      refine pu_ 10 22 HT_ ?_
      refine pu_ 11 23 HT_ ?_
      refine pu_ 12 24 HT_ ?_
      refine pu_ 13 25 HT_ ?_
      refine pu_ 14 26 HT_ ?_
      refine pu_ 15 27 HT_ ?_
      refine pa_ 16 28 HT_ ?_
      refine pa_ 17 29 HT_ ?_
      refine pu_ 18 30 HT_ ?_
      refine pu_ 19 31 HT_ ?_
      refine pu_ 20 32 HT_ ?_
      refine pu_ 21 33 HT_ ?_
      refine pa_ 22 34 HT_ ?_
      refine dn_ HT_ ?_
      try go_wp2
      go_ret
      exact ⟨ab7, ab2 GE375⟩
     ·have c13b0 := eq_true (of_decide_eq_true ab4 : 0 ≤ x7_1)
      by_cases c14 : x7_1 ≤ (l0.length : Int)
      case neg => rw [if_neg c14] at H; exact absurd H (by simp)
      rw [if_pos c14] at H
      have c14b0 := eq_true c14
      have c14b1 := decide_eq_true c14
      clear c14
      obtain ⟨y377, hy377⟩ : ∃ y_ : List (S62), y_ = (l0.take (x7_1 : Int).toNat) := ⟨_, rfl⟩
      replace H : ((impl_hasAttr.f y377 ((rd_T62 l0 x7_1).f0)).bind fun t381 => (if t381 = true then (some false) else ((impl_TextOk.f k1 ((rd_T62 l0 x7_1).f1)).bind fun t382 => (if t382 = true then (impl_strictAttrs.l0 k1 l0 l0 (l0.length : Int) (wrap64 (x7_1 + 1))) else (some false))))) = some r := by first | (rw [hy377]; with_reducible exact H) | (have H2_ := (Option.bind_some _ _).symm.trans H; rw [hy377]; with_reducible exact H2_) | (have H2_ := (Option.bind_some _ _).symm.trans H; with_reducible exact H2_) | with_reducible exact H | (rw [hy377]; exact H) | exact H
      have Ny377 := am hy377
      clear hy377
      replace H := bi_ H; obtain ⟨t381, A15, H⟩ := H
      replace H := ib_ H; rcases H with ⟨rfl, H⟩ | ⟨rfl, H⟩
      ·obtain rfl := Option.some.inj H
       have p374 : 0 ≤ (x7_1 : Int) := of_decide_eq_true ab4
       have q374 : x7_1 < (l0.length : Int) := of_decide_eq_true ab4
       obtain ⟨ad374, e374, hx374_0, hx374_1⟩ := at_T62 HR0.out x7_1 p374 q374
       cases e374
       replace hx374_0 := pc_ HB hx374_0
       replace hx374_1 := pc_ HB hx374_1
       replace p374 := eq_true p374
       replace q374 := eq_true q374
       try go_wp2_with (first | ((with_reducible refine gd_ 4 ?_); refine bx_ 4 (cs := #[.string (⟨#[]⟩ : ByteArray), .string (⟨#[]⟩ : ByteArray)]) 62 ?_; intro gb375 hg w17 hbox hb; have BK375 := am hbox; have GW375 := ge_ (w := w) hg; have GE375 := ge_ (w := w) hg; replace HB := am (below_step ab1 hb); clear hb hbox hg; obtain ⟨⟨_, _⟩, _, _⟩ := Op.cells2 BK375.out))
       have n0_ : Aside0 (((w17.setCell ⟨gb375, 0, none⟩ (.string ((rd_T62 l0 x7_1).f0))).setCell ⟨gb375, 1, none⟩ (.string ((rd_T62 l0 x7_1).f1))).heap[gb375]? = some (.cells #[.string ((rd_T62 l0 x7_1).f0), .string ((rd_T62 l0 x7_1).f1)] 62 (0, 0))) := ⟨by (with_reducible repeat (first | refine blk_drewN ?_ _ | refine blk_drew ?_ | refine blk_alloc ?_ _)); refine blk_put (cs := #[.string ((rd_T62 l0 x7_1).f0), .string (⟨#[]⟩ : ByteArray)]) ?_ 1 _ rfl; (with_reducible repeat (first | refine blk_drewN ?_ _ | refine blk_drew ?_ | refine blk_alloc ?_ _)); refine blk_put (cs := #[.string (⟨#[]⟩ : ByteArray), .string (⟨#[]⟩ : ByteArray)]) ?_ 0 _ rfl; (with_reducible repeat (first | refine blk_drewN ?_ _ | refine blk_drew ?_ | refine blk_alloc ?_ _)); exact BK375.out⟩
       have n1_ : Aside0 (Below w.heap.size w ((w17.setCell ⟨gb375, 0, none⟩ (.string ((rd_T62 l0 x7_1).f0))).setCell ⟨gb375, 1, none⟩ (.string ((rd_T62 l0 x7_1).f1)))) := ⟨ab2 GE375⟩
       (try clear BK375)
       (try clear HB)
       generalize ((w17.setCell ⟨gb375, 0, none⟩ (.string ((rd_T62 l0 x7_1).f0))).setCell ⟨gb375, 1, none⟩ (.string ((rd_T62 l0 x7_1).f1))) = w19 at n0_ n1_ ⊢
       have BK375 := n0_
       have HB := n1_
       clear n0_ n1_
       replace BK375 := am (blk_drew BK375.out)
       replace HB := am (below_drew1 HB.out)
       refine start_ (n := 23) (S := fun w' => w'.cell? ⟨gb375, 0, none⟩ = some (.string ((rd_T62 l0 x7_1).f0)) ∧ w'.cell? ⟨gb375, 1, none⟩ = some (.string ((rd_T62 l0 x7_1).f1))) (ds := []) #[false, false, false, false, false, false, false, false, false, false, false, false, false, false, false, false, false, false, false, false, false, false, false] (by kernel_rfl) rfl rfl ⟨(blk_cell BK375.out 0).trans rfl, (blk_cell BK375.out 1).trans rfl⟩ (fun hHeld => ?_); refine with_tabW impl_strictAttrs.tab4 impl_strictAttrs.bits4 (fun HT_ HW_ => ?_)
       generalize w19.drew = w20 at BK375 HB hHeld ⊢
       refine pa_ 0 12 HT_ ?_
       refine tk_ 1 13 HT_ HW_ hHeld ?_
       refine on_ 2 14 HT_ fun K hK => ?_
       refine goes_ Tryz.func51 (by kernel_rfl) rfl #[.string ((rd_T62 l0 x7_1).f0)] (by rfl) rfl rfl ab5 ?_
       with_reducible refine (impl_NameOk.calls k1 ((rd_T62 l0 x7_1).f0) true _ A5.out).mono ?_
       rintro e w21 ⟨rfl, hb⟩
       refine ⟨_, rfl, ?_⟩
       replace BK375 := bl_ BK375 hb
       replace HB := am (below_step (ab2 GE375) hb)
       (try clear hb)
       (try clear hb2)
       (try clear hk)
       (try clear hi)
       have q22 : (x7_1 : Int) ≤ ((l0.length : Int) : Int) := of_decide_eq_true ab4
       obtain ⟨i022, hi022, _, hsz22, _⟩ := info_parts info62
       have hroom22 : l0.length ≤ c0 := HC0.out
       have hC22 : Kd.C k62 _ (some ad374) l0.length l0 := HR0.out
       have hcut22 := cut_to (P := Tryz.prog) 28 62 .i64 Tryz.underlying28 hi022 (some ad374) l0.length c0 x7_1 (of_decide_eq_true ab4) q22 hroom22
       have hr22 := Kd.C_take (m := (x7_1 : Int).toNat) hC22 (by omega)
       have hy22 : y377.length = (x7_1 : Int).toNat := (by rw [Ny377.out, List.length_take]; omega)
       rw [← Ny377.out] at hr22
       rw [← hy22] at hcut22
       have HR380 := am hr22
       have HC380 := am (show y377.length ≤ c0 from by omega)
       clear hr22 hC22 hroom22 hi022 hsz22
       have KY22 := am hy22
       clear hy22
       replace q22 := eq_true q22
       refine hK.out _ _ ⟨(blk_cell BK375.out 0).trans rfl, (blk_cell BK375.out 1).trans rfl⟩ (fun hHeld => ?_)
       clear hK K
       refine nm_ ?_
       refine pa_ 3 15 HT_ ?_
       refine pa_ 4 16 HT_ ?_
       refine pa_ 5 17 HT_ ?_
       refine tk_ 6 18 HT_ HW_ hHeld ?_
       refine pa_ 7 19 HT_ ?_
       refine pa_ 8 20 HT_ ?_
       refine pa_ 9 21 HT_ ?_
       refine pa_ 10 22 HT_ ?_
       refine pa_ 11 23 HT_ ?_
       refine pa_ 12 24 HT_ ?_
       refine pa_ 13 25 HT_ ?_
       refine tk_ 14 26 HT_ HW_ hHeld ?_
       refine on_ 15 27 HT_ fun K hK => ?_
       refine goes_ Tryz.func71 (by kernel_rfl) rfl #[.slice (some ad374) y377.length c0, .string ((rd_T62 l0 x7_1).f0)] (by rfl) rfl rfl ab5 ?_
       with_reducible refine (impl_hasAttr.calls _ _ y377 ((rd_T62 l0 x7_1).f0) true _ ?side1 ?side2 A15.out).mono ?_
       (case side1 => repeat (first | exact (Kd.C_below HR380.out HB.out) | (with_reducible refine Kd.C_alloc ?_ _) | (with_reducible refine Kd.C_drewN ?_ _) | (with_reducible refine Kd.C_drew ?_)))
       (case side2 => exact HC380.out)
       rintro e w23 ⟨rfl, hb⟩
       refine ⟨_, rfl, ?_⟩
       replace BK375 := bl_ BK375 hb
       replace HB := am (below_step (ab2 GE375) hb)
       (try clear hb)
       (try clear hb2)
       (try clear hk)
       (try clear hi)
       refine hK.out _ _ ⟨(blk_cell BK375.out 0).trans rfl, (blk_cell BK375.out 1).trans rfl⟩ (fun hHeld => ?_)
       clear hK K
       refine nm_ ?_
       refine pa_ 16 28 HT_ ?_
       refine pa_ 17 29 HT_ ?_
       refine pu_ 18 30 HT_ ?_
       refine pu_ 19 31 HT_ ?_
       refine pu_ 20 32 HT_ ?_
       refine pu_ 21 33 HT_ ?_
       refine pa_ 22 34 HT_ ?_
       refine dn_ HT_ ?_
       try go_wp2
       go_ret
       exact ⟨ab7, ab2 GE375⟩
      ·replace H := bi_ H; obtain ⟨t382, A24, H⟩ := H
       replace H := ib_ H; rcases H with ⟨rfl, H⟩ | ⟨rfl, H⟩
       ·have H' := am H
        clear H
        have p374 : 0 ≤ (x7_1 : Int) := of_decide_eq_true ab4
        have q374 : x7_1 < (l0.length : Int) := of_decide_eq_true ab4
        obtain ⟨ad374, e374, hx374_0, hx374_1⟩ := at_T62 HR0.out x7_1 p374 q374
        cases e374
        replace hx374_0 := pc_ HB hx374_0
        replace hx374_1 := pc_ HB hx374_1
        replace p374 := eq_true p374
        replace q374 := eq_true q374
        try go_wp2_with (first | ((with_reducible refine gd_ 4 ?_); refine bx_ 4 (cs := #[.string (⟨#[]⟩ : ByteArray), .string (⟨#[]⟩ : ByteArray)]) 62 ?_; intro gb375 hg w26 hbox hb; have BK375 := am hbox; have GW375 := ge_ (w := w) hg; have GE375 := ge_ (w := w) hg; replace HB := am (below_step ab1 hb); clear hb hbox hg; obtain ⟨⟨_, _⟩, _, _⟩ := Op.cells2 BK375.out))
        have n0_ : Aside0 (((w26.setCell ⟨gb375, 0, none⟩ (.string ((rd_T62 l0 x7_1).f0))).setCell ⟨gb375, 1, none⟩ (.string ((rd_T62 l0 x7_1).f1))).heap[gb375]? = some (.cells #[.string ((rd_T62 l0 x7_1).f0), .string ((rd_T62 l0 x7_1).f1)] 62 (0, 0))) := ⟨by (with_reducible repeat (first | refine blk_drewN ?_ _ | refine blk_drew ?_ | refine blk_alloc ?_ _)); refine blk_put (cs := #[.string ((rd_T62 l0 x7_1).f0), .string (⟨#[]⟩ : ByteArray)]) ?_ 1 _ rfl; (with_reducible repeat (first | refine blk_drewN ?_ _ | refine blk_drew ?_ | refine blk_alloc ?_ _)); refine blk_put (cs := #[.string (⟨#[]⟩ : ByteArray), .string (⟨#[]⟩ : ByteArray)]) ?_ 0 _ rfl; (with_reducible repeat (first | refine blk_drewN ?_ _ | refine blk_drew ?_ | refine blk_alloc ?_ _)); exact BK375.out⟩
        have n1_ : Aside0 (Below w.heap.size w ((w26.setCell ⟨gb375, 0, none⟩ (.string ((rd_T62 l0 x7_1).f0))).setCell ⟨gb375, 1, none⟩ (.string ((rd_T62 l0 x7_1).f1)))) := ⟨ab2 GE375⟩
        (try clear BK375)
        (try clear HB)
        generalize ((w26.setCell ⟨gb375, 0, none⟩ (.string ((rd_T62 l0 x7_1).f0))).setCell ⟨gb375, 1, none⟩ (.string ((rd_T62 l0 x7_1).f1))) = w28 at n0_ n1_ ⊢
        have BK375 := n0_
        have HB := n1_
        clear n0_ n1_
        replace BK375 := am (blk_drew BK375.out)
        replace HB := am (below_drew1 HB.out)
        refine start_ (n := 23) (S := fun w' => w'.cell? ⟨gb375, 0, none⟩ = some (.string ((rd_T62 l0 x7_1).f0)) ∧ w'.cell? ⟨gb375, 1, none⟩ = some (.string ((rd_T62 l0 x7_1).f1))) (ds := []) #[false, false, false, false, false, false, false, false, false, false, false, false, false, false, false, false, false, false, false, false, false, false, false] (by kernel_rfl) rfl rfl ⟨(blk_cell BK375.out 0).trans rfl, (blk_cell BK375.out 1).trans rfl⟩ (fun hHeld => ?_); refine with_tabW impl_strictAttrs.tab4 impl_strictAttrs.bits4 (fun HT_ HW_ => ?_)
        generalize w28.drew = w29 at BK375 HB hHeld ⊢
        refine pa_ 0 12 HT_ ?_
        refine tk_ 1 13 HT_ HW_ hHeld ?_
        refine on_ 2 14 HT_ fun K hK => ?_
        refine goes_ Tryz.func51 (by kernel_rfl) rfl #[.string ((rd_T62 l0 x7_1).f0)] (by rfl) rfl rfl ab5 ?_
        with_reducible refine (impl_NameOk.calls k1 ((rd_T62 l0 x7_1).f0) true _ A5.out).mono ?_
        rintro e w30 ⟨rfl, hb⟩
        refine ⟨_, rfl, ?_⟩
        replace BK375 := bl_ BK375 hb
        replace HB := am (below_step (ab2 GE375) hb)
        (try clear hb)
        (try clear hb2)
        (try clear hk)
        (try clear hi)
        have q31 : (x7_1 : Int) ≤ ((l0.length : Int) : Int) := of_decide_eq_true ab4
        obtain ⟨i031, hi031, _, hsz31, _⟩ := info_parts info62
        have hroom31 : l0.length ≤ c0 := HC0.out
        have hC31 : Kd.C k62 _ (some ad374) l0.length l0 := HR0.out
        have hcut31 := cut_to (P := Tryz.prog) 28 62 .i64 Tryz.underlying28 hi031 (some ad374) l0.length c0 x7_1 (of_decide_eq_true ab4) q31 hroom31
        have hr31 := Kd.C_take (m := (x7_1 : Int).toNat) hC31 (by omega)
        have hy31 : y377.length = (x7_1 : Int).toNat := (by rw [Ny377.out, List.length_take]; omega)
        rw [← Ny377.out] at hr31
        rw [← hy31] at hcut31
        have HR380 := am hr31
        have HC380 := am (show y377.length ≤ c0 from by omega)
        clear hr31 hC31 hroom31 hi031 hsz31
        have KY31 := am hy31
        clear hy31
        replace q31 := eq_true q31
        refine hK.out _ _ ⟨(blk_cell BK375.out 0).trans rfl, (blk_cell BK375.out 1).trans rfl⟩ (fun hHeld => ?_)
        clear hK K
        refine nm_ ?_
        refine pa_ 3 15 HT_ ?_
        refine pa_ 4 16 HT_ ?_
        refine pa_ 5 17 HT_ ?_
        refine tk_ 6 18 HT_ HW_ hHeld ?_
        refine pa_ 7 19 HT_ ?_
        refine pa_ 8 20 HT_ ?_
        refine pa_ 9 21 HT_ ?_
        refine pa_ 10 22 HT_ ?_
        refine pa_ 11 23 HT_ ?_
        refine pa_ 12 24 HT_ ?_
        refine pa_ 13 25 HT_ ?_
        refine tk_ 14 26 HT_ HW_ hHeld ?_
        refine on_ 15 27 HT_ fun K hK => ?_
        refine goes_ Tryz.func71 (by kernel_rfl) rfl #[.slice (some ad374) y377.length c0, .string ((rd_T62 l0 x7_1).f0)] (by rfl) rfl rfl ab5 ?_
        with_reducible refine (impl_hasAttr.calls _ _ y377 ((rd_T62 l0 x7_1).f0) false _ ?side1 ?side2 A15.out).mono ?_
        (case side1 => repeat (first | exact (Kd.C_below HR380.out HB.out) | (with_reducible refine Kd.C_alloc ?_ _) | (with_reducible refine Kd.C_drewN ?_ _) | (with_reducible refine Kd.C_drew ?_)))
        (case side2 => exact HC380.out)
        rintro e w32 ⟨rfl, hb⟩
        refine ⟨_, rfl, ?_⟩
        replace BK375 := bl_ BK375 hb
        replace HB := am (below_step (ab2 GE375) hb)
        (try clear hb)
        (try clear hb2)
        (try clear hk)
        (try clear hi)
        refine hK.out _ _ ⟨(blk_cell BK375.out 0).trans rfl, (blk_cell BK375.out 1).trans rfl⟩ (fun hHeld => ?_)
        clear hK K
        refine nm_ ?_
        refine pa_ 16 28 HT_ ?_
        refine pa_ 17 29 HT_ ?_
        refine pa_ 18 30 HT_ ?_
        refine tk_ 19 31 HT_ HW_ hHeld ?_
        refine on_ 20 32 HT_ fun K hK => ?_
        refine goes_ Tryz.func48 (by kernel_rfl) rfl #[.string ((rd_T62 l0 x7_1).f1)] (by rfl) rfl rfl ab5 ?_
        with_reducible refine (impl_TextOk.calls k1 ((rd_T62 l0 x7_1).f1) true _ A24.out).mono ?_
        rintro e w33 ⟨rfl, hb⟩
        refine ⟨_, rfl, ?_⟩
        replace BK375 := bl_ BK375 hb
        replace HB := am (below_step (ab2 GE375) hb)
        (try clear hb)
        (try clear hb2)
        (try clear hk)
        (try clear hi)
        refine hK.out _ _ ⟨(blk_cell BK375.out 0).trans rfl, (blk_cell BK375.out 1).trans rfl⟩ (fun hHeld => ?_)
        clear hK K
        refine nm_ ?_
        refine pa_ 21 33 HT_ ?_
        refine pa_ 22 34 HT_ ?_
        refine dn_ HT_ ?_
        try go_wp2
        go_roundg k1
        case measure => have := HK1.out; omega
        case rel => exact ⟨(wrap64 (x7_1 + 1)), ab6, H', ⟨by have := HK1.out; omega⟩, ⟨ab2 GE375⟩⟩
       ·obtain rfl := Option.some.inj H
        have p374 : 0 ≤ (x7_1 : Int) := of_decide_eq_true ab4
        have q374 : x7_1 < (l0.length : Int) := of_decide_eq_true ab4
        obtain ⟨ad374, e374, hx374_0, hx374_1⟩ := at_T62 HR0.out x7_1 p374 q374
        cases e374
        replace hx374_0 := pc_ HB hx374_0
        replace hx374_1 := pc_ HB hx374_1
        replace p374 := eq_true p374
        replace q374 := eq_true q374
        try go_wp2_with (first | ((with_reducible refine gd_ 4 ?_); refine bx_ 4 (cs := #[.string (⟨#[]⟩ : ByteArray), .string (⟨#[]⟩ : ByteArray)]) 62 ?_; intro gb375 hg w34 hbox hb; have BK375 := am hbox; have GW375 := ge_ (w := w) hg; have GE375 := ge_ (w := w) hg; replace HB := am (below_step ab1 hb); clear hb hbox hg; obtain ⟨⟨_, _⟩, _, _⟩ := Op.cells2 BK375.out))
        have n0_ : Aside0 (((w34.setCell ⟨gb375, 0, none⟩ (.string ((rd_T62 l0 x7_1).f0))).setCell ⟨gb375, 1, none⟩ (.string ((rd_T62 l0 x7_1).f1))).heap[gb375]? = some (.cells #[.string ((rd_T62 l0 x7_1).f0), .string ((rd_T62 l0 x7_1).f1)] 62 (0, 0))) := ⟨by (with_reducible repeat (first | refine blk_drewN ?_ _ | refine blk_drew ?_ | refine blk_alloc ?_ _)); refine blk_put (cs := #[.string ((rd_T62 l0 x7_1).f0), .string (⟨#[]⟩ : ByteArray)]) ?_ 1 _ rfl; (with_reducible repeat (first | refine blk_drewN ?_ _ | refine blk_drew ?_ | refine blk_alloc ?_ _)); refine blk_put (cs := #[.string (⟨#[]⟩ : ByteArray), .string (⟨#[]⟩ : ByteArray)]) ?_ 0 _ rfl; (with_reducible repeat (first | refine blk_drewN ?_ _ | refine blk_drew ?_ | refine blk_alloc ?_ _)); exact BK375.out⟩
        have n1_ : Aside0 (Below w.heap.size w ((w34.setCell ⟨gb375, 0, none⟩ (.string ((rd_T62 l0 x7_1).f0))).setCell ⟨gb375, 1, none⟩ (.string ((rd_T62 l0 x7_1).f1)))) := ⟨ab2 GE375⟩
        (try clear BK375)
        (try clear HB)
        generalize ((w34.setCell ⟨gb375, 0, none⟩ (.string ((rd_T62 l0 x7_1).f0))).setCell ⟨gb375, 1, none⟩ (.string ((rd_T62 l0 x7_1).f1))) = w36 at n0_ n1_ ⊢
        have BK375 := n0_
        have HB := n1_
        clear n0_ n1_
        replace BK375 := am (blk_drew BK375.out)
        replace HB := am (below_drew1 HB.out)
        refine start_ (n := 23) (S := fun w' => w'.cell? ⟨gb375, 0, none⟩ = some (.string ((rd_T62 l0 x7_1).f0)) ∧ w'.cell? ⟨gb375, 1, none⟩ = some (.string ((rd_T62 l0 x7_1).f1))) (ds := []) #[false, false, false, false, false, false, false, false, false, false, false, false, false, false, false, false, false, false, false, false, false, false, false] (by kernel_rfl) rfl rfl ⟨(blk_cell BK375.out 0).trans rfl, (blk_cell BK375.out 1).trans rfl⟩ (fun hHeld => ?_); refine with_tabW impl_strictAttrs.tab4 impl_strictAttrs.bits4 (fun HT_ HW_ => ?_)
        generalize w36.drew = w37 at BK375 HB hHeld ⊢
        refine pa_ 0 12 HT_ ?_
        refine tk_ 1 13 HT_ HW_ hHeld ?_
        refine on_ 2 14 HT_ fun K hK => ?_
        refine goes_ Tryz.func51 (by kernel_rfl) rfl #[.string ((rd_T62 l0 x7_1).f0)] (by rfl) rfl rfl ab5 ?_
        with_reducible refine (impl_NameOk.calls k1 ((rd_T62 l0 x7_1).f0) true _ A5.out).mono ?_
        rintro e w38 ⟨rfl, hb⟩
        refine ⟨_, rfl, ?_⟩
        replace BK375 := bl_ BK375 hb
        replace HB := am (below_step (ab2 GE375) hb)
        (try clear hb)
        (try clear hb2)
        (try clear hk)
        (try clear hi)
        have q39 : (x7_1 : Int) ≤ ((l0.length : Int) : Int) := of_decide_eq_true ab4
        obtain ⟨i039, hi039, _, hsz39, _⟩ := info_parts info62
        have hroom39 : l0.length ≤ c0 := HC0.out
        have hC39 : Kd.C k62 _ (some ad374) l0.length l0 := HR0.out
        have hcut39 := cut_to (P := Tryz.prog) 28 62 .i64 Tryz.underlying28 hi039 (some ad374) l0.length c0 x7_1 (of_decide_eq_true ab4) q39 hroom39
        have hr39 := Kd.C_take (m := (x7_1 : Int).toNat) hC39 (by omega)
        have hy39 : y377.length = (x7_1 : Int).toNat := (by rw [Ny377.out, List.length_take]; omega)
        rw [← Ny377.out] at hr39
        rw [← hy39] at hcut39
        have HR380 := am hr39
        have HC380 := am (show y377.length ≤ c0 from by omega)
        clear hr39 hC39 hroom39 hi039 hsz39
        have KY39 := am hy39
        clear hy39
        replace q39 := eq_true q39
        refine hK.out _ _ ⟨(blk_cell BK375.out 0).trans rfl, (blk_cell BK375.out 1).trans rfl⟩ (fun hHeld => ?_)
        clear hK K
        refine nm_ ?_
        refine pa_ 3 15 HT_ ?_
        refine pa_ 4 16 HT_ ?_
        refine pa_ 5 17 HT_ ?_
        refine tk_ 6 18 HT_ HW_ hHeld ?_
        refine pa_ 7 19 HT_ ?_
        refine pa_ 8 20 HT_ ?_
        refine pa_ 9 21 HT_ ?_
        refine pa_ 10 22 HT_ ?_
        refine pa_ 11 23 HT_ ?_
        refine pa_ 12 24 HT_ ?_
        refine pa_ 13 25 HT_ ?_
        refine tk_ 14 26 HT_ HW_ hHeld ?_
        refine on_ 15 27 HT_ fun K hK => ?_
        refine goes_ Tryz.func71 (by kernel_rfl) rfl #[.slice (some ad374) y377.length c0, .string ((rd_T62 l0 x7_1).f0)] (by rfl) rfl rfl ab5 ?_
        with_reducible refine (impl_hasAttr.calls _ _ y377 ((rd_T62 l0 x7_1).f0) false _ ?side1 ?side2 A15.out).mono ?_
        (case side1 => repeat (first | exact (Kd.C_below HR380.out HB.out) | (with_reducible refine Kd.C_alloc ?_ _) | (with_reducible refine Kd.C_drewN ?_ _) | (with_reducible refine Kd.C_drew ?_)))
        (case side2 => exact HC380.out)
        rintro e w40 ⟨rfl, hb⟩
        refine ⟨_, rfl, ?_⟩
        replace BK375 := bl_ BK375 hb
        replace HB := am (below_step (ab2 GE375) hb)
        (try clear hb)
        (try clear hb2)
        (try clear hk)
        (try clear hi)
        refine hK.out _ _ ⟨(blk_cell BK375.out 0).trans rfl, (blk_cell BK375.out 1).trans rfl⟩ (fun hHeld => ?_)
        clear hK K
        refine nm_ ?_
        refine pa_ 16 28 HT_ ?_
        refine pa_ 17 29 HT_ ?_
        refine pa_ 18 30 HT_ ?_
        refine tk_ 19 31 HT_ HW_ hHeld ?_
        refine on_ 20 32 HT_ fun K hK => ?_
        refine goes_ Tryz.func48 (by kernel_rfl) rfl #[.string ((rd_T62 l0 x7_1).f1)] (by rfl) rfl rfl ab5 ?_
        with_reducible refine (impl_TextOk.calls k1 ((rd_T62 l0 x7_1).f1) false _ A24.out).mono ?_
        rintro e w41 ⟨rfl, hb⟩
        refine ⟨_, rfl, ?_⟩
        replace BK375 := bl_ BK375 hb
        replace HB := am (below_step (ab2 GE375) hb)
        (try clear hb)
        (try clear hb2)
        (try clear hk)
        (try clear hi)
        refine hK.out _ _ ⟨(blk_cell BK375.out 0).trans rfl, (blk_cell BK375.out 1).trans rfl⟩ (fun hHeld => ?_)
        clear hK K
        refine nm_ ?_
        refine pa_ 21 33 HT_ ?_
        refine pa_ 22 34 HT_ ?_
        refine dn_ HT_ ?_
        try go_wp2
        go_ret
        exact ⟨ab7, ab2 GE375⟩
    ·obtain rfl := Option.some.inj H
     have p374 : 0 ≤ (x7_1 : Int) := of_decide_eq_true ab4
     have q374 : x7_1 < (l0.length : Int) := of_decide_eq_true ab4
     obtain ⟨ad374, e374, hx374_0, hx374_1⟩ := at_T62 HR0.out x7_1 p374 q374
     cases e374
     replace hx374_0 := pc_ HB hx374_0
     replace hx374_1 := pc_ HB hx374_1
     replace p374 := eq_true p374
     replace q374 := eq_true q374
     try go_wp2_with (first | ((with_reducible refine gd_ 4 ?_); refine bx_ 4 (cs := #[.string (⟨#[]⟩ : ByteArray), .string (⟨#[]⟩ : ByteArray)]) 62 ?_; intro gb375 hg w42 hbox hb; have BK375 := am hbox; have GW375 := ge_ (w := w) hg; have GE375 := ge_ (w := w) hg; replace HB := am (below_step ab1 hb); clear hb hbox hg; obtain ⟨⟨_, _⟩, _, _⟩ := Op.cells2 BK375.out))
     have n0_ : Aside0 (((w42.setCell ⟨gb375, 0, none⟩ (.string ((rd_T62 l0 x7_1).f0))).setCell ⟨gb375, 1, none⟩ (.string ((rd_T62 l0 x7_1).f1))).heap[gb375]? = some (.cells #[.string ((rd_T62 l0 x7_1).f0), .string ((rd_T62 l0 x7_1).f1)] 62 (0, 0))) := ⟨by (with_reducible repeat (first | refine blk_drewN ?_ _ | refine blk_drew ?_ | refine blk_alloc ?_ _)); refine blk_put (cs := #[.string ((rd_T62 l0 x7_1).f0), .string (⟨#[]⟩ : ByteArray)]) ?_ 1 _ rfl; (with_reducible repeat (first | refine blk_drewN ?_ _ | refine blk_drew ?_ | refine blk_alloc ?_ _)); refine blk_put (cs := #[.string (⟨#[]⟩ : ByteArray), .string (⟨#[]⟩ : ByteArray)]) ?_ 0 _ rfl; (with_reducible repeat (first | refine blk_drewN ?_ _ | refine blk_drew ?_ | refine blk_alloc ?_ _)); exact BK375.out⟩
     have n1_ : Aside0 (Below w.heap.size w ((w42.setCell ⟨gb375, 0, none⟩ (.string ((rd_T62 l0 x7_1).f0))).setCell ⟨gb375, 1, none⟩ (.string ((rd_T62 l0 x7_1).f1)))) := ⟨ab2 GE375⟩
     (try clear BK375)
     (try clear HB)
     generalize ((w42.setCell ⟨gb375, 0, none⟩ (.string ((rd_T62 l0 x7_1).f0))).setCell ⟨gb375, 1, none⟩ (.string ((rd_T62 l0 x7_1).f1))) = w44 at n0_ n1_ ⊢
     have BK375 := n0_
     have HB := n1_
     clear n0_ n1_
     replace BK375 := am (blk_drew BK375.out)
     replace HB := am (below_drew1 HB.out)
     refine start_ (n := 23) (S := fun w' => w'.cell? ⟨gb375, 0, none⟩ = some (.string ((rd_T62 l0 x7_1).f0)) ∧ w'.cell? ⟨gb375, 1, none⟩ = some (.string ((rd_T62 l0 x7_1).f1))) (ds := []) #[false, false, false, false, false, false, false, false, false, false, false, false, false, false, false, false, false, false, false, false, false, false, false] (by kernel_rfl) rfl rfl ⟨(blk_cell BK375.out 0).trans rfl, (blk_cell BK375.out 1).trans rfl⟩ (fun hHeld => ?_); refine with_tabW impl_strictAttrs.tab4 impl_strictAttrs.bits4 (fun HT_ HW_ => ?_)
     generalize w44.drew = w45 at BK375 HB hHeld ⊢
     refine pa_ 0 12 HT_ ?_
     refine tk_ 1 13 HT_ HW_ hHeld ?_
     refine on_ 2 14 HT_ fun K hK => ?_
     refine goes_ Tryz.func51 (by kernel_rfl) rfl #[.string ((rd_T62 l0 x7_1).f0)] (by rfl) rfl rfl ab5 ?_
     with_reducible refine (impl_NameOk.calls k1 ((rd_T62 l0 x7_1).f0) false _ A5.out).mono ?_
     rintro e w46 ⟨rfl, hb⟩
     refine ⟨_, rfl, ?_⟩
     replace BK375 := bl_ BK375 hb
     replace HB := am (below_step (ab2 GE375) hb)
     (try clear hb)
     (try clear hb2)
     (try clear hk)
     (try clear hi)
     refine hK.out _ _ ⟨(blk_cell BK375.out 0).trans rfl, (blk_cell BK375.out 1).trans rfl⟩ (fun hHeld => ?_)
     clear hK K
     refine nm_ ?_
     refine pa_ 3 15 HT_ ?_
     refine pa_ 4 16 HT_ ?_
     refine pu_ 5 17 HT_ ?_
     refine pu_ 6 18 HT_ ?_
     refine pu_ 7 19 HT_ ?_
     refine pa_ 8 20 HT_ ?_
     refine pa_ 9 21 HT_ ?_
     refine pu_ 10 22 HT_ ?_
     refine pu_ 11 23 HT_ ?_
     refine pu_ 12 24 HT_ ?_
     refine pu_ 13 25 HT_ ?_
     refine pu_ 14 26 HT_ ?_
     refine pu_ 15 27 HT_ ?_
     refine pa_ 16 28 HT_ ?_
     refine pa_ 17 29 HT_ ?_
     refine pu_ 18 30 HT_ ?_
     refine pu_ 19 31 HT_ ?_
     refine pu_ 20 32 HT_ ?_
     refine pu_ 21 33 HT_ ?_
     refine pa_ 22 34 HT_ ?_
     refine dn_ HT_ ?_
     try go_wp2
     go_ret
     exact ⟨ab7, ab2 GE375⟩
   ·obtain rfl := Option.some.inj H
    go_wp2
    go_ret
    exact ⟨ab7, ab1⟩

end Go.Proofs.YthpdpnpojgegiaaGreatDoor.P
