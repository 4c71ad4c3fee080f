-- WRITTEN BY hprint.py
import Derived.Test.YthpdpnpojgegiaaGreatDoorPw0
import Derived.Test.YthpdpnpojgegiaaGreatDoorPw3
import Derived.Test.YthpdpnpojgegiaaGreatDoorPw4
namespace Go.Proofs.YthpdpnpojgegiaaGreatDoor.P
open Go.RowKit Go.Proofs.YthpdpnpojgegiaaGreatDoorW.PrintWords Go.Proofs.YthpdpnpojgegiaaGreatDoorW.PrintLast Go.Proofs.YthpdpnpojgegiaaGreatDoorW.PrintMore
attribute [local go_sem] max2_int min2_int max_two min_two max_three min_three max_four min_four
set_option linter.unusedVariables false
set_option linter.unusedSimpArgs false
set_option maxHeartbeats 8000000
set_option maxRecDepth 100000

/-! ### spec_l15Attrs: function 44 -/
def spec_l15Attrs.l0 : Nat → List (S62) → Int → Option (Bool)
 | 0, _, _ => none
 | k + 1, x0, x3 => if x3 < (x0.length : Int) then (if 0 ≤ x3 then ((spec_NameOk.f k ((rd_T62 x0 x3).f0)).bind fun t206 => (if t206 = true then (if ((rd_T62 x0 x3).f0).toList = ([120, 109, 108, 110, 115] : List UInt8) then (some false) else ((spec_TextOk.f k ((rd_T62 x0 x3).f1)).bind fun t209 => (if t209 = true then (if x3 ≤ (x0.length : Int) then ((spec_l4Has.f k (x0.take (x3 : Int).toNat) ((rd_T62 x0 x3).f0)).bind fun t215 => (if t215 = true then (some false) else (spec_l15Attrs.l0 k x0 (wrap64 (x3 + 1))))) else (none)) else (some false)))) else (some false))) else (none)) else (some true)
def spec_l15Attrs.f (k : Nat) (l0 : List (S62)) : Option (Bool) := spec_l15Attrs.l0 k l0 0
theorem spec_l15Attrs.mono_l : ∀ k, (∀ y0 y1, LeO (spec_l15Attrs.l0 k y0 y1) (spec_l15Attrs.l0 (k + 1) y0 y1))
 | 0 => fun _ _ r h => by simp [spec_l15Attrs.l0] at h
 | k + 1 => by
  have ih0 := spec_l15Attrs.mono_l k
  ·intro y0 y1
   unfold spec_l15Attrs.l0
   repeat' with_reducible first | exact ih0 _ _ | exact spec_NameOk.mono _ _ | exact spec_TextOk.mono _ _ | exact spec_l4Has.mono _ _ _ | exact LeO.refl _ | exact LeO.none _ | refine LeO.ite ?_ ?_ | refine LeO.bind ?_ fun _ => ?_
theorem spec_l15Attrs.mono : ∀ a0 k, LeO (spec_l15Attrs.f k a0) (spec_l15Attrs.f (k + 1) a0) := by
 intro a0 k
 have ih0 := spec_l15Attrs.mono_l k
 unfold spec_l15Attrs.f
 repeat' with_reducible first | exact ih0 _ _ | exact spec_NameOk.mono _ _ | exact spec_TextOk.mono _ _ | exact spec_l4Has.mono _ _ _ | exact LeO.refl _ | exact LeO.none _ | refine LeO.ite ?_ ?_ | refine LeO.bind ?_ fun _ => ?_
def spec_l15Attrs.T4 : Bool × List (List Nat × List Nat) := (true, [([], []), ([], []), ([0, 1], [0, 1]), ([2], [2]), ([3], [3]), ([4], [4]), ([5], [5]), ([6, 5], [6]), ([7], [7]), ([7], [7]), ([8, 9, 7], [7, 8, 9]), ([10, 7], [7, 10]), ([11, 7], [7, 11]), ([12, 7], [7, 12]), ([7, 13], [7, 13]), ([14, 7], [14]), ([15], [15]), ([15], [15]), ([16, 17, 15], [15, 16, 17]), ([18, 15], [15, 18]), ([19, 15], [15, 19]), ([20, 15, 15], [15, 20]), ([21, 15], [15, 21]), ([15, 22], [15, 22]), ([23, 21], [23]), ([24], [24]), ([24], [24]), ([25, 26, 24], [24, 25, 26]), ([24], [24]), ([24], [24]), ([28, 29, 24], [24, 28, 29]), ([30, 24], [24, 30]), ([31, 24], [24, 31]), ([27, 32, 24, 24], [24, 27, 32]), ([24, 33], [24, 33])])
def spec_l15Attrs.B4 : List Nat := [0, 0, 3, 7, 15, 31, 63, 127, 255, 255, 1023, 2047, 4095, 8191, 16383, 32767, 65535, 65535, 262143, 524287, 1048575, 2097151, 4194303, 8388607, 16777215, 33554431, 33554431, 134217727, 33554431, 33554431, 838860799, 1912602623, 4060086271, 8589934591, 17179869183]
theorem spec_l15Attrs.tab4 : rtab .any (opsOf Tryz.f44 4) = spec_l15Attrs.T4 := by kernel_rfl
theorem spec_l15Attrs.bits4 : waitsOk spec_l15Attrs.T4.2 spec_l15Attrs.B4 = true := by kernel_rfl
theorem spec_l15Attrs.calls (k : Nat) (A0 : Option Addr) (c0 : Nat) (l0 : List (S62)) (r : Bool) (w : World) (hr0 : Kd.C k62 w A0 l0.length l0) (hc0 : l0.length ≤ c0) (h : spec_l15Attrs.f k l0 = some r) :
  Calls Tryz.prog 44 #[.slice A0 l0.length c0] w fun e w' => e = .returned (.bool r) ∧ Below w.heap.size w w' := by
 have HR0 := am hr0
 have HC0 := am hc0
 clear hr0 hc0
 have HB := am (Below.refl w.heap.size w)
 have H : (spec_l15Attrs.l0 k l0 0) = some r := h
 clear h
 have H' := am H
 clear H
 go_enter Tryz.func44, Tryz.ntmps44
 go_wp2
 go_loopg [3] k (fun kq v3 w' => ∃ (x3_1 : Int), v3 = .int .i64 x3_1 ∧ Aside0 (spec_l15Attrs.l0 kq l0 x3_1 = some r) ∧ Aside0 (kq ≤ k) ∧ Aside0 (Below w.heap.size w w'))
 case atStart => exact ⟨(0), ab6, H', ⟨Nat.le_refl _⟩, ⟨ab1⟩⟩
 case round =>
  clear H'
  obtain ⟨x3_1, rfl, HA, HK1, HB⟩ := hrel
  cases gk with
  | zero => exact absurd HA.out (by simp [spec_l15Attrs.l0])
  | succ k1 =>
   have H := HA.out
   clear HA
   simp only [spec_l15Attrs.l0] at H
   replace H := ir_ H; rcases H with ⟨c2b0, H⟩ | ⟨c2b0, H⟩
   ·replace H := iq_ H; obtain ⟨c3b0, H⟩ := H
    replace H := bi_ H; obtain ⟨t206, A4, H⟩ := H
    replace H := ib_ H; rcases H with ⟨rfl, H⟩ | ⟨rfl, H⟩
    ·replace H := ie_ H; rcases H with ⟨c6b0, c6b1, H⟩ | ⟨c6, c6b0, c6b1, H⟩
     ·obtain rfl := Option.some.inj H
      try go_wp2
      replace HB := am (below_drew1 HB.out)
      have p205 : 0 ≤ (x3_1 : Int) := of_decide_eq_true ab4
      have q205 : x3_1 < (l0.length : Int) := of_decide_eq_true ab4
      obtain ⟨ad205, e205, hx205_0, hx205_1⟩ := at_T62 HR0.out x3_1 p205 q205
      have hw205_1 := hx205_1
      have hw205_0 := hx205_0
      cases e205
      replace hx205_0 := pc_ HB hx205_0
      replace hx205_1 := pc_ HB hx205_1
      replace p205 := eq_true p205
      replace q205 := eq_true q205
      have p207 : 0 ≤ (x3_1 : Int) := of_decide_eq_true ab4
      have q207 : x3_1 < (l0.length : Int) := of_decide_eq_true ab4
      obtain ⟨ad207, e207, hx207_0, hx207_1⟩ := at_T62 HR0.out x3_1 p207 q207
      have hw207_1 := hx207_1
      have hw207_0 := hx207_0
      obtain rfl : ad205 = ad207 := (by injection e207)
      replace hx207_0 := pc_ HB hx207_0
      replace hx207_1 := pc_ HB hx207_1
      replace p207 := eq_true p207
      replace q207 := eq_true q207
      refine start_ (n := 35) (S := fun w' => w'.cell? (ad205.add ((x3_1).toNat * 2)) = some (.string ((rd_T62 l0 x3_1).f0)) ∧ w'.cell? ⟨(ad205.add ((x3_1).toNat * 2)).block, (ad205.add ((x3_1).toNat * 2)).off + 1, none⟩ = some (.string ((rd_T62 l0 x3_1).f1)) ∧ w'.cell? (ad205.add ((x3_1).toNat * 2)) = some (.string ((rd_T62 l0 x3_1).f0)) ∧ w'.cell? ⟨(ad205.add ((x3_1).toNat * 2)).block, (ad205.add ((x3_1).toNat * 2)).off + 1, none⟩ = some (.string ((rd_T62 l0 x3_1).f1))) (ds := []) #[false, false, false, false, false, false, false, false, false, false, false, false, false, false, false, false, false, false, false, false, false, false, false, false, false, false, false, false, false, false, false, false, false, false, false] (by kernel_rfl) rfl rfl ⟨(pc_ HB hw205_0 :), (pc_ HB hw205_1 :), (pc_ HB hw207_0 :), (pc_ HB hw207_1 :)⟩ (fun hHeld => ?_); refine with_tabW spec_l15Attrs.tab4 spec_l15Attrs.bits4 (fun HT_ HW_ => ?_)
      generalize wr.drew = w7 at HB hx205_0 hx205_1 hx207_0 hx207_1 hHeld ⊢
      refine pa_ 0 10 HT_ ?_
      refine pa_ 1 11 HT_ ?_
      refine pa_ 2 12 HT_ ?_
      refine pa_ 3 13 HT_ ?_
      refine tk_ 4 14 HT_ HW_ hHeld ?_
      refine on_ 5 15 HT_ fun K hK => ?_
      refine goes_ Tryz.func43 (by kernel_rfl) rfl #[.string ((rd_T62 l0 x3_1).f0)] (by rfl) rfl rfl ab5 ?_
      with_reducible refine (spec_NameOk.calls k1 ((rd_T62 l0 x3_1).f0) true _ A4.out).mono ?_
      rintro e w8 ⟨rfl, hb⟩
      refine ⟨_, rfl, ?_⟩
      replace HB := am (below_step ab1 hb)
      (try clear hb)
      (try clear hb2)
      (try clear hk)
      (try clear hi)
      refine hK.out _ _ ⟨(pc_ HB hw205_0 :), (pc_ HB hw205_1 :), (pc_ HB hw207_0 :), (pc_ HB hw207_1 :)⟩ (fun hHeld => ?_)
      clear hK K
      refine nm_ ?_
      refine pa_ 6 16 HT_ ?_
      refine pa_ 7 17 HT_ ?_
      refine pa_ 8 18 HT_ ?_
      refine pa_ 9 19 HT_ ?_
      refine pa_ 10 20 HT_ ?_
      refine pa_ 11 21 HT_ ?_
      refine tk_ 12 22 HT_ HW_ hHeld ?_
      refine pa_ 13 23 HT_ ?_
      refine pa_ 14 24 HT_ ?_
      refine pa_ 15 25 HT_ ?_
      refine pu_ 16 26 HT_ ?_
      refine pu_ 17 27 HT_ ?_
      refine pu_ 18 28 HT_ ?_
      refine pu_ 19 29 HT_ ?_
      refine pu_ 20 30 HT_ ?_
      refine pu_ 21 31 HT_ ?_
      refine pu_ 22 32 HT_ ?_
      refine pa_ 23 33 HT_ ?_
      refine pa_ 24 34 HT_ ?_
      refine pu_ 25 35 HT_ ?_
      refine pu_ 26 36 HT_ ?_
      refine pu_ 27 37 HT_ ?_
      refine pu_ 28 38 HT_ ?_
      refine pu_ 29 39 HT_ ?_
      refine pu_ 30 40 HT_ ?_
      refine pu_ 31 41 HT_ ?_
      refine pu_ 32 42 HT_ ?_
      refine pu_ 33 43 HT_ ?_
      refine pa_ 34 44 HT_ ?_
      refine dn_ HT_ ?_
      try go_wp2
      go_ret
      exact ⟨ab7, ab1⟩
     ·replace H := bi_ H; obtain ⟨t209, A9, H⟩ := H
      replace H := ib_ H; rcases H with ⟨rfl, H⟩ | ⟨rfl, H⟩
      ·have c11b0 := eq_true (of_decide_eq_true ab4 : 0 ≤ x3_1)
       by_cases c12 : x3_1 ≤ (l0.length : Int)
       case neg => rw [if_neg c12] at H; exact absurd H (by simp)
       rw [if_pos c12] at H
       have c12b0 := eq_true c12
       have c12b1 := decide_eq_true c12
       clear c12
       obtain ⟨y210, hy210⟩ : ∃ y_ : List (S62), y_ = (l0.take (x3_1 : Int).toNat) := ⟨_, rfl⟩
       replace H : ((spec_l4Has.f k1 y210 ((rd_T62 l0 x3_1).f0)).bind fun t215 => (if t215 = true then (some false) else (spec_l15Attrs.l0 k1 l0 (wrap64 (x3_1 + 1))))) = some r := by first | (rw [hy210]; with_reducible exact H) | (have H2_ := (Option.bind_some _ _).symm.trans H; rw [hy210]; with_reducible exact H2_) | (have H2_ := (Option.bind_some _ _).symm.trans H; with_reducible exact H2_) | with_reducible exact H | (rw [hy210]; exact H) | exact H
       have Ny210 := am hy210
       clear hy210
       replace H := bi_ H; obtain ⟨t215, A13, H⟩ := H
       replace H := ib_ H; rcases H with ⟨rfl, H⟩ | ⟨rfl, H⟩
       ·obtain rfl := Option.some.inj H
        try go_wp2
        replace HB := am (below_drew1 HB.out)
        have p205 : 0 ≤ (x3_1 : Int) := of_decide_eq_true ab4
        have q205 : x3_1 < (l0.length : Int) := of_decide_eq_true ab4
        obtain ⟨ad205, e205, hx205_0, hx205_1⟩ := at_T62 HR0.out x3_1 p205 q205
        have hw205_1 := hx205_1
        have hw205_0 := hx205_0
        cases e205
        replace hx205_0 := pc_ HB hx205_0
        replace hx205_1 := pc_ HB hx205_1
        replace p205 := eq_true p205
        replace q205 := eq_true q205
        have p207 : 0 ≤ (x3_1 : Int) := of_decide_eq_true ab4
        have q207 : x3_1 < (l0.length : Int) := of_decide_eq_true ab4
        obtain ⟨ad207, e207, hx207_0, hx207_1⟩ := at_T62 HR0.out x3_1 p207 q207
        have hw207_1 := hx207_1
        have hw207_0 := hx207_0
        obtain rfl : ad205 = ad207 := (by injection e207)
        replace hx207_0 := pc_ HB hx207_0
        replace hx207_1 := pc_ HB hx207_1
        replace p207 := eq_true p207
        replace q207 := eq_true q207
        have p208 : 0 ≤ (x3_1 : Int) := of_decide_eq_true ab4
        have q208 : x3_1 < (l0.length : Int) := of_decide_eq_true ab4
        obtain ⟨ad208, e208, hx208_0, hx208_1⟩ := at_T62 HR0.out x3_1 p208 q208
        have hw208_1 := hx208_1
        have hw208_0 := hx208_0
        obtain rfl : ad205 = ad208 := (by injection e208)
        replace hx208_0 := pc_ HB hx208_0
        replace hx208_1 := pc_ HB hx208_1
        replace p208 := eq_true p208
        replace q208 := eq_true q208
        have p214 : 0 ≤ (x3_1 : Int) := of_decide_eq_true ab4
        have q214 : x3_1 < (l0.length : Int) := of_decide_eq_true ab4
        obtain ⟨ad214, e214, hx214_0, hx214_1⟩ := at_T62 HR0.out x3_1 p214 q214
        have hw214_1 := hx214_1
        have hw214_0 := hx214_0
        obtain rfl : ad205 = ad214 := (by injection e214)
        replace hx214_0 := pc_ HB hx214_0
        replace hx214_1 := pc_ HB hx214_1
        replace p214 := eq_true p214
        replace q214 := eq_true q214
        refine start_ (n := 35) (S := fun w' => w'.cell? (ad205.add ((x3_1).toNat * 2)) = some (.string ((rd_T62 l0 x3_1).f0)) ∧ w'.cell? ⟨(ad205.add ((x3_1).toNat * 2)).block, (ad205.add ((x3_1).toNat * 2)).off + 1, none⟩ = some (.string ((rd_T62 l0 x3_1).f1)) ∧ w'.cell? (ad205.add ((x3_1).toNat * 2)) = some (.string ((rd_T62 l0 x3_1).f0)) ∧ w'.cell? ⟨(ad205.add ((x3_1).toNat * 2)).block, (ad205.add ((x3_1).toNat * 2)).off + 1, none⟩ = some (.string ((rd_T62 l0 x3_1).f1)) ∧ w'.cell? (ad205.add ((x3_1).toNat * 2)) = some (.string ((rd_T62 l0 x3_1).f0)) ∧ w'.cell? ⟨(ad205.add ((x3_1).toNat * 2)).block, (ad205.add ((x3_1).toNat * 2)).off + 1, none⟩ = some (.string ((rd_T62 l0 x3_1).f1)) ∧ w'.cell? (ad205.add ((x3_1).toNat * 2)) = some (.string ((rd_T62 l0 x3_1).f0)) ∧ w'.cell? ⟨(ad205.add ((x3_1).toNat * 2)).block, (ad205.add ((x3_1).toNat * 2)).off + 1, none⟩ = some (.string ((rd_T62 l0 x3_1).f1))) (ds := []) #[false, false, false, false, false, false, false, false, false, false, false, false, false, false, false, false, false, false, false, false, false, false, false, false, false, false, false, false, false, false, false, false, false, false, false] (by kernel_rfl) rfl rfl ⟨(pc_ HB hw205_0 :), (pc_ HB hw205_1 :), (pc_ HB hw207_0 :), (pc_ HB hw207_1 :), (pc_ HB hw208_0 :), (pc_ HB hw208_1 :), (pc_ HB hw214_0 :), (pc_ HB hw214_1 :)⟩ (fun hHeld => ?_); refine with_tabW spec_l15Attrs.tab4 spec_l15Attrs.bits4 (fun HT_ HW_ => ?_)
        generalize wr.drew = w15 at HB hx205_0 hx205_1 hx207_0 hx207_1 hx208_0 hx208_1 hx214_0 hx214_1 hHeld ⊢
        refine pa_ 0 10 HT_ ?_
        refine pa_ 1 11 HT_ ?_
        refine pa_ 2 12 HT_ ?_
        refine pa_ 3 13 HT_ ?_
        refine tk_ 4 14 HT_ HW_ hHeld ?_
        refine on_ 5 15 HT_ fun K hK => ?_
        refine goes_ Tryz.func43 (by kernel_rfl) rfl #[.string ((rd_T62 l0 x3_1).f0)] (by rfl) rfl rfl ab5 ?_
        with_reducible refine (spec_NameOk.calls k1 ((rd_T62 l0 x3_1).f0) true _ A4.out).mono ?_
        rintro e w16 ⟨rfl, hb⟩
        refine ⟨_, rfl, ?_⟩
        replace HB := am (below_step ab1 hb)
        (try clear hb)
        (try clear hb2)
        (try clear hk)
        (try clear hi)
        refine hK.out _ _ ⟨(pc_ HB hw205_0 :), (pc_ HB hw205_1 :), (pc_ HB hw207_0 :), (pc_ HB hw207_1 :), (pc_ HB hw208_0 :), (pc_ HB hw208_1 :), (pc_ HB hw214_0 :), (pc_ HB hw214_1 :)⟩ (fun hHeld => ?_)
        clear hK K
        refine nm_ ?_
        refine pa_ 6 16 HT_ ?_
        refine pa_ 7 17 HT_ ?_
        refine pa_ 8 18 HT_ ?_
        refine pa_ 9 19 HT_ ?_
        refine pa_ 10 20 HT_ ?_
        refine pa_ 11 21 HT_ ?_
        refine tk_ 12 22 HT_ HW_ hHeld ?_
        refine pa_ 13 23 HT_ ?_
        refine pa_ 14 24 HT_ ?_
        refine pa_ 15 25 HT_ ?_
        refine pa_ 16 26 HT_ ?_
        refine pa_ 17 27 HT_ ?_
        refine pa_ 18 28 HT_ ?_
        refine pa_ 19 29 HT_ ?_
        refine tk_ 20 30 HT_ HW_ hHeld ?_
        refine on_ 21 31 HT_ fun K hK => ?_
        refine goes_ Tryz.func45 (by kernel_rfl) rfl #[.string ((rd_T62 l0 x3_1).f1)] (by rfl) rfl rfl ab5 ?_
        with_reducible refine (spec_TextOk.calls k1 ((rd_T62 l0 x3_1).f1) true _ A9.out).mono ?_
        rintro e w17 ⟨rfl, hb⟩
        refine ⟨_, rfl, ?_⟩
        replace HB := am (below_step ab1 hb)
        (try clear hb)
        (try clear hb2)
        (try clear hk)
        (try clear hi)
        have q18 : (x3_1 : Int) ≤ ((l0.length : Int) : Int) := of_decide_eq_true ab4
        obtain ⟨i018, hi018, _, hsz18, _⟩ := info_parts info62
        have hroom18 : l0.length ≤ c0 := HC0.out
        have hC18 : Kd.C k62 _ (some ad205) l0.length l0 := HR0.out
        have hcut18 := cut_to (P := Tryz.prog) 28 62 .i64 Tryz.underlying28 hi018 (some ad205) l0.length c0 x3_1 (of_decide_eq_true ab4) q18 hroom18
        have hr18 := Kd.C_take (m := (x3_1 : Int).toNat) hC18 (by omega)
        have hy18 : y210.length = (x3_1 : Int).toNat := (by rw [Ny210.out, List.length_take]; omega)
        rw [← Ny210.out] at hr18
        rw [← hy18] at hcut18
        have HR213 := am hr18
        have HC213 := am (show y210.length ≤ c0 from by omega)
        clear hr18 hC18 hroom18 hi018 hsz18
        have KY18 := am hy18
        clear hy18
        replace q18 := eq_true q18
        refine hK.out _ _ ⟨(pc_ HB hw205_0 :), (pc_ HB hw205_1 :), (pc_ HB hw207_0 :), (pc_ HB hw207_1 :), (pc_ HB hw208_0 :), (pc_ HB hw208_1 :), (pc_ HB hw214_0 :), (pc_ HB hw214_1 :)⟩ (fun hHeld => ?_)
        clear hK K
        refine nm_ ?_
        refine pa_ 22 32 HT_ ?_
        refine pa_ 23 33 HT_ ?_
        refine pa_ 24 34 HT_ ?_
        refine pa_ 25 35 HT_ ?_
        refine pa_ 26 36 HT_ ?_
        refine pa_ 27 37 HT_ ?_
        refine pa_ 28 38 HT_ ?_
        refine pa_ 29 39 HT_ ?_
        refine pa_ 30 40 HT_ ?_
        refine pa_ 31 41 HT_ ?_
        refine tk_ 32 42 HT_ HW_ hHeld ?_
        refine on_ 33 43 HT_ fun K hK => ?_
        refine goes_ Tryz.func60 (by kernel_rfl) rfl #[.slice (some ad205) y210.length c0, .string ((rd_T62 l0 x3_1).f0)] (by rfl) rfl rfl ab5 ?_
        with_reducible refine (spec_l4Has.calls k1 _ _ y210 ((rd_T62 l0 x3_1).f0) true _ ?side1 ?side2 A13.out).mono ?_
        (case side1 => repeat (first | exact (Kd.C_below HR213.out HB.out) | (with_reducible refine Kd.C_alloc ?_ _) | (with_reducible refine Kd.C_drewN ?_ _) | (with_reducible refine Kd.C_drew ?_)))
        (case side2 => exact HC213.out)
        rintro e w' ⟨rfl, ⟨nd, rfl⟩⟩
        refine ⟨_, rfl, ?_⟩
        refine hK.out _ _ ⟨(pc_ HB hw205_0 :), (pc_ HB hw205_1 :), (pc_ HB hw207_0 :), (pc_ HB hw207_1 :), (pc_ HB hw208_0 :), (pc_ HB hw208_1 :), (pc_ HB hw214_0 :), (pc_ HB hw214_1 :)⟩ (fun hHeld => ?_)
        clear hK K
        refine nm_ ?_
        refine pa_ 34 44 HT_ ?_
        refine dn_ HT_ ?_
        try go_wp2
        go_ret
        exact ⟨ab7, ab1⟩
       ·have H' := am H
        clear H
        try go_wp2
        replace HB := am (below_drew1 HB.out)
        have p205 : 0 ≤ (x3_1 : Int) := of_decide_eq_true ab4
        have q205 : x3_1 < (l0.length : Int) := of_decide_eq_true ab4
        obtain ⟨ad205, e205, hx205_0, hx205_1⟩ := at_T62 HR0.out x3_1 p205 q205
        have hw205_1 := hx205_1
        have hw205_0 := hx205_0
        cases e205
        replace hx205_0 := pc_ HB hx205_0
        replace hx205_1 := pc_ HB hx205_1
        replace p205 := eq_true p205
        replace q205 := eq_true q205
        have p207 : 0 ≤ (x3_1 : Int) := of_decide_eq_true ab4
        have q207 : x3_1 < (l0.length : Int) := of_decide_eq_true ab4
        obtain ⟨ad207, e207, hx207_0, hx207_1⟩ := at_T62 HR0.out x3_1 p207 q207
        have hw207_1 := hx207_1
        have hw207_0 := hx207_0
        obtain rfl : ad205 = ad207 := (by injection e207)
        replace hx207_0 := pc_ HB hx207_0
        replace hx207_1 := pc_ HB hx207_1
        replace p207 := eq_true p207
        replace q207 := eq_true q207
        have p208 : 0 ≤ (x3_1 : Int) := of_decide_eq_true ab4
        have q208 : x3_1 < (l0.length : Int) := of_decide_eq_true ab4
        obtain ⟨ad208, e208, hx208_0, hx208_1⟩ := at_T62 HR0.out x3_1 p208 q208
        have hw208_1 := hx208_1
        have hw208_0 := hx208_0
        obtain rfl : ad205 = ad208 := (by injection e208)
        replace hx208_0 := pc_ HB hx208_0
        replace hx208_1 := pc_ HB hx208_1
        replace p208 := eq_true p208
        replace q208 := eq_true q208
        have p214 : 0 ≤ (x3_1 : Int) := of_decide_eq_true ab4
        have q214 : x3_1 < (l0.length : Int) := of_decide_eq_true ab4
        obtain ⟨ad214, e214, hx214_0, hx214_1⟩ := at_T62 HR0.out x3_1 p214 q214
        have hw214_1 := hx214_1
        have hw214_0 := hx214_0
        obtain rfl : ad205 = ad214 := (by injection e214)
        replace hx214_0 := pc_ HB hx214_0
        replace hx214_1 := pc_ HB hx214_1
        replace p214 := eq_true p214
        replace q214 := eq_true q214
        refine start_ (n := 35) (S := fun w' => w'.cell? (ad205.add ((x3_1).toNat * 2)) = some (.string ((rd_T62 l0 x3_1).f0)) ∧ w'.cell? ⟨(ad205.add ((x3_1).toNat * 2)).block, (ad205.add ((x3_1).toNat * 2)).off + 1, none⟩ = some (.string ((rd_T62 l0 x3_1).f1)) ∧ w'.cell? (ad205.add ((x3_1).toNat * 2)) = some (.string ((rd_T62 l0 x3_1).f0)) ∧ w'.cell? ⟨(ad205.add ((x3_1).toNat * 2)).block, (ad205.add ((x3_1).toNat * 2)).off + 1, none⟩ = some (.string ((rd_T62 l0 x3_1).f1)) ∧ w'.cell? (ad205.add ((x3_1).toNat * 2)) = some (.string ((rd_T62 l0 x3_1).f0)) ∧ w'.cell? ⟨(ad205.add ((x3_1).toNat * 2)).block, (ad205.add ((x3_1).toNat * 2)).off + 1, none⟩ = some (.string ((rd_T62 l0 x3_1).f1)) ∧ w'.cell? (ad205.add ((x3_1).toNat * 2)) = some (.string ((rd_T62 l0 x3_1).f0)) ∧ w'.cell? ⟨(ad205.add ((x3_1).toNat * 2)).block, (ad205.add ((x3_1).toNat * 2)).off + 1, none⟩ = some (.string ((rd_T62 l0 x3_1).f1))) (ds := []) #[false, false, false, false, false, false, false, false, false, false, false, false, false, false, false, false, false, false, false, false, false, false, false, false, false, false, false, false, false, false, false, false, false, false, false] (by kernel_rfl) rfl rfl ⟨(pc_ HB hw205_0 :), (pc_ HB hw205_1 :), (pc_ HB hw207_0 :), (pc_ HB hw207_1 :), (pc_ HB hw208_0 :), (pc_ HB hw208_1 :), (pc_ HB hw214_0 :), (pc_ HB hw214_1 :)⟩ (fun hHeld => ?_); refine with_tabW spec_l15Attrs.tab4 spec_l15Attrs.bits4 (fun HT_ HW_ => ?_)
        generalize wr.drew = w19 at HB hx205_0 hx205_1 hx207_0 hx207_1 hx208_0 hx208_1 hx214_0 hx214_1 hHeld ⊢
        refine pa_ 0 10 HT_ ?_
        refine pa_ 1 11 HT_ ?_
        refine pa_ 2 12 HT_ ?_
        refine pa_ 3 13 HT_ ?_
        refine tk_ 4 14 HT_ HW_ hHeld ?_
        refine on_ 5 15 HT_ fun K hK => ?_
        refine goes_ Tryz.func43 (by kernel_rfl) rfl #[.string ((rd_T62 l0 x3_1).f0)] (by rfl) rfl rfl ab5 ?_
        with_reducible refine (spec_NameOk.calls k1 ((rd_T62 l0 x3_1).f0) true _ A4.out).mono ?_
        rintro e w20 ⟨rfl, hb⟩
        refine ⟨_, rfl, ?_⟩
        replace HB := am (below_step ab1 hb)
        (try clear hb)
        (try clear hb2)
        (try clear hk)
        (try clear hi)
        refine hK.out _ _ ⟨(pc_ HB hw205_0 :), (pc_ HB hw205_1 :), (pc_ HB hw207_0 :), (pc_ HB hw207_1 :), (pc_ HB hw208_0 :), (pc_ HB hw208_1 :), (pc_ HB hw214_0 :), (pc_ HB hw214_1 :)⟩ (fun hHeld => ?_)
        clear hK K
        refine nm_ ?_
        refine pa_ 6 16 HT_ ?_
        refine pa_ 7 17 HT_ ?_
        refine pa_ 8 18 HT_ ?_
        refine pa_ 9 19 HT_ ?_
        refine pa_ 10 20 HT_ ?_
        refine pa_ 11 21 HT_ ?_
        refine tk_ 12 22 HT_ HW_ hHeld ?_
        refine pa_ 13 23 HT_ ?_
        refine pa_ 14 24 HT_ ?_
        refine pa_ 15 25 HT_ ?_
        refine pa_ 16 26 HT_ ?_
        refine pa_ 17 27 HT_ ?_
        refine pa_ 18 28 HT_ ?_
        refine pa_ 19 29 HT_ ?_
        refine tk_ 20 30 HT_ HW_ hHeld ?_
        refine on_ 21 31 HT_ fun K hK => ?_
        refine goes_ Tryz.func45 (by kernel_rfl) rfl #[.string ((rd_T62 l0 x3_1).f1)] (by rfl) rfl rfl ab5 ?_
        with_reducible refine (spec_TextOk.calls k1 ((rd_T62 l0 x3_1).f1) true _ A9.out).mono ?_
        rintro e w21 ⟨rfl, hb⟩
        refine ⟨_, rfl, ?_⟩
        replace HB := am (below_step ab1 hb)
        (try clear hb)
        (try clear hb2)
        (try clear hk)
        (try clear hi)
        have q22 : (x3_1 : Int) ≤ ((l0.length : Int) : Int) := of_decide_eq_true ab4
        obtain ⟨i022, hi022, _, hsz22, _⟩ := info_parts info62
        have hroom22 : l0.length ≤ c0 := HC0.out
        have hC22 : Kd.C k62 _ (some ad205) l0.length l0 := HR0.out
        have hcut22 := cut_to (P := Tryz.prog) 28 62 .i64 Tryz.underlying28 hi022 (some ad205) l0.length c0 x3_1 (of_decide_eq_true ab4) q22 hroom22
        have hr22 := Kd.C_take (m := (x3_1 : Int).toNat) hC22 (by omega)
        have hy22 : y210.length = (x3_1 : Int).toNat := (by rw [Ny210.out, List.length_take]; omega)
        rw [← Ny210.out] at hr22
        rw [← hy22] at hcut22
        have HR213 := am hr22
        have HC213 := am (show y210.length ≤ c0 from by omega)
        clear hr22 hC22 hroom22 hi022 hsz22
        have KY22 := am hy22
        clear hy22
        replace q22 := eq_true q22
        refine hK.out _ _ ⟨(pc_ HB hw205_0 :), (pc_ HB hw205_1 :), (pc_ HB hw207_0 :), (pc_ HB hw207_1 :), (pc_ HB hw208_0 :), (pc_ HB hw208_1 :), (pc_ HB hw214_0 :), (pc_ HB hw214_1 :)⟩ (fun hHeld => ?_)
        clear hK K
        refine nm_ ?_
        refine pa_ 22 32 HT_ ?_
        refine pa_ 23 33 HT_ ?_
        refine pa_ 24 34 HT_ ?_
        refine pa_ 25 35 HT_ ?_
        refine pa_ 26 36 HT_ ?_
        refine pa_ 27 37 HT_ ?_
        refine pa_ 28 38 HT_ ?_
        refine pa_ 29 39 HT_ ?_
        refine pa_ 30 40 HT_ ?_
        refine pa_ 31 41 HT_ ?_
        refine tk_ 32 42 HT_ HW_ hHeld ?_
        refine on_ 33 43 HT_ fun K hK => ?_
        refine goes_ Tryz.func60 (by kernel_rfl) rfl #[.slice (some ad205) y210.length c0, .string ((rd_T62 l0 x3_1).f0)] (by rfl) rfl rfl ab5 ?_
        with_reducible refine (spec_l4Has.calls k1 _ _ y210 ((rd_T62 l0 x3_1).f0) false _ ?side1 ?side2 A13.out).mono ?_
        (case side1 => repeat (first | exact (Kd.C_below HR213.out HB.out) | (with_reducible refine Kd.C_alloc ?_ _) | (with_reducible refine Kd.C_drewN ?_ _) | (with_reducible refine Kd.C_drew ?_)))
        (case side2 => exact HC213.out)
        rintro e w' ⟨rfl, ⟨nd, rfl⟩⟩
        refine ⟨_, rfl, ?_⟩
        refine hK.out _ _ ⟨(pc_ HB hw205_0 :), (pc_ HB hw205_1 :), (pc_ HB hw207_0 :), (pc_ HB hw207_1 :), (pc_ HB hw208_0 :), (pc_ HB hw208_1 :), (pc_ HB hw214_0 :), (pc_ HB hw214_1 :)⟩ (fun hHeld => ?_)
        clear hK K
        refine nm_ ?_
        refine pa_ 34 44 HT_ ?_
        refine dn_ HT_ ?_
        try go_wp2
        go_roundg k1
        case measure => have := HK1.out; omega
        case rel => exact ⟨(wrap64 (x3_1 + 1)), ab6, H', ⟨by have := HK1.out; omega⟩, ⟨ab1⟩⟩
      ·obtain rfl := Option.some.inj H
       try go_wp2
       replace HB := am (below_drew1 HB.out)
       have p205 : 0 ≤ (x3_1 : Int) := of_decide_eq_true ab4
       have q205 : x3_1 < (l0.length : Int) := of_decide_eq_true ab4
       obtain ⟨ad205, e205, hx205_0, hx205_1⟩ := at_T62 HR0.out x3_1 p205 q205
       have hw205_1 := hx205_1
       have hw205_0 := hx205_0
       cases e205
       replace hx205_0 := pc_ HB hx205_0
       replace hx205_1 := pc_ HB hx205_1
       replace p205 := eq_true p205
       replace q205 := eq_true q205
       have p207 : 0 ≤ (x3_1 : Int) := of_decide_eq_true ab4
       have q207 : x3_1 < (l0.length : Int) := of_decide_eq_true ab4
       obtain ⟨ad207, e207, hx207_0, hx207_1⟩ := at_T62 HR0.out x3_1 p207 q207
       have hw207_1 := hx207_1
       have hw207_0 := hx207_0
       obtain rfl : ad205 = ad207 := (by injection e207)
       replace hx207_0 := pc_ HB hx207_0
       replace hx207_1 := pc_ HB hx207_1
       replace p207 := eq_true p207
       replace q207 := eq_true q207
       have p208 : 0 ≤ (x3_1 : Int) := of_decide_eq_true ab4
       have q208 : x3_1 < (l0.length : Int) := of_decide_eq_true ab4
       obtain ⟨ad208, e208, hx208_0, hx208_1⟩ := at_T62 HR0.out x3_1 p208 q208
       have hw208_1 := hx208_1
       have hw208_0 := hx208_0
       obtain rfl : ad205 = ad208 := (by injection e208)
       replace hx208_0 := pc_ HB hx208_0
       replace hx208_1 := pc_ HB hx208_1
       replace p208 := eq_true p208
       replace q208 := eq_true q208
       refine start_ (n := 35) (S := fun w' => w'.cell? (ad205.add ((x3_1).toNat * 2)) = some (.string ((rd_T62 l0 x3_1).f0)) ∧ w'.cell? ⟨(ad205.add ((x3_1).toNat * 2)).block, (ad205.add ((x3_1).toNat * 2)).off + 1, none⟩ = some (.string ((rd_T62 l0 x3_1).f1)) ∧ w'.cell? (ad205.add ((x3_1).toNat * 2)) = some (.string ((rd_T62 l0 x3_1).f0)) ∧ w'.cell? ⟨(ad205.add ((x3_1).toNat * 2)).block, (ad205.add ((x3_1).toNat * 2)).off + 1, none⟩ = some (.string ((rd_T62 l0 x3_1).f1)) ∧ w'.cell? (ad205.add ((x3_1).toNat * 2)) = some (.string ((rd_T62 l0 x3_1).f0)) ∧ w'.cell? ⟨(ad205.add ((x3_1).toNat * 2)).block, (ad205.add ((x3_1).toNat * 2)).off + 1, none⟩ = some (.string ((rd_T62 l0 x3_1).f1))) (ds := []) #[false, false, false, false, false, false, false, false, false, false, false, false, false, false, false, false, false, false, false, false, false, false, false, false, false, false, false, false, false, false, false, false, false, false, false] (by kernel_rfl) rfl rfl ⟨(pc_ HB hw205_0 :), (pc_ HB hw205_1 :), (pc_ HB hw207_0 :), (pc_ HB hw207_1 :), (pc_ HB hw208_0 :), (pc_ HB hw208_1 :)⟩ (fun hHeld => ?_); refine with_tabW spec_l15Attrs.tab4 spec_l15Attrs.bits4 (fun HT_ HW_ => ?_)
       generalize wr.drew = w23 at HB hx205_0 hx205_1 hx207_0 hx207_1 hx208_0 hx208_1 hHeld ⊢
       refine pa_ 0 10 HT_ ?_
       refine pa_ 1 11 HT_ ?_
       refine pa_ 2 12 HT_ ?_
       refine pa_ 3 13 HT_ ?_
       refine tk_ 4 14 HT_ HW_ hHeld ?_
       refine on_ 5 15 HT_ fun K hK => ?_
       refine goes_ Tryz.func43 (by kernel_rfl) rfl #[.string ((rd_T62 l0 x3_1).f0)] (by rfl) rfl rfl ab5 ?_
       with_reducible refine (spec_NameOk.calls k1 ((rd_T62 l0 x3_1).f0) true _ A4.out).mono ?_
       rintro e w24 ⟨rfl, hb⟩
       refine ⟨_, rfl, ?_⟩
       replace HB := am (below_step ab1 hb)
       (try clear hb)
       (try clear hb2)
       (try clear hk)
       (try clear hi)
       refine hK.out _ _ ⟨(pc_ HB hw205_0 :), (pc_ HB hw205_1 :), (pc_ HB hw207_0 :), (pc_ HB hw207_1 :), (pc_ HB hw208_0 :), (pc_ HB hw208_1 :)⟩ (fun hHeld => ?_)
       clear hK K
       refine nm_ ?_
       refine pa_ 6 16 HT_ ?_
       refine pa_ 7 17 HT_ ?_
       refine pa_ 8 18 HT_ ?_
       refine pa_ 9 19 HT_ ?_
       refine pa_ 10 20 HT_ ?_
       refine pa_ 11 21 HT_ ?_
       refine tk_ 12 22 HT_ HW_ hHeld ?_
       refine pa_ 13 23 HT_ ?_
       refine pa_ 14 24 HT_ ?_
       refine pa_ 15 25 HT_ ?_
       refine pa_ 16 26 HT_ ?_
       refine pa_ 17 27 HT_ ?_
       refine pa_ 18 28 HT_ ?_
       refine pa_ 19 29 HT_ ?_
       refine tk_ 20 30 HT_ HW_ hHeld ?_
       refine on_ 21 31 HT_ fun K hK => ?_
       refine goes_ Tryz.func45 (by kernel_rfl) rfl #[.string ((rd_T62 l0 x3_1).f1)] (by rfl) rfl rfl ab5 ?_
       with_reducible refine (spec_TextOk.calls k1 ((rd_T62 l0 x3_1).f1) false _ A9.out).mono ?_
       rintro e w25 ⟨rfl, hb⟩
       refine ⟨_, rfl, ?_⟩
       replace HB := am (below_step ab1 hb)
       (try clear hb)
       (try clear hb2)
       (try clear hk)
       (try clear hi)
       refine hK.out _ _ ⟨(pc_ HB hw205_0 :), (pc_ HB hw205_1 :), (pc_ HB hw207_0 :), (pc_ HB hw207_1 :), (pc_ HB hw208_0 :), (pc_ HB hw208_1 :)⟩ (fun hHeld => ?_)
       clear hK K
       refine nm_ ?_
       refine pa_ 22 32 HT_ ?_
       refine pa_ 23 33 HT_ ?_
       refine pa_ 24 34 HT_ ?_
       refine pu_ 25 35 HT_ ?_
       refine pu_ 26 36 HT_ ?_
       refine pu_ 27 37 HT_ ?_
       refine pu_ 28 38 HT_ ?_
       refine pu_ 29 39 HT_ ?_
       refine pu_ 30 40 HT_ ?_
       refine pu_ 31 41 HT_ ?_
       refine pu_ 32 42 HT_ ?_
       refine pu_ 33 43 HT_ ?_
       refine pa_ 34 44 HT_ ?_
       refine dn_ HT_ ?_
       try go_wp2
       go_ret
       exact ⟨ab7, ab1⟩
    ·obtain rfl := Option.some.inj H
     try go_wp2
     replace HB := am (below_drew1 HB.out)
     have p205 : 0 ≤ (x3_1 : Int) := of_decide_eq_true ab4
     have q205 : x3_1 < (l0.length : Int) := of_decide_eq_true ab4
     obtain ⟨ad205, e205, hx205_0, hx205_1⟩ := at_T62 HR0.out x3_1 p205 q205
     have hw205_1 := hx205_1
     have hw205_0 := hx205_0
     cases e205
     replace hx205_0 := pc_ HB hx205_0
     replace hx205_1 := pc_ HB hx205_1
     replace p205 := eq_true p205
     replace q205 := eq_true q205
     refine start_ (n := 35) (S := fun w' => w'.cell? (ad205.add ((x3_1).toNat * 2)) = some (.string ((rd_T62 l0 x3_1).f0)) ∧ w'.cell? ⟨(ad205.add ((x3_1).toNat * 2)).block, (ad205.add ((x3_1).toNat * 2)).off + 1, none⟩ = some (.string ((rd_T62 l0 x3_1).f1))) (ds := []) #[false, false, false, false, false, false, false, false, false, false, false, false, false, false, false, false, false, false, false, false, false, false, false, false, false, false, false, false, false, false, false, false, false, false, false] (by kernel_rfl) rfl rfl ⟨(pc_ HB hw205_0 :), (pc_ HB hw205_1 :)⟩ (fun hHeld => ?_); refine with_tabW spec_l15Attrs.tab4 spec_l15Attrs.bits4 (fun HT_ HW_ => ?_)
     generalize wr.drew = w26 at HB hx205_0 hx205_1 hHeld ⊢
     refine pa_ 0 10 HT_ ?_
     refine pa_ 1 11 HT_ ?_
     refine pa_ 2 12 HT_ ?_
     refine pa_ 3 13 HT_ ?_
     refine tk_ 4 14 HT_ HW_ hHeld ?_
     refine on_ 5 15 HT_ fun K hK => ?_
     refine goes_ Tryz.func43 (by kernel_rfl) rfl #[.string ((rd_T62 l0 x3_1).f0)] (by rfl) rfl rfl ab5 ?_
     with_reducible refine (spec_NameOk.calls k1 ((rd_T62 l0 x3_1).f0) false _ A4.out).mono ?_
     rintro e w27 ⟨rfl, hb⟩
     refine ⟨_, rfl, ?_⟩
     replace HB := am (below_step ab1 hb)
     (try clear hb)
     (try clear hb2)
     (try clear hk)
     (try clear hi)
     refine hK.out _ _ ⟨(pc_ HB hw205_0 :), (pc_ HB hw205_1 :)⟩ (fun hHeld => ?_)
     clear hK K
     refine nm_ ?_
     refine pa_ 6 16 HT_ ?_
     refine pa_ 7 17 HT_ ?_
     refine pu_ 8 18 HT_ ?_
     refine pu_ 9 19 HT_ ?_
     refine pu_ 10 20 HT_ ?_
     refine pu_ 11 21 HT_ ?_
     refine pu_ 12 22 HT_ ?_
     refine pu_ 13 23 HT_ ?_
     refine pa_ 14 24 HT_ ?_
     refine pa_ 15 25 HT_ ?_
     refine pu_ 16 26 HT_ ?_
     refine pu_ 17 27 HT_ ?_
     refine pu_ 18 28 HT_ ?_
     refine pu_ 19 29 HT_ ?_
     refine pu_ 20 30 HT_ ?_
     refine pu_ 21 31 HT_ ?_
     refine pu_ 22 32 HT_ ?_
     refine pa_ 23 33 HT_ ?_
     refine pa_ 24 34 HT_ ?_
     refine pu_ 25 35 HT_ ?_
     refine pu_ 26 36 HT_ ?_
     refine pu_ 27 37 HT_ ?_
     refine pu_ 28 38 HT_ ?_
     refine pu_ 29 39 HT_ ?_
     refine pu_ 30 40 HT_ ?_
     refine pu_ 31 41 HT_ ?_
     refine pu_ 32 42 HT_ ?_
     refine pu_ 33 43 HT_ ?_
     refine pa_ 34 44 HT_ ?_
     refine dn_ HT_ ?_
     try go_wp2
     go_ret
     exact ⟨ab7, ab1⟩
   ·obtain rfl := Option.some.inj H
    go_wp2
    go_ret
    exact ⟨ab7, ab1⟩

end Go.Proofs.YthpdpnpojgegiaaGreatDoor.P
