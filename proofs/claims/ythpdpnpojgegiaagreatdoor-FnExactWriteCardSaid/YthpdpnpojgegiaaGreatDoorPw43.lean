-- WRITTEN BY hprint.py
import Derived.Test.YthpdpnpojgegiaaGreatDoorPw0
import Derived.Test.YthpdpnpojgegiaaGreatDoorPw42
namespace Go.Proofs.YthpdpnpojgegiaaGreatDoor.P
open Go.RowKit Go.Proofs.YthpdpnpojgegiaaGreatDoorW.PrintWords Go.Proofs.YthpdpnpojgegiaaGreatDoorW.PrintLast Go.Proofs.YthpdpnpojgegiaaGreatDoorW.PrintMore
attribute [local go_sem] max2_int min2_int max_two min_two max_three min_three max_four min_four
set_option linter.unusedVariables false
set_option linter.unusedSimpArgs false
set_option maxHeartbeats 8000000
set_option maxRecDepth 100000

mutual
def laws_eqElS.l0 : Nat → List (S31) → List (S31) → Int → Option (Bool)
 | 0, _, _, _ => none
 | k + 1, x0, x1, x5 => if x5 < (x0.length : Int) then (if 0 ≤ x5 then (if x5 < (x1.length : Int) then ((laws_eqEl.f k ((rd_T31 x0 x5).f0) ((rd_T31 x0 x5).f1) ((rd_T31 x0 x5).f2) ((rd_T31 x0 x5).f3) ((rd_T31 x0 x5).f4) ((rd_T31 x0 x5).f5) ((rd_T31 x1 x5).f0) ((rd_T31 x1 x5).f1) ((rd_T31 x1 x5).f2) ((rd_T31 x1 x5).f3) ((rd_T31 x1 x5).f4) ((rd_T31 x1 x5).f5)).bind fun t418 => (if t418 = true then (laws_eqElS.l0 k x0 x1 (wrap64 (x5 + 1))) else (some false))) else (none)) else (none)) else (some true)
def laws_eqElS.f : Nat → List (S31) → List (S31) → Option (Bool)
 | 0, _, _ => none
 | k + 1, l0, l1 => if (l0.length : Int) = (l1.length : Int) then (laws_eqElS.l0 k l0 l1 0) else (some false)
def laws_eqEl.f : Nat → Int → Int → ByteArray → List (S62) → ByteArray → List (S31) → Int → Int → ByteArray → List (S62) → ByteArray → List (S31) → Option (Bool)
 | 0, _, _, _, _, _, _, _, _, _, _, _, _ => none
 | k + 1, a0_0, a0_1, a0_2, l0_3, a0_4, l0_5, a1_0, a1_1, a1_2, l1_3, a1_4, l1_5 => if a0_0 = a1_0 then (if a0_1 = a1_1 then (if a0_2.toList = a1_2.toList then ((laws_eqAttrS.f k l0_3 l1_3).bind fun t421 => (if t421 = true then (if a0_4.toList = a1_4.toList then ((laws_eqElS.f k l0_5 l1_5).bind fun t422 => (if t422 = true then (some true) else (some false))) else (some false)) else (some false))) else (some false)) else (some false)) else (some false)
end
theorem laws_eqElS_laws_eqEl.mono_l : ∀ k, (∀ y0 y1, LeO (laws_eqElS.f k y0 y1) (laws_eqElS.f (k + 1) y0 y1)) ∧ (∀ y0 y1 y2, LeO (laws_eqElS.l0 k y0 y1 y2) (laws_eqElS.l0 (k + 1) y0 y1 y2)) ∧ (∀ y0 y1 y2 y3 y4 y5 y6 y7 y8 y9 y10 y11, LeO (laws_eqEl.f k y0 y1 y2 y3 y4 y5 y6 y7 y8 y9 y10 y11) (laws_eqEl.f (k + 1) y0 y1 y2 y3 y4 y5 y6 y7 y8 y9 y10 y11))
 | 0 => ⟨fun _ _ r h => by simp [laws_eqElS.f] at h, fun _ _ _ r h => by simp [laws_eqElS.l0] at h, fun _ _ _ _ _ _ _ _ _ _ _ _ r h => by simp [laws_eqEl.f] at h⟩
 | k + 1 => by
  obtain ⟨ih0, ih1, ih2⟩ := laws_eqElS_laws_eqEl.mono_l k
  refine ⟨?_, ?_, ?_⟩
  ·intro y0 y1
   unfold laws_eqElS.f
   repeat' with_reducible first | exact ih0 _ _ | exact ih1 _ _ _ | exact ih2 _ _ _ _ _ _ _ _ _ _ _ _ | exact laws_eqAttrS.mono _ _ _ | exact LeO.refl _ | exact LeO.none _ | refine LeO.ite ?_ ?_ | refine LeO.bind ?_ fun _ => ?_
  ·intro y0 y1 y2
   unfold laws_eqElS.l0
   repeat' with_reducible first | exact ih0 _ _ | exact ih1 _ _ _ | exact ih2 _ _ _ _ _ _ _ _ _ _ _ _ | exact laws_eqAttrS.mono _ _ _ | exact LeO.refl _ | exact LeO.none _ | refine LeO.ite ?_ ?_ | refine LeO.bind ?_ fun _ => ?_
  ·intro y0 y1 y2 y3 y4 y5 y6 y7 y8 y9 y10 y11
   unfold laws_eqEl.f
   repeat' with_reducible first | exact ih0 _ _ | exact ih1 _ _ _ | exact ih2 _ _ _ _ _ _ _ _ _ _ _ _ | exact laws_eqAttrS.mono _ _ _ | exact LeO.refl _ | exact LeO.none _ | refine LeO.ite ?_ ?_ | refine LeO.bind ?_ fun _ => ?_
theorem laws_eqElS.mono : ∀ a0 a1 k, LeO (laws_eqElS.f k a0 a1) (laws_eqElS.f (k + 1) a0 a1) := fun a0 a1 k => (laws_eqElS_laws_eqEl.mono_l k).1 a0 a1
theorem laws_eqEl.mono : ∀ a0 a1 a2 a3 a4 a5 a6 a7 a8 a9 a10 a11 k, LeO (laws_eqEl.f k a0 a1 a2 a3 a4 a5 a6 a7 a8 a9 a10 a11) (laws_eqEl.f (k + 1) a0 a1 a2 a3 a4 a5 a6 a7 a8 a9 a10 a11) := fun a0 a1 a2 a3 a4 a5 a6 a7 a8 a9 a10 a11 k => (laws_eqElS_laws_eqEl.mono_l k).2.2 a0 a1 a2 a3 a4 a5 a6 a7 a8 a9 a10 a11
/-! ### laws_eqElS: function 14 -/
def laws_eqElS.T6 : Bool × List (List Nat × List Nat) := (true, [([], []), ([], []), ([0, 1], [0, 1]), ([2], [2]), ([], []), ([], []), ([4, 5], [4, 5]), ([6], [6]), ([3, 7], [3, 7]), ([8], [8])])
def laws_eqElS.B6 : List Nat := [0, 0, 3, 7, 0, 0, 48, 112, 255, 511]
theorem laws_eqElS.tab6 : rtab .any (opsOf Tryz.f14 6) = laws_eqElS.T6 := by kernel_rfl
theorem laws_eqElS.bits6 : waitsOk laws_eqElS.T6.2 laws_eqElS.B6 = true := by kernel_rfl
theorem laws_eqElS.calls_ (k : Nat) (ih_laws_eqEl : ∀ m, m < k → (∀ (a0_0 : Int) (a0_1 : Int) (a0_2 : ByteArray) (A0_3 : Option Addr) (c0_3 : Nat) (l0_3 : List (S62)) (a0_4 : ByteArray) (A0_5 : Option Addr) (c0_5 : Nat) (l0_5 : List (S31)) (a1_0 : Int) (a1_1 : Int) (a1_2 : ByteArray) (A1_3 : Option Addr) (c1_3 : Nat) (l1_3 : List (S62)) (a1_4 : ByteArray) (A1_5 : Option Addr) (c1_5 : Nat) (l1_5 : List (S31)) (r : Bool) (w : World) (hr0_3 : Kd.C k62 w A0_3 l0_3.length l0_3) (hc0_3 : l0_3.length ≤ c0_3) (hr0_5 : Kd.C k31 w A0_5 l0_5.length l0_5) (hc0_5 : l0_5.length ≤ c0_5) (hr1_3 : Kd.C k62 w A1_3 l1_3.length l1_3) (hc1_3 : l1_3.length ≤ c1_3) (hr1_5 : Kd.C k31 w A1_5 l1_5.length l1_5) (hc1_5 : l1_5.length ≤ c1_5) (h : laws_eqEl.f m a0_0 a0_1 a0_2 l0_3 a0_4 l0_5 a1_0 a1_1 a1_2 l1_3 a1_4 l1_5 = some r),
  Calls Tryz.prog 9 #[.agg #[.int .i64 a0_0, .int .i64 a0_1, .string a0_2, .slice A0_3 l0_3.length c0_3, .string a0_4, .slice A0_5 l0_5.length c0_5], .agg #[.int .i64 a1_0, .int .i64 a1_1, .string a1_2, .slice A1_3 l1_3.length c1_3, .string a1_4, .slice A1_5 l1_5.length c1_5]] w fun e w' => e = .returned (.bool r) ∧ Below w.heap.size w w')) : ∀ (A0 : Option Addr) (c0 : Nat) (l0 : List (S31)) (A1 : Option Addr) (c1 : Nat) (l1 : List (S31)) (r : Bool) (w : World) (hr0 : Kd.C k31 w A0 l0.length l0) (hc0 : l0.length ≤ c0) (hr1 : Kd.C k31 w A1 l1.length l1) (hc1 : l1.length ≤ c1) (h : laws_eqElS.f k l0 l1 = some r),
  Calls Tryz.prog 14 #[.slice A0 l0.length c0, .slice A1 l1.length c1] w fun e w' => e = .returned (.bool r) ∧ Below w.heap.size w w' := by
 intro A0 c0 l0 A1 c1 l1 r w hr0 hc0 hr1 hc1 h
 cases k with
 | zero => exact absurd h (by simp [laws_eqElS.f])
 | succ k =>
 simp only [laws_eqElS.f] at h
 have hu31 := Tryz.underlying31
 have HR0 := am hr0
 have HC0 := am hc0
 clear hr0 hc0
 have HR1 := am hr1
 have HC1 := am hc1
 clear hr1 hc1
 have HB := am (Below.refl w.heap.size w)
 have H : (if (l0.length : Int) = (l1.length : Int) then (laws_eqElS.l0 k l0 l1 0) else (some false)) = some r := h
 clear h
 by_cases c3 : (l0.length : Int) = (l1.length : Int)
 ·rw [if_pos c3] at H
  have c3b0 : ((l0.length : Int) == (l1.length : Int)) = true := beq_iff_eq.mpr c3
  have c3b1 : ((l0.length : Int) != (l1.length : Int)) = false := bne_eq_false_iff_eq.mpr c3
  have c3b2 : (l0.length == l1.length) = true := by first | simpa using c3 | (simp at c3 ⊢; omega)
  clear c3
  have H' := am H
  clear H
  go_enter Tryz.func14, Tryz.ntmps14
  go_wp2
  go_loopg [5] k (fun kq v5 w' => ∃ (x5_1 : Int), v5 = .int .i64 x5_1 ∧ Aside0 (laws_eqElS.l0 kq l0 l1 x5_1 = some r) ∧ Aside0 (kq ≤ k) ∧ Aside0 (Below w.heap.size w w'))
  case atStart => exact ⟨(0), ab6, H', ⟨Nat.le_refl _⟩, ⟨ab1⟩⟩
  case round =>
   clear H'
   (try clear c1); (try clear p2); (try clear c3); (try clear c3b0); (try clear c3b1); (try clear c3b2)
   obtain ⟨x5_1, rfl, HA, HK1, HB⟩ := hrel
   cases gk with
   | zero => exact absurd HA.out (by simp [laws_eqElS.l0])
   | succ k1 =>
    have H := HA.out
    clear HA
    simp only [laws_eqElS.l0] at H
    replace H := ir_ H; rcases H with ⟨c4b0, H⟩ | ⟨c4b0, H⟩
    ·replace H := iq_ H; obtain ⟨c5b0, H⟩ := H
     replace H := iq_ H; obtain ⟨c6b0, H⟩ := H
     replace H := bi_ H; obtain ⟨t418, A7, H⟩ := H
     replace H := ib_ H; rcases H with ⟨rfl, H⟩ | ⟨rfl, H⟩
     ·have H' := am H
      clear H
      try go_wp2
      replace HB := am (below_drew1 HB.out)
      have p416 : 0 ≤ (x5_1 : Int) := of_decide_eq_true ab4
      have q416 : x5_1 < (l0.length : Int) := of_decide_eq_true ab4
      obtain ⟨ad416, A416_3, c416_3, A416_5, c416_5, e416, hx416_0, hx416_1, hx416_2, hx416_3, hx416_4, hx416_5, hl416_3, hi416_3, hl416_5, hi416_5⟩ := at_T31 HR0.out x5_1 p416 q416
      have hw416_5 := hx416_5
      have hw416_4 := hx416_4
      have hw416_3 := hx416_3
      have hw416_2 := hx416_2
      have hw416_1 := hx416_1
      have hw416_0 := hx416_0
      cases e416
      replace hx416_0 := pc_ HB hx416_0
      replace hx416_1 := pc_ HB hx416_1
      replace hx416_2 := pc_ HB hx416_2
      replace hx416_3 := pc_ HB hx416_3
      replace hx416_4 := pc_ HB hx416_4
      replace hx416_5 := pc_ HB hx416_5
      have HR416_3 := am hi416_3
      have HC416_3 := am hl416_3
      clear hi416_3 hl416_3
      have HR416_5 := am hi416_5
      have HC416_5 := am hl416_5
      clear hi416_5 hl416_5
      replace p416 := eq_true p416
      replace q416 := eq_true q416
      have p417 : 0 ≤ (x5_1 : Int) := of_decide_eq_true ab4
      have q417 : x5_1 < (l1.length : Int) := of_decide_eq_true ab4
      obtain ⟨ad417, A417_3, c417_3, A417_5, c417_5, e417, hx417_0, hx417_1, hx417_2, hx417_3, hx417_4, hx417_5, hl417_3, hi417_3, hl417_5, hi417_5⟩ := at_T31 HR1.out x5_1 p417 q417
      have hw417_5 := hx417_5
      have hw417_4 := hx417_4
      have hw417_3 := hx417_3
      have hw417_2 := hx417_2
      have hw417_1 := hx417_1
      have hw417_0 := hx417_0
      cases e417
      replace hx417_0 := pc_ HB hx417_0
      replace hx417_1 := pc_ HB hx417_1
      replace hx417_2 := pc_ HB hx417_2
      replace hx417_3 := pc_ HB hx417_3
      replace hx417_4 := pc_ HB hx417_4
      replace hx417_5 := pc_ HB hx417_5
      have HR417_3 := am hi417_3
      have HC417_3 := am hl417_3
      clear hi417_3 hl417_3
      have HR417_5 := am hi417_5
      have HC417_5 := am hl417_5
      clear hi417_5 hl417_5
      replace p417 := eq_true p417
      replace q417 := eq_true q417
      refine start_ (n := 10) (S := fun w' => w'.cell? (ad416.add ((x5_1).toNat * 6)) = some (.int .i64 ((rd_T31 l0 x5_1).f0)) ∧ w'.cell? ⟨(ad416.add ((x5_1).toNat * 6)).block, (ad416.add ((x5_1).toNat * 6)).off + 1, none⟩ = some (.int .i64 ((rd_T31 l0 x5_1).f1)) ∧ w'.cell? ⟨(ad416.add ((x5_1).toNat * 6)).block, (ad416.add ((x5_1).toNat * 6)).off + 2, none⟩ = some (.string ((rd_T31 l0 x5_1).f2)) ∧ w'.cell? ⟨(ad416.add ((x5_1).toNat * 6)).block, (ad416.add ((x5_1).toNat * 6)).off + 3, none⟩ = some (.slice A416_3 ((rd_T31 l0 x5_1).f3).length c416_3) ∧ w'.cell? ⟨(ad416.add ((x5_1).toNat * 6)).block, (ad416.add ((x5_1).toNat * 6)).off + 4, none⟩ = some (.string ((rd_T31 l0 x5_1).f4)) ∧ w'.cell? ⟨(ad416.add ((x5_1).toNat * 6)).block, (ad416.add ((x5_1).toNat * 6)).off + 5, none⟩ = some (.slice A416_5 ((rd_T31 l0 x5_1).f5).length c416_5) ∧ w'.cell? (ad417.add ((x5_1).toNat * 6)) = some (.int .i64 ((rd_T31 l1 x5_1).f0)) ∧ w'.cell? ⟨(ad417.add ((x5_1).toNat * 6)).block, (ad417.add ((x5_1).toNat * 6)).off + 1, none⟩ = some (.int .i64 ((rd_T31 l1 x5_1).f1)) ∧ w'.cell? ⟨(ad417.add ((x5_1).toNat * 6)).block, (ad417.add ((x5_1).toNat * 6)).off + 2, none⟩ = some (.string ((rd_T31 l1 x5_1).f2)) ∧ w'.cell? ⟨(ad417.add ((x5_1).toNat * 6)).block, (ad417.add ((x5_1).toNat * 6)).off + 3, none⟩ = some (.slice A417_3 ((rd_T31 l1 x5_1).f3).length c417_3) ∧ w'.cell? ⟨(ad417.add ((x5_1).toNat * 6)).block, (ad417.add ((x5_1).toNat * 6)).off + 4, none⟩ = some (.string ((rd_T31 l1 x5_1).f4)) ∧ w'.cell? ⟨(ad417.add ((x5_1).toNat * 6)).block, (ad417.add ((x5_1).toNat * 6)).off + 5, none⟩ = some (.slice A417_5 ((rd_T31 l1 x5_1).f5).length c417_5)) (ds := []) #[false, false, false, false, false, false, false, false, false, false] (by kernel_rfl) rfl rfl ⟨(pc_ HB hw416_0 :), (pc_ HB hw416_1 :), (pc_ HB hw416_2 :), (pc_ HB hw416_3 :), (pc_ HB hw416_4 :), (pc_ HB hw416_5 :), (pc_ HB hw417_0 :), (pc_ HB hw417_1 :), (pc_ HB hw417_2 :), (pc_ HB hw417_3 :), (pc_ HB hw417_4 :), (pc_ HB hw417_5 :)⟩ (fun hHeld => ?_); refine with_tabW laws_eqElS.tab6 laws_eqElS.bits6 (fun HT_ HW_ => ?_)
      generalize wr.drew = w9 at HB HR416_3 HR416_5 HR417_3 HR417_5 hx416_0 hx416_1 hx416_2 hx416_3 hx416_4 hx416_5 hx417_0 hx417_1 hx417_2 hx417_3 hx417_4 hx417_5 hHeld ⊢
      refine pa_ 0 17 HT_ ?_
      refine pa_ 1 18 HT_ ?_
      refine pa_ 2 19 HT_ ?_
      refine pa_ 4 21 HT_ ?_
      refine pa_ 5 22 HT_ ?_
      refine pa_ 6 23 HT_ ?_
      refine tk_ 3 20 HT_ HW_ hHeld ?_
      refine tk_ 7 24 HT_ HW_ hHeld ?_
      refine on_ 8 25 HT_ fun K hK => ?_
      refine goes_ Tryz.func9 (by kernel_rfl) rfl #[.agg #[.int .i64 ((rd_T31 l0 x5_1).f0), .int .i64 ((rd_T31 l0 x5_1).f1), .string ((rd_T31 l0 x5_1).f2), .slice A416_3 ((rd_T31 l0 x5_1).f3).length c416_3, .string ((rd_T31 l0 x5_1).f4), .slice A416_5 ((rd_T31 l0 x5_1).f5).length c416_5], .agg #[.int .i64 ((rd_T31 l1 x5_1).f0), .int .i64 ((rd_T31 l1 x5_1).f1), .string ((rd_T31 l1 x5_1).f2), .slice A417_3 ((rd_T31 l1 x5_1).f3).length c417_3, .string ((rd_T31 l1 x5_1).f4), .slice A417_5 ((rd_T31 l1 x5_1).f5).length c417_5]] (by rfl) rfl rfl ab5 ?_
      with_reducible refine (ih_laws_eqEl k1 (by have := HK1.out; omega) ((rd_T31 l0 x5_1).f0) ((rd_T31 l0 x5_1).f1) ((rd_T31 l0 x5_1).f2) _ _ ((rd_T31 l0 x5_1).f3) ((rd_T31 l0 x5_1).f4) _ _ ((rd_T31 l0 x5_1).f5) ((rd_T31 l1 x5_1).f0) ((rd_T31 l1 x5_1).f1) ((rd_T31 l1 x5_1).f2) _ _ ((rd_T31 l1 x5_1).f3) ((rd_T31 l1 x5_1).f4) _ _ ((rd_T31 l1 x5_1).f5) true _ ?side1 ?side2 ?side3 ?side4 ?side5 ?side6 ?side7 ?side8 A7.out).mono ?_
      (case side1 => repeat (first | exact (Kd.C_below HR416_3.out HB.out) | (with_reducible refine Kd.C_alloc ?_ _) | (with_reducible refine Kd.C_drewN ?_ _) | (with_reducible refine Kd.C_drew ?_)))
      (case side2 => exact HC416_3.out)
      (case side3 => repeat (first | exact (Kd.C_below HR416_5.out HB.out) | (with_reducible refine Kd.C_alloc ?_ _) | (with_reducible refine Kd.C_drewN ?_ _) | (with_reducible refine Kd.C_drew ?_)))
      (case side4 => exact HC416_5.out)
      (case side5 => repeat (first | exact (Kd.C_below HR417_3.out HB.out) | (with_reducible refine Kd.C_alloc ?_ _) | (with_reducible refine Kd.C_drewN ?_ _) | (with_reducible refine Kd.C_drew ?_)))
      (case side6 => exact HC417_3.out)
      (case side7 => repeat (first | exact (Kd.C_below HR417_5.out HB.out) | (with_reducible refine Kd.C_alloc ?_ _) | (with_reducible refine Kd.C_drewN ?_ _) | (with_reducible refine Kd.C_drew ?_)))
      (case side8 => exact HC417_5.out)
      rintro e w10 ⟨rfl, hb⟩
      refine ⟨_, rfl, ?_⟩
      replace HB := am (below_step ab1 hb)
      (try clear hb)
      (try clear hb2)
      (try clear hk)
      (try clear hi)
      refine hK.out _ _ ⟨(pc_ HB hw416_0 :), (pc_ HB hw416_1 :), (pc_ HB hw416_2 :), (pc_ HB hw416_3 :), (pc_ HB hw416_4 :), (pc_ HB hw416_5 :), (pc_ HB hw417_0 :), (pc_ HB hw417_1 :), (pc_ HB hw417_2 :), (pc_ HB hw417_3 :), (pc_ HB hw417_4 :), (pc_ HB hw417_5 :)⟩ (fun hHeld => ?_)
      clear hK K
      refine nm_ ?_
      refine pa_ 9 26 HT_ ?_
      refine dn_ HT_ ?_
      try go_wp2
      go_roundg k1
      case measure => have := HK1.out; omega
      case rel => exact ⟨(wrap64 (x5_1 + 1)), ab6, H', ⟨by have := HK1.out; omega⟩, ⟨ab1⟩⟩
     ·obtain rfl := Option.some.inj H
      try go_wp2
      replace HB := am (below_drew1 HB.out)
      have p416 : 0 ≤ (x5_1 : Int) := of_decide_eq_true ab4
      have q416 : x5_1 < (l0.length : Int) := of_decide_eq_true ab4
      obtain ⟨ad416, A416_3, c416_3, A416_5, c416_5, e416, hx416_0, hx416_1, hx416_2, hx416_3, hx416_4, hx416_5, hl416_3, hi416_3, hl416_5, hi416_5⟩ := at_T31 HR0.out x5_1 p416 q416
      have hw416_5 := hx416_5
      have hw416_4 := hx416_4
      have hw416_3 := hx416_3
      have hw416_2 := hx416_2
      have hw416_1 := hx416_1
      have hw416_0 := hx416_0
      cases e416
      replace hx416_0 := pc_ HB hx416_0
      replace hx416_1 := pc_ HB hx416_1
      replace hx416_2 := pc_ HB hx416_2
      replace hx416_3 := pc_ HB hx416_3
      replace hx416_4 := pc_ HB hx416_4
      replace hx416_5 := pc_ HB hx416_5
      have HR416_3 := am hi416_3
      have HC416_3 := am hl416_3
      clear hi416_3 hl416_3
      have HR416_5 := am hi416_5
      have HC416_5 := am hl416_5
      clear hi416_5 hl416_5
      replace p416 := eq_true p416
      replace q416 := eq_true q416
      have p417 : 0 ≤ (x5_1 : Int) := of_decide_eq_true ab4
      have q417 : x5_1 < (l1.length : Int) := of_decide_eq_true ab4
      obtain ⟨ad417, A417_3, c417_3, A417_5, c417_5, e417, hx417_0, hx417_1, hx417_2, hx417_3, hx417_4, hx417_5, hl417_3, hi417_3, hl417_5, hi417_5⟩ := at_T31 HR1.out x5_1 p417 q417
      have hw417_5 := hx417_5
      have hw417_4 := hx417_4
      have hw417_3 := hx417_3
      have hw417_2 := hx417_2
      have hw417_1 := hx417_1
      have hw417_0 := hx417_0
      cases e417
      replace hx417_0 := pc_ HB hx417_0
      replace hx417_1 := pc_ HB hx417_1
      replace hx417_2 := pc_ HB hx417_2
      replace hx417_3 := pc_ HB hx417_3
      replace hx417_4 := pc_ HB hx417_4
      replace hx417_5 := pc_ HB hx417_5
      have HR417_3 := am hi417_3
      have HC417_3 := am hl417_3
      clear hi417_3 hl417_3
      have HR417_5 := am hi417_5
      have HC417_5 := am hl417_5
      clear hi417_5 hl417_5
      replace p417 := eq_true p417
      replace q417 := eq_true q417
      refine start_ (n := 10) (S := fun w' => w'.cell? (ad416.add ((x5_1).toNat * 6)) = some (.int .i64 ((rd_T31 l0 x5_1).f0)) ∧ w'.cell? ⟨(ad416.add ((x5_1).toNat * 6)).block, (ad416.add ((x5_1).toNat * 6)).off + 1, none⟩ = some (.int .i64 ((rd_T31 l0 x5_1).f1)) ∧ w'.cell? ⟨(ad416.add ((x5_1).toNat * 6)).block, (ad416.add ((x5_1).toNat * 6)).off + 2, none⟩ = some (.string ((rd_T31 l0 x5_1).f2)) ∧ w'.cell? ⟨(ad416.add ((x5_1).toNat * 6)).block, (ad416.add ((x5_1).toNat * 6)).off + 3, none⟩ = some (.slice A416_3 ((rd_T31 l0 x5_1).f3).length c416_3) ∧ w'.cell? ⟨(ad416.add ((x5_1).toNat * 6)).block, (ad416.add ((x5_1).toNat * 6)).off + 4, none⟩ = some (.string ((rd_T31 l0 x5_1).f4)) ∧ w'.cell? ⟨(ad416.add ((x5_1).toNat * 6)).block, (ad416.add ((x5_1).toNat * 6)).off + 5, none⟩ = some (.slice A416_5 ((rd_T31 l0 x5_1).f5).length c416_5) ∧ w'.cell? (ad417.add ((x5_1).toNat * 6)) = some (.int .i64 ((rd_T31 l1 x5_1).f0)) ∧ w'.cell? ⟨(ad417.add ((x5_1).toNat * 6)).block, (ad417.add ((x5_1).toNat * 6)).off + 1, none⟩ = some (.int .i64 ((rd_T31 l1 x5_1).f1)) ∧ w'.cell? ⟨(ad417.add ((x5_1).toNat * 6)).block, (ad417.add ((x5_1).toNat * 6)).off + 2, none⟩ = some (.string ((rd_T31 l1 x5_1).f2)) ∧ w'.cell? ⟨(ad417.add ((x5_1).toNat * 6)).block, (ad417.add ((x5_1).toNat * 6)).off + 3, none⟩ = some (.slice A417_3 ((rd_T31 l1 x5_1).f3).length c417_3) ∧ w'.cell? ⟨(ad417.add ((x5_1).toNat * 6)).block, (ad417.add ((x5_1).toNat * 6)).off + 4, none⟩ = some (.string ((rd_T31 l1 x5_1).f4)) ∧ w'.cell? ⟨(ad417.add ((x5_1).toNat * 6)).block, (ad417.add ((x5_1).toNat * 6)).off + 5, none⟩ = some (.slice A417_5 ((rd_T31 l1 x5_1).f5).length c417_5)) (ds := []) #[false, false, false, false, false, false, false, false, false, false] (by kernel_rfl) rfl rfl ⟨(pc_ HB hw416_0 :), (pc_ HB hw416_1 :), (pc_ HB hw416_2 :), (pc_ HB hw416_3 :), (pc_ HB hw416_4 :), (pc_ HB hw416_5 :), (pc_ HB hw417_0 :), (pc_ HB hw417_1 :), (pc_ HB hw417_2 :), (pc_ HB hw417_3 :), (pc_ HB hw417_4 :), (pc_ HB hw417_5 :)⟩ (fun hHeld => ?_); refine with_tabW laws_eqElS.tab6 laws_eqElS.bits6 (fun HT_ HW_ => ?_)
      generalize wr.drew = w11 at HB HR416_3 HR416_5 HR417_3 HR417_5 hx416_0 hx416_1 hx416_2 hx416_3 hx416_4 hx416_5 hx417_0 hx417_1 hx417_2 hx417_3 hx417_4 hx417_5 hHeld ⊢
      refine pa_ 0 17 HT_ ?_
      refine pa_ 1 18 HT_ ?_
      refine pa_ 2 19 HT_ ?_
      refine pa_ 4 21 HT_ ?_
      refine pa_ 5 22 HT_ ?_
      refine pa_ 6 23 HT_ ?_
      refine tk_ 3 20 HT_ HW_ hHeld ?_
      refine tk_ 7 24 HT_ HW_ hHeld ?_
      refine on_ 8 25 HT_ fun K hK => ?_
      refine goes_ Tryz.func9 (by kernel_rfl) rfl #[.agg #[.int .i64 ((rd_T31 l0 x5_1).f0), .int .i64 ((rd_T31 l0 x5_1).f1), .string ((rd_T31 l0 x5_1).f2), .slice A416_3 ((rd_T31 l0 x5_1).f3).length c416_3, .string ((rd_T31 l0 x5_1).f4), .slice A416_5 ((rd_T31 l0 x5_1).f5).length c416_5], .agg #[.int .i64 ((rd_T31 l1 x5_1).f0), .int .i64 ((rd_T31 l1 x5_1).f1), .string ((rd_T31 l1 x5_1).f2), .slice A417_3 ((rd_T31 l1 x5_1).f3).length c417_3, .string ((rd_T31 l1 x5_1).f4), .slice A417_5 ((rd_T31 l1 x5_1).f5).length c417_5]] (by rfl) rfl rfl ab5 ?_
      with_reducible refine (ih_laws_eqEl k1 (by have := HK1.out; omega) ((rd_T31 l0 x5_1).f0) ((rd_T31 l0 x5_1).f1) ((rd_T31 l0 x5_1).f2) _ _ ((rd_T31 l0 x5_1).f3) ((rd_T31 l0 x5_1).f4) _ _ ((rd_T31 l0 x5_1).f5) ((rd_T31 l1 x5_1).f0) ((rd_T31 l1 x5_1).f1) ((rd_T31 l1 x5_1).f2) _ _ ((rd_T31 l1 x5_1).f3) ((rd_T31 l1 x5_1).f4) _ _ ((rd_T31 l1 x5_1).f5) false _ ?side1 ?side2 ?side3 ?side4 ?side5 ?side6 ?side7 ?side8 A7.out).mono ?_
      (case side1 => repeat (first | exact (Kd.C_below HR416_3.out HB.out) | (with_reducible refine Kd.C_alloc ?_ _) | (with_reducible refine Kd.C_drewN ?_ _) | (with_reducible refine Kd.C_drew ?_)))
      (case side2 => exact HC416_3.out)
      (case side3 => repeat (first | exact (Kd.C_below HR416_5.out HB.out) | (with_reducible refine Kd.C_alloc ?_ _) | (with_reducible refine Kd.C_drewN ?_ _) | (with_reducible refine Kd.C_drew ?_)))
      (case side4 => exact HC416_5.out)
      (case side5 => repeat (first | exact (Kd.C_below HR417_3.out HB.out) | (with_reducible refine Kd.C_alloc ?_ _) | (with_reducible refine Kd.C_drewN ?_ _) | (with_reducible refine Kd.C_drew ?_)))
      (case side6 => exact HC417_3.out)
      (case side7 => repeat (first | exact (Kd.C_below HR417_5.out HB.out) | (with_reducible refine Kd.C_alloc ?_ _) | (with_reducible refine Kd.C_drewN ?_ _) | (with_reducible refine Kd.C_drew ?_)))
      (case side8 => exact HC417_5.out)
      rintro e w12 ⟨rfl, hb⟩
      refine ⟨_, rfl, ?_⟩
      replace HB := am (below_step ab1 hb)
      (try clear hb)
      (try clear hb2)
      (try clear hk)
      (try clear hi)
      refine hK.out _ _ ⟨(pc_ HB hw416_0 :), (pc_ HB hw416_1 :), (pc_ HB hw416_2 :), (pc_ HB hw416_3 :), (pc_ HB hw416_4 :), (pc_ HB hw416_5 :), (pc_ HB hw417_0 :), (pc_ HB hw417_1 :), (pc_ HB hw417_2 :), (pc_ HB hw417_3 :), (pc_ HB hw417_4 :), (pc_ HB hw417_5 :)⟩ (fun hHeld => ?_)
      clear hK K
      refine nm_ ?_
      refine pa_ 9 26 HT_ ?_
      refine dn_ HT_ ?_
      try go_wp2
      go_ret
      exact ⟨ab7, ab1⟩
    ·obtain rfl := Option.some.inj H
     go_wp2
     go_ret
     exact ⟨ab7, ab1⟩
 ·rw [if_neg c3] at H
  have c3b0 : ((l0.length : Int) == (l1.length : Int)) = false := beq_eq_false_iff_ne.mpr c3
  have c3b1 : ((l0.length : Int) != (l1.length : Int)) = true := bne_iff_ne.mpr c3
  have c3b2 : (l0.length == l1.length) = false := by first | simpa using c3 | (simp at c3 ⊢; omega)
  obtain rfl := Option.some.inj H
  go_enter Tryz.func14, Tryz.ntmps14
  go_wp2
  go_ret
  exact ⟨ab7, ab1⟩

/-! ### laws_eqEl: function 9 -/
theorem laws_eqEl.calls_ (k : Nat) (ih_laws_eqElS : ∀ m, m < k → (∀ (A0 : Option Addr) (c0 : Nat) (l0 : List (S31)) (A1 : Option Addr) (c1 : Nat) (l1 : List (S31)) (r : Bool) (w : World) (hr0 : Kd.C k31 w A0 l0.length l0) (hc0 : l0.length ≤ c0) (hr1 : Kd.C k31 w A1 l1.length l1) (hc1 : l1.length ≤ c1) (h : laws_eqElS.f m l0 l1 = some r),
  Calls Tryz.prog 14 #[.slice A0 l0.length c0, .slice A1 l1.length c1] w fun e w' => e = .returned (.bool r) ∧ Below w.heap.size w w')) : ∀ (a0_0 : Int) (a0_1 : Int) (a0_2 : ByteArray) (A0_3 : Option Addr) (c0_3 : Nat) (l0_3 : List (S62)) (a0_4 : ByteArray) (A0_5 : Option Addr) (c0_5 : Nat) (l0_5 : List (S31)) (a1_0 : Int) (a1_1 : Int) (a1_2 : ByteArray) (A1_3 : Option Addr) (c1_3 : Nat) (l1_3 : List (S62)) (a1_4 : ByteArray) (A1_5 : Option Addr) (c1_5 : Nat) (l1_5 : List (S31)) (r : Bool) (w : World) (hr0_3 : Kd.C k62 w A0_3 l0_3.length l0_3) (hc0_3 : l0_3.length ≤ c0_3) (hr0_5 : Kd.C k31 w A0_5 l0_5.length l0_5) (hc0_5 : l0_5.length ≤ c0_5) (hr1_3 : Kd.C k62 w A1_3 l1_3.length l1_3) (hc1_3 : l1_3.length ≤ c1_3) (hr1_5 : Kd.C k31 w A1_5 l1_5.length l1_5) (hc1_5 : l1_5.length ≤ c1_5) (h : laws_eqEl.f k a0_0 a0_1 a0_2 l0_3 a0_4 l0_5 a1_0 a1_1 a1_2 l1_3 a1_4 l1_5 = some r),
  Calls Tryz.prog 9 #[.agg #[.int .i64 a0_0, .int .i64 a0_1, .string a0_2, .slice A0_3 l0_3.length c0_3, .string a0_4, .slice A0_5 l0_5.length c0_5], .agg #[.int .i64 a1_0, .int .i64 a1_1, .string a1_2, .slice A1_3 l1_3.length c1_3, .string a1_4, .slice A1_5 l1_5.length c1_5]] w fun e w' => e = .returned (.bool r) ∧ Below w.heap.size w w' := by
 intro a0_0 a0_1 a0_2 A0_3 c0_3 l0_3 a0_4 A0_5 c0_5 l0_5 a1_0 a1_1 a1_2 A1_3 c1_3 l1_3 a1_4 A1_5 c1_5 l1_5 r w hr0_3 hc0_3 hr0_5 hc0_5 hr1_3 hc1_3 hr1_5 hc1_5 h
 cases k with
 | zero => exact absurd h (by simp [laws_eqEl.f])
 | succ k =>
 simp only [laws_eqEl.f] at h
 have hu31 := Tryz.underlying31
 have HR0_3 := am hr0_3
 have HC0_3 := am hc0_3
 clear hr0_3 hc0_3
 have HR0_5 := am hr0_5
 have HC0_5 := am hc0_5
 clear hr0_5 hc0_5
 have HR1_3 := am hr1_3
 have HC1_3 := am hc1_3
 clear hr1_3 hc1_3
 have HR1_5 := am hr1_5
 have HC1_5 := am hc1_5
 clear hr1_5 hc1_5
 have HB := am (Below.refl w.heap.size w)
 have H : (if a0_0 = a1_0 then (if a0_1 = a1_1 then (if a0_2.toList = a1_2.toList then ((laws_eqAttrS.f k l0_3 l1_3).bind fun t421 => (if t421 = true then (if a0_4.toList = a1_4.toList then ((laws_eqElS.f k l0_5 l1_5).bind fun t422 => (if t422 = true then (some true) else (some false))) else (some false)) else (some false))) else (some false)) else (some false)) else (some false)) = some r := h
 clear h
 replace H := ie_ H; rcases H with ⟨c3b0, c3b1, H⟩ | ⟨c3, c3b0, c3b1, H⟩
 ·replace H := ie_ H; rcases H with ⟨c4b0, c4b1, H⟩ | ⟨c4, c4b0, c4b1, H⟩
  ·replace H := ie_ H; rcases H with ⟨c5b0, c5b1, H⟩ | ⟨c5, c5b0, c5b1, H⟩
   ·replace H := bi_ H; obtain ⟨t421, A6, H⟩ := H
    replace H := ib_ H; rcases H with ⟨rfl, H⟩ | ⟨rfl, H⟩
    ·replace H := ie_ H; rcases H with ⟨c8b0, c8b1, H⟩ | ⟨c8, c8b0, c8b1, H⟩
     ·replace H := bi_ H; obtain ⟨t422, A9, H⟩ := H
      replace H := ib_ H; rcases H with ⟨rfl, H⟩ | ⟨rfl, H⟩
      ·obtain rfl := Option.some.inj H
       go_enter Tryz.func9, Tryz.ntmps9
       go_wp2_with (first | ((with_reducible refine gd_ 2 ?_); refine bx_ 2 (cs := #[.int .i64 a0_0, .int .i64 a0_1, .string a0_2, .slice A0_3 l0_3.length c0_3, .string a0_4, .slice A0_5 l0_5.length c0_5]) 31 ?_; intro gb419 hg w11 hbox hb; have BK419 := am hbox; have GW419 := ge_ (w := w) hg; have GE419 := ge_ (w := w) hg; replace HB := am (below_step ab1 hb); clear hb hbox hg) | ((with_reducible refine gd_ 3 ?_); refine bx_ 3 (cs := #[.int .i64 a1_0, .int .i64 a1_1, .string a1_2, .slice A1_3 l1_3.length c1_3, .string a1_4, .slice A1_5 l1_5.length c1_5]) 31 ?_; intro gb420 hg w12 hbox hb; have BK420 := am hbox; have GW420 := gE_ (w := w) GE419 hg; have GE420 := gE_ (w := w) GE419 hg; replace HB := am (below_step (ab2 GE419) hb); have NB419_420 := nl_ BK419 hg; have NB420_419 := ng_ BK419 hg; replace BK419 := bl_ BK419 hb; clear hb hbox hg; have hnb13 := NB419_420.out; have hnc13 := NB420_419.out; obtain ⟨⟨_, _, _, _, _, _⟩, _, _, _, _, _, _⟩ := Op.cells6 BK419.out; obtain ⟨⟨_, _, _, _, _, _⟩, _, _, _, _, _, _⟩ := Op.cells6 BK420.out) | ((with_reducible refine gf_ 22 ?_); refine gc_ Tryz.func22 (laws_eqAttrS.calls k _ _ l0_3 _ _ l1_3 true _ (sc_ HR0_3) HC0_3.out (sc_ HR1_3) HC1_3.out A6.out) ?_; rintro w16 hb; replace BK419 := bl_ BK419 hb; replace BK420 := bl_ BK420 hb; replace HB := am (below_step ba_ hb); (try clear hb); (try clear hb2); (try clear hk); (try clear hi); obtain ⟨⟨_, _, _, _, _, _⟩, _, _, _, _, _, _⟩ := Op.cells6 BK419.out; obtain ⟨⟨_, _, _, _, _, _⟩, _, _, _, _, _, _⟩ := Op.cells6 BK420.out) | ((with_reducible refine gf_ 14 ?_); refine gc_ Tryz.func14 (ih_laws_eqElS k (by omega) _ _ l0_5 _ _ l1_5 true _ (sc_ HR0_5) HC0_5.out (sc_ HR1_5) HC1_5.out A9.out) ?_; rintro w19 hb; replace BK419 := bl_ BK419 hb; replace BK420 := bl_ BK420 hb; replace HB := am (below_step ba_ hb); (try clear hb); (try clear hb2); (try clear hk); (try clear hi)))
       go_ret
       exact ⟨ab7, ba_⟩
      ·obtain rfl := Option.some.inj H
       go_enter Tryz.func9, Tryz.ntmps9
       go_wp2_with (first | ((with_reducible refine gd_ 2 ?_); refine bx_ 2 (cs := #[.int .i64 a0_0, .int .i64 a0_1, .string a0_2, .slice A0_3 l0_3.length c0_3, .string a0_4, .slice A0_5 l0_5.length c0_5]) 31 ?_; intro gb419 hg w20 hbox hb; have BK419 := am hbox; have GW419 := ge_ (w := w) hg; have GE419 := ge_ (w := w) hg; replace HB := am (below_step ab1 hb); clear hb hbox hg) | ((with_reducible refine gd_ 3 ?_); refine bx_ 3 (cs := #[.int .i64 a1_0, .int .i64 a1_1, .string a1_2, .slice A1_3 l1_3.length c1_3, .string a1_4, .slice A1_5 l1_5.length c1_5]) 31 ?_; intro gb420 hg w21 hbox hb; have BK420 := am hbox; have GW420 := gE_ (w := w) GE419 hg; have GE420 := gE_ (w := w) GE419 hg; replace HB := am (below_step (ab2 GE419) hb); have NB419_420 := nl_ BK419 hg; have NB420_419 := ng_ BK419 hg; replace BK419 := bl_ BK419 hb; clear hb hbox hg; have hnb22 := NB419_420.out; have hnc22 := NB420_419.out; obtain ⟨⟨_, _, _, _, _, _⟩, _, _, _, _, _, _⟩ := Op.cells6 BK419.out; obtain ⟨⟨_, _, _, _, _, _⟩, _, _, _, _, _, _⟩ := Op.cells6 BK420.out) | ((with_reducible refine gf_ 22 ?_); refine gc_ Tryz.func22 (laws_eqAttrS.calls k _ _ l0_3 _ _ l1_3 true _ (sc_ HR0_3) HC0_3.out (sc_ HR1_3) HC1_3.out A6.out) ?_; rintro w25 hb; replace BK419 := bl_ BK419 hb; replace BK420 := bl_ BK420 hb; replace HB := am (below_step ba_ hb); (try clear hb); (try clear hb2); (try clear hk); (try clear hi); obtain ⟨⟨_, _, _, _, _, _⟩, _, _, _, _, _, _⟩ := Op.cells6 BK419.out; obtain ⟨⟨_, _, _, _, _, _⟩, _, _, _, _, _, _⟩ := Op.cells6 BK420.out) | ((with_reducible refine gf_ 14 ?_); refine gc_ Tryz.func14 (ih_laws_eqElS k (by omega) _ _ l0_5 _ _ l1_5 false _ (sc_ HR0_5) HC0_5.out (sc_ HR1_5) HC1_5.out A9.out) ?_; rintro w28 hb; replace BK419 := bl_ BK419 hb; replace BK420 := bl_ BK420 hb; replace HB := am (below_step ba_ hb); (try clear hb); (try clear hb2); (try clear hk); (try clear hi)))
       go_ret
       exact ⟨ab7, ba_⟩
     ·obtain rfl := Option.some.inj H
      go_enter Tryz.func9, Tryz.ntmps9
      go_wp2_with (first | ((with_reducible refine gd_ 2 ?_); refine bx_ 2 (cs := #[.int .i64 a0_0, .int .i64 a0_1, .string a0_2, .slice A0_3 l0_3.length c0_3, .string a0_4, .slice A0_5 l0_5.length c0_5]) 31 ?_; intro gb419 hg w29 hbox hb; have BK419 := am hbox; have GW419 := ge_ (w := w) hg; have GE419 := ge_ (w := w) hg; replace HB := am (below_step ab1 hb); clear hb hbox hg) | ((with_reducible refine gd_ 3 ?_); refine bx_ 3 (cs := #[.int .i64 a1_0, .int .i64 a1_1, .string a1_2, .slice A1_3 l1_3.length c1_3, .string a1_4, .slice A1_5 l1_5.length c1_5]) 31 ?_; intro gb420 hg w30 hbox hb; have BK420 := am hbox; have GW420 := gE_ (w := w) GE419 hg; have GE420 := gE_ (w := w) GE419 hg; replace HB := am (below_step (ab2 GE419) hb); have NB419_420 := nl_ BK419 hg; have NB420_419 := ng_ BK419 hg; replace BK419 := bl_ BK419 hb; clear hb hbox hg; have hnb31 := NB419_420.out; have hnc31 := NB420_419.out; obtain ⟨⟨_, _, _, _, _, _⟩, _, _, _, _, _, _⟩ := Op.cells6 BK419.out; obtain ⟨⟨_, _, _, _, _, _⟩, _, _, _, _, _, _⟩ := Op.cells6 BK420.out) | ((with_reducible refine gf_ 22 ?_); refine gc_ Tryz.func22 (laws_eqAttrS.calls k _ _ l0_3 _ _ l1_3 true _ (sc_ HR0_3) HC0_3.out (sc_ HR1_3) HC1_3.out A6.out) ?_; rintro w34 hb; replace BK419 := bl_ BK419 hb; replace BK420 := bl_ BK420 hb; replace HB := am (below_step ba_ hb); (try clear hb); (try clear hb2); (try clear hk); (try clear hi); obtain ⟨⟨_, _, _, _, _, _⟩, _, _, _, _, _, _⟩ := Op.cells6 BK419.out; obtain ⟨⟨_, _, _, _, _, _⟩, _, _, _, _, _, _⟩ := Op.cells6 BK420.out))
      go_ret
      exact ⟨ab7, ba_⟩
    ·obtain rfl := Option.some.inj H
     go_enter Tryz.func9, Tryz.ntmps9
     go_wp2_with (first | ((with_reducible refine gd_ 2 ?_); refine bx_ 2 (cs := #[.int .i64 a0_0, .int .i64 a0_1, .string a0_2, .slice A0_3 l0_3.length c0_3, .string a0_4, .slice A0_5 l0_5.length c0_5]) 31 ?_; intro gb419 hg w37 hbox hb; have BK419 := am hbox; have GW419 := ge_ (w := w) hg; have GE419 := ge_ (w := w) hg; replace HB := am (below_step ab1 hb); clear hb hbox hg) | ((with_reducible refine gd_ 3 ?_); refine bx_ 3 (cs := #[.int .i64 a1_0, .int .i64 a1_1, .string a1_2, .slice A1_3 l1_3.length c1_3, .string a1_4, .slice A1_5 l1_5.length c1_5]) 31 ?_; intro gb420 hg w38 hbox hb; have BK420 := am hbox; have GW420 := gE_ (w := w) GE419 hg; have GE420 := gE_ (w := w) GE419 hg; replace HB := am (below_step (ab2 GE419) hb); have NB419_420 := nl_ BK419 hg; have NB420_419 := ng_ BK419 hg; replace BK419 := bl_ BK419 hb; clear hb hbox hg; have hnb39 := NB419_420.out; have hnc39 := NB420_419.out; obtain ⟨⟨_, _, _, _, _, _⟩, _, _, _, _, _, _⟩ := Op.cells6 BK419.out; obtain ⟨⟨_, _, _, _, _, _⟩, _, _, _, _, _, _⟩ := Op.cells6 BK420.out) | ((with_reducible refine gf_ 22 ?_); refine gc_ Tryz.func22 (laws_eqAttrS.calls k _ _ l0_3 _ _ l1_3 false _ (sc_ HR0_3) HC0_3.out (sc_ HR1_3) HC1_3.out A6.out) ?_; rintro w42 hb; replace BK419 := bl_ BK419 hb; replace BK420 := bl_ BK420 hb; replace HB := am (below_step ba_ hb); (try clear hb); (try clear hb2); (try clear hk); (try clear hi)))
     go_ret
     exact ⟨ab7, ba_⟩
   ·obtain rfl := Option.some.inj H
    go_enter Tryz.func9, Tryz.ntmps9
    go_wp2_with (first | ((with_reducible refine gd_ 2 ?_); refine bx_ 2 (cs := #[.int .i64 a0_0, .int .i64 a0_1, .string a0_2, .slice A0_3 l0_3.length c0_3, .string a0_4, .slice A0_5 l0_5.length c0_5]) 31 ?_; intro gb419 hg w43 hbox hb; have BK419 := am hbox; have GW419 := ge_ (w := w) hg; have GE419 := ge_ (w := w) hg; replace HB := am (below_step ab1 hb); clear hb hbox hg) | ((with_reducible refine gd_ 3 ?_); refine bx_ 3 (cs := #[.int .i64 a1_0, .int .i64 a1_1, .string a1_2, .slice A1_3 l1_3.length c1_3, .string a1_4, .slice A1_5 l1_5.length c1_5]) 31 ?_; intro gb420 hg w44 hbox hb; have BK420 := am hbox; have GW420 := gE_ (w := w) GE419 hg; have GE420 := gE_ (w := w) GE419 hg; replace HB := am (below_step (ab2 GE419) hb); have NB419_420 := nl_ BK419 hg; have NB420_419 := ng_ BK419 hg; replace BK419 := bl_ BK419 hb; clear hb hbox hg; have hnb45 := NB419_420.out; have hnc45 := NB420_419.out; obtain ⟨⟨_, _, _, _, _, _⟩, _, _, _, _, _, _⟩ := Op.cells6 BK419.out; obtain ⟨⟨_, _, _, _, _, _⟩, _, _, _, _, _, _⟩ := Op.cells6 BK420.out))
    go_ret
    exact ⟨ab7, ba_⟩
  ·obtain rfl := Option.some.inj H
   go_enter Tryz.func9, Tryz.ntmps9
   go_wp2_with (first | ((with_reducible refine gd_ 2 ?_); refine bx_ 2 (cs := #[.int .i64 a0_0, .int .i64 a0_1, .string a0_2, .slice A0_3 l0_3.length c0_3, .string a0_4, .slice A0_5 l0_5.length c0_5]) 31 ?_; intro gb419 hg w48 hbox hb; have BK419 := am hbox; have GW419 := ge_ (w := w) hg; have GE419 := ge_ (w := w) hg; replace HB := am (below_step ab1 hb); clear hb hbox hg) | ((with_reducible refine gd_ 3 ?_); refine bx_ 3 (cs := #[.int .i64 a1_0, .int .i64 a1_1, .string a1_2, .slice A1_3 l1_3.length c1_3, .string a1_4, .slice A1_5 l1_5.length c1_5]) 31 ?_; intro gb420 hg w49 hbox hb; have BK420 := am hbox; have GW420 := gE_ (w := w) GE419 hg; have GE420 := gE_ (w := w) GE419 hg; replace HB := am (below_step (ab2 GE419) hb); have NB419_420 := nl_ BK419 hg; have NB420_419 := ng_ BK419 hg; replace BK419 := bl_ BK419 hb; clear hb hbox hg; have hnb50 := NB419_420.out; have hnc50 := NB420_419.out; obtain ⟨⟨_, _, _, _, _, _⟩, _, _, _, _, _, _⟩ := Op.cells6 BK419.out; obtain ⟨⟨_, _, _, _, _, _⟩, _, _, _, _, _, _⟩ := Op.cells6 BK420.out))
   go_ret
   exact ⟨ab7, ba_⟩
 ·obtain rfl := Option.some.inj H
  go_enter Tryz.func9, Tryz.ntmps9
  go_wp2_with (first | ((with_reducible refine gd_ 2 ?_); refine bx_ 2 (cs := #[.int .i64 a0_0, .int .i64 a0_1, .string a0_2, .slice A0_3 l0_3.length c0_3, .string a0_4, .slice A0_5 l0_5.length c0_5]) 31 ?_; intro gb419 hg w53 hbox hb; have BK419 := am hbox; have GW419 := ge_ (w := w) hg; have GE419 := ge_ (w := w) hg; replace HB := am (below_step ab1 hb); clear hb hbox hg) | ((with_reducible refine gd_ 3 ?_); refine bx_ 3 (cs := #[.int .i64 a1_0, .int .i64 a1_1, .string a1_2, .slice A1_3 l1_3.length c1_3, .string a1_4, .slice A1_5 l1_5.length c1_5]) 31 ?_; intro gb420 hg w54 hbox hb; have BK420 := am hbox; have GW420 := gE_ (w := w) GE419 hg; have GE420 := gE_ (w := w) GE419 hg; replace HB := am (below_step (ab2 GE419) hb); have NB419_420 := nl_ BK419 hg; have NB420_419 := ng_ BK419 hg; replace BK419 := bl_ BK419 hb; clear hb hbox hg; have hnb55 := NB419_420.out; have hnc55 := NB420_419.out; obtain ⟨⟨_, _, _, _, _, _⟩, _, _, _, _, _, _⟩ := Op.cells6 BK419.out; obtain ⟨⟨_, _, _, _, _, _⟩, _, _, _, _, _, _⟩ := Op.cells6 BK420.out))
  go_ret
  exact ⟨ab7, ba_⟩

theorem laws_eqElS_laws_eqEl.calls_all : ∀ k, (∀ (A0 : Option Addr) (c0 : Nat) (l0 : List (S31)) (A1 : Option Addr) (c1 : Nat) (l1 : List (S31)) (r : Bool) (w : World) (hr0 : Kd.C k31 w A0 l0.length l0) (hc0 : l0.length ≤ c0) (hr1 : Kd.C k31 w A1 l1.length l1) (hc1 : l1.length ≤ c1) (h : laws_eqElS.f k l0 l1 = some r),
  Calls Tryz.prog 14 #[.slice A0 l0.length c0, .slice A1 l1.length c1] w fun e w' => e = .returned (.bool r) ∧ Below w.heap.size w w') ∧ (∀ (a0_0 : Int) (a0_1 : Int) (a0_2 : ByteArray) (A0_3 : Option Addr) (c0_3 : Nat) (l0_3 : List (S62)) (a0_4 : ByteArray) (A0_5 : Option Addr) (c0_5 : Nat) (l0_5 : List (S31)) (a1_0 : Int) (a1_1 : Int) (a1_2 : ByteArray) (A1_3 : Option Addr) (c1_3 : Nat) (l1_3 : List (S62)) (a1_4 : ByteArray) (A1_5 : Option Addr) (c1_5 : Nat) (l1_5 : List (S31)) (r : Bool) (w : World) (hr0_3 : Kd.C k62 w A0_3 l0_3.length l0_3) (hc0_3 : l0_3.length ≤ c0_3) (hr0_5 : Kd.C k31 w A0_5 l0_5.length l0_5) (hc0_5 : l0_5.length ≤ c0_5) (hr1_3 : Kd.C k62 w A1_3 l1_3.length l1_3) (hc1_3 : l1_3.length ≤ c1_3) (hr1_5 : Kd.C k31 w A1_5 l1_5.length l1_5) (hc1_5 : l1_5.length ≤ c1_5) (h : laws_eqEl.f k a0_0 a0_1 a0_2 l0_3 a0_4 l0_5 a1_0 a1_1 a1_2 l1_3 a1_4 l1_5 = some r),
  Calls Tryz.prog 9 #[.agg #[.int .i64 a0_0, .int .i64 a0_1, .string a0_2, .slice A0_3 l0_3.length c0_3, .string a0_4, .slice A0_5 l0_5.length c0_5], .agg #[.int .i64 a1_0, .int .i64 a1_1, .string a1_2, .slice A1_3 l1_3.length c1_3, .string a1_4, .slice A1_5 l1_5.length c1_5]] w fun e w' => e = .returned (.bool r) ∧ Below w.heap.size w w') := by
 intro k
 induction k using Nat.strongRecOn with
 | _ k ih => exact ⟨laws_eqElS.calls_ k (fun m hm => (ih m hm).2), laws_eqEl.calls_ k (fun m hm => (ih m hm).1)⟩
theorem laws_eqElS.calls (k : Nat) (A0 : Option Addr) (c0 : Nat) (l0 : List (S31)) (A1 : Option Addr) (c1 : Nat) (l1 : List (S31)) (r : Bool) (w : World) (hr0 : Kd.C k31 w A0 l0.length l0) (hc0 : l0.length ≤ c0) (hr1 : Kd.C k31 w A1 l1.length l1) (hc1 : l1.length ≤ c1) (h : laws_eqElS.f k l0 l1 = some r) :
  Calls Tryz.prog 14 #[.slice A0 l0.length c0, .slice A1 l1.length c1] w fun e w' => e = .returned (.bool r) ∧ Below w.heap.size w w' := (laws_eqElS_laws_eqEl.calls_all k).1 A0 c0 l0 A1 c1 l1 r w hr0 hc0 hr1 hc1 h
theorem laws_eqEl.calls (k : Nat) (a0_0 : Int) (a0_1 : Int) (a0_2 : ByteArray) (A0_3 : Option Addr) (c0_3 : Nat) (l0_3 : List (S62)) (a0_4 : ByteArray) (A0_5 : Option Addr) (c0_5 : Nat) (l0_5 : List (S31)) (a1_0 : Int) (a1_1 : Int) (a1_2 : ByteArray) (A1_3 : Option Addr) (c1_3 : Nat) (l1_3 : List (S62)) (a1_4 : ByteArray) (A1_5 : Option Addr) (c1_5 : Nat) (l1_5 : List (S31)) (r : Bool) (w : World) (hr0_3 : Kd.C k62 w A0_3 l0_3.length l0_3) (hc0_3 : l0_3.length ≤ c0_3) (hr0_5 : Kd.C k31 w A0_5 l0_5.length l0_5) (hc0_5 : l0_5.length ≤ c0_5) (hr1_3 : Kd.C k62 w A1_3 l1_3.length l1_3) (hc1_3 : l1_3.length ≤ c1_3) (hr1_5 : Kd.C k31 w A1_5 l1_5.length l1_5) (hc1_5 : l1_5.length ≤ c1_5) (h : laws_eqEl.f k a0_0 a0_1 a0_2 l0_3 a0_4 l0_5 a1_0 a1_1 a1_2 l1_3 a1_4 l1_5 = some r) :
  Calls Tryz.prog 9 #[.agg #[.int .i64 a0_0, .int .i64 a0_1, .string a0_2, .slice A0_3 l0_3.length c0_3, .string a0_4, .slice A0_5 l0_5.length c0_5], .agg #[.int .i64 a1_0, .int .i64 a1_1, .string a1_2, .slice A1_3 l1_3.length c1_3, .string a1_4, .slice A1_5 l1_5.length c1_5]] w fun e w' => e = .returned (.bool r) ∧ Below w.heap.size w w' := (laws_eqElS_laws_eqEl.calls_all k).2 a0_0 a0_1 a0_2 A0_3 c0_3 l0_3 a0_4 A0_5 c0_5 l0_5 a1_0 a1_1 a1_2 A1_3 c1_3 l1_3 a1_4 A1_5 c1_5 l1_5 r w hr0_3 hc0_3 hr0_5 hc0_5 hr1_3 hc1_3 hr1_5 hc1_5 h

end Go.Proofs.YthpdpnpojgegiaaGreatDoor.P
