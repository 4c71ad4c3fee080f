-- WRITTEN BY this session's own programs
import Derived.Test.YtekkalnafngfeaaPi24
import Derived.Shelf.Spec.SlicesInsertGrow
import Derived.Test.YtekkalnafngfeaaVPiw
namespace Go.Proofs.Ytekkalnafngfeaa.P
open Go.RowKit Go.Proofs.YtekkalnafngfeaaW.PrintWords Go.Proofs.YtekkalnafngfeaaW.PrintLast Go.Proofs.YtekkalnafngfeaaW.PrintMore Go Go.Shelf
set_option linter.unusedVariables false
set_option linter.unusedSimpArgs false
set_option maxHeartbeats 8000000
set_option maxRecDepth 100000
attribute [local go_sem] max2_int min2_int max_two min_two max_three min_three max_four min_four
theorem z25_0 {q0 p : Prop} (g0 : Aside0 q0) (h : Aside0 q0 → p := by intro g0_; repeat (first | exact (Kd.C_below g0_.out ba_) | (with_reducible refine Kd.C_alloc ?_ _) | (with_reducible refine Kd.C_drewN ?_ _) | (with_reducible refine Kd.C_drew ?_))) : p := h g0
theorem z25_1 {p : Prop} (h : p := by repeat (first | (with_reducible first | exact HK.out | apply Kept.alloc | apply Kept.drewN | apply Kept.drew) | exact HK.out)) : p := h
def laws_eqItemS.l0 : Nat → List (S38) → List (S38) → Int → Option (Bool)
 | 0, _, _, _ => none
 | k + 1, x0, x1, x5 => if x5 < (x0.length : Int) then (if 0 ≤ x5 then (if x5 < (x1.length : Int) then ((laws_eqItem.f k ((rd_T38 x0 x5).f0) ((rd_T38 x0 x5).f1) ((rd_T38 x0 x5).f2) ((rd_T38 x0 x5).f3) ((rd_T38 x0 x5).f4) ((rd_T38 x0 x5).f5) ((rd_T38 x0 x5).f6) ((rd_T38 x1 x5).f0) ((rd_T38 x1 x5).f1) ((rd_T38 x1 x5).f2) ((rd_T38 x1 x5).f3) ((rd_T38 x1 x5).f4) ((rd_T38 x1 x5).f5) ((rd_T38 x1 x5).f6)).bind fun t465 => (if t465 = true then (laws_eqItemS.l0 k x0 x1 (wrap64 (x5 + 1))) else (some false))) else (none)) else (none)) else (some true)
def laws_eqItemS.f (k : Nat) (l0 : List (S38)) (l1 : List (S38)) : Option (Bool) := if (l0.length : Int) = (l1.length : Int) then (laws_eqItemS.l0 k l0 l1 0) else (some false)
def laws_eqItemS.T6 : Bool × List (List Nat × List Nat) := (true, [([], []), ([], []), ([0, 1], [0, 1]), ([2], [2]), ([], []), ([], []), ([4, 5], [4, 5]), ([6], [6]), ([3, 7], [3, 7]), ([8], [8])])
def laws_eqItemS.B6 : List Nat := [0, 0, 3, 7, 0, 0, 48, 112, 255, 511]
theorem laws_eqItemS.tab6 : rtab .any (opsOf Try.f28 6) = laws_eqItemS.T6 := by kernel_rfl
theorem laws_eqItemS.bits6 : waitsOk laws_eqItemS.T6.2 laws_eqItemS.B6 = true := by kernel_rfl
theorem laws_eqItemS.calls (k : Nat) (A0 : Option Addr) (c0 : Nat) (l0 : List (S38)) (A1 : Option Addr) (c1 : Nat) (l1 : List (S38)) (r : Bool) (w : World) (hr0 : Kd.C k38 w A0 l0.length l0) (hc0 : l0.length ≤ c0) (hr1 : Kd.C k38 w A1 l1.length l1) (hc1 : l1.length ≤ c1) (h : laws_eqItemS.f k l0 l1 = some r) :
  Calls Try.prog 28 #[.slice A0 l0.length c0, .slice A1 l1.length c1] w fun e w' => e = .returned (.bool r) ∧ Below w.heap.size w w' := by
 have hu38 := Try.underlying38
 have HR0 := am hr0
 have HC0 := am hc0
 clear hr0 hc0
 have HR1 := am hr1
 have HC1 := am hc1
 clear hr1 hc1
 have HB := am (Below.refl w.heap.size w)
 have H : (if (l0.length : Int) = (l1.length : Int) then (laws_eqItemS.l0 k l0 l1 0) else (some false)) = some r := h
 clear h
 by_cases c3 : (l0.length : Int) = (l1.length : Int)
 ·rw [if_pos c3] at H
  have c3b0 : ((l0.length : Int) == (l1.length : Int)) = true := beq_iff_eq.mpr c3
  have c3b1 : ((l0.length : Int) != (l1.length : Int)) = false := bne_eq_false_iff_eq.mpr c3
  have c3b2 : (l0.length == l1.length) = true := by first | simpa using c3 | (simp at c3 ⊢; omega)
  clear c3
  have H' := am H
  clear H
  go_enter Try.func28, Try.ntmps28
  go_wp2
  go_loopg [5] k (fun kq v5 w' => ∃ (x5_1 : Int), v5 = .int .i64 x5_1 ∧ Aside0 (laws_eqItemS.l0 kq l0 l1 x5_1 = some r) ∧ Aside0 (kq ≤ k) ∧ Aside0 (Below w.heap.size w w'))
  case atStart => exact ⟨(0), ab6, H', ⟨Nat.le_refl _⟩, ⟨ab1⟩⟩
  case round =>
   clear H'
   (try clear c1); (try clear c2); (try clear p2); (try clear c3); (try clear c3b0); (try clear c3b1); (try clear c3b2)
   obtain ⟨x5_1, rfl, HA, HK1, HB⟩ := hrel
   cases gk with
   | zero => exact absurd HA.out (by simp [laws_eqItemS.l0])
   | succ k1 =>
    have H := HA.out
    clear HA
    simp only [laws_eqItemS.l0] at H
    replace H := ir_ H; rcases H with ⟨c4b0, H⟩ | ⟨c4b0, H⟩
    ·replace H := iq_ H; obtain ⟨c5b0, H⟩ := H
     replace H := iq_ H; obtain ⟨c6b0, H⟩ := H
     replace H := bi_ H; obtain ⟨t465, A7, H⟩ := H
     replace H := ib_ H; rcases H with ⟨rfl, H⟩ | ⟨rfl, H⟩
     ·have H' := am H
      clear H
      try go_wp2
      replace HB := am (below_drew1 HB.out)
      have p463 : 0 ≤ (x5_1 : Int) := of_decide_eq_true ab4
      have q463 : x5_1 < (l0.length : Int) := of_decide_eq_true ab4
      obtain ⟨ad463, A463_3, c463_3, A463_6, c463_6, e463, hx463_0, hx463_1, hx463_2, hx463_3, hx463_4, hx463_5, hx463_6, hl463_3, hi463_3, hl463_6, hi463_6⟩ := at_T38 HR0.out x5_1 p463 q463
      have hw463_6 := hx463_6
      have hw463_5 := hx463_5
      have hw463_4 := hx463_4
      have hw463_3 := hx463_3
      have hw463_2 := hx463_2
      have hw463_1 := hx463_1
      have hw463_0 := hx463_0
      cases e463
      replace hx463_0 := pc_ HB hx463_0
      replace hx463_1 := pc_ HB hx463_1
      replace hx463_2 := pc_ HB hx463_2
      replace hx463_3 := pc_ HB hx463_3
      replace hx463_4 := pc_ HB hx463_4
      replace hx463_5 := pc_ HB hx463_5
      replace hx463_6 := pc_ HB hx463_6
      have HR463_3 := am hi463_3
      have HC463_3 := am hl463_3
      clear hi463_3 hl463_3
      have HR463_6 := am hi463_6
      have HC463_6 := am hl463_6
      clear hi463_6 hl463_6
      replace p463 := eq_true p463
      replace q463 := eq_true q463
      have p464 : 0 ≤ (x5_1 : Int) := of_decide_eq_true ab4
      have q464 : x5_1 < (l1.length : Int) := of_decide_eq_true ab4
      obtain ⟨ad464, A464_3, c464_3, A464_6, c464_6, e464, hx464_0, hx464_1, hx464_2, hx464_3, hx464_4, hx464_5, hx464_6, hl464_3, hi464_3, hl464_6, hi464_6⟩ := at_T38 HR1.out x5_1 p464 q464
      have hw464_6 := hx464_6
      have hw464_5 := hx464_5
      have hw464_4 := hx464_4
      have hw464_3 := hx464_3
      have hw464_2 := hx464_2
      have hw464_1 := hx464_1
      have hw464_0 := hx464_0
      cases e464
      replace hx464_0 := pc_ HB hx464_0
      replace hx464_1 := pc_ HB hx464_1
      replace hx464_2 := pc_ HB hx464_2
      replace hx464_3 := pc_ HB hx464_3
      replace hx464_4 := pc_ HB hx464_4
      replace hx464_5 := pc_ HB hx464_5
      replace hx464_6 := pc_ HB hx464_6
      have HR464_3 := am hi464_3
      have HC464_3 := am hl464_3
      clear hi464_3 hl464_3
      have HR464_6 := am hi464_6
      have HC464_6 := am hl464_6
      clear hi464_6 hl464_6
      replace p464 := eq_true p464
      replace q464 := eq_true q464
      refine start_ (n := 10) (S := fun w' => w'.cell? (ad463.add ((x5_1).toNat * 7)) = some (.int .i64 ((rd_T38 l0 x5_1).f0)) ∧ w'.cell? ⟨(ad463.add ((x5_1).toNat * 7)).block, (ad463.add ((x5_1).toNat * 7)).off + 1, none⟩ = some (.int .i64 ((rd_T38 l0 x5_1).f1)) ∧ w'.cell? ⟨(ad463.add ((x5_1).toNat * 7)).block, (ad463.add ((x5_1).toNat * 7)).off + 2, none⟩ = some (.string ((rd_T38 l0 x5_1).f2)) ∧ w'.cell? ⟨(ad463.add ((x5_1).toNat * 7)).block, (ad463.add ((x5_1).toNat * 7)).off + 3, none⟩ = some (.slice A463_3 ((rd_T38 l0 x5_1).f3).length c463_3) ∧ w'.cell? ⟨(ad463.add ((x5_1).toNat * 7)).block, (ad463.add ((x5_1).toNat * 7)).off + 4, none⟩ = some (.string ((rd_T38 l0 x5_1).f4)) ∧ w'.cell? ⟨(ad463.add ((x5_1).toNat * 7)).block, (ad463.add ((x5_1).toNat * 7)).off + 5, none⟩ = some (.int .i64 ((rd_T38 l0 x5_1).f5)) ∧ w'.cell? ⟨(ad463.add ((x5_1).toNat * 7)).block, (ad463.add ((x5_1).toNat * 7)).off + 6, none⟩ = some (.slice A463_6 ((rd_T38 l0 x5_1).f6).length c463_6) ∧ w'.cell? (ad464.add ((x5_1).toNat * 7)) = some (.int .i64 ((rd_T38 l1 x5_1).f0)) ∧ w'.cell? ⟨(ad464.add ((x5_1).toNat * 7)).block, (ad464.add ((x5_1).toNat * 7)).off + 1, none⟩ = some (.int .i64 ((rd_T38 l1 x5_1).f1)) ∧ w'.cell? ⟨(ad464.add ((x5_1).toNat * 7)).block, (ad464.add ((x5_1).toNat * 7)).off + 2, none⟩ = some (.string ((rd_T38 l1 x5_1).f2)) ∧ w'.cell? ⟨(ad464.add ((x5_1).toNat * 7)).block, (ad464.add ((x5_1).toNat * 7)).off + 3, none⟩ = some (.slice A464_3 ((rd_T38 l1 x5_1).f3).length c464_3) ∧ w'.cell? ⟨(ad464.add ((x5_1).toNat * 7)).block, (ad464.add ((x5_1).toNat * 7)).off + 4, none⟩ = some (.string ((rd_T38 l1 x5_1).f4)) ∧ w'.cell? ⟨(ad464.add ((x5_1).toNat * 7)).block, (ad464.add ((x5_1).toNat * 7)).off + 5, none⟩ = some (.int .i64 ((rd_T38 l1 x5_1).f5)) ∧ w'.cell? ⟨(ad464.add ((x5_1).toNat * 7)).block, (ad464.add ((x5_1).toNat * 7)).off + 6, none⟩ = some (.slice A464_6 ((rd_T38 l1 x5_1).f6).length c464_6)) (ds := []) #[false, false, false, false, false, false, false, false, false, false] (by kernel_rfl) rfl rfl ⟨(pc_ HB hw463_0 :), (pc_ HB hw463_1 :), (pc_ HB hw463_2 :), (pc_ HB hw463_3 :), (pc_ HB hw463_4 :), (pc_ HB hw463_5 :), (pc_ HB hw463_6 :), (pc_ HB hw464_0 :), (pc_ HB hw464_1 :), (pc_ HB hw464_2 :), (pc_ HB hw464_3 :), (pc_ HB hw464_4 :), (pc_ HB hw464_5 :), (pc_ HB hw464_6 :)⟩ (fun hHeld => ?_); refine with_tabW laws_eqItemS.tab6 laws_eqItemS.bits6 (fun HT_ HW_ => ?_)
      generalize wr.drew = w9 at HB HR463_3 HR463_6 HR464_3 HR464_6 hx463_0 hx463_1 hx463_2 hx463_3 hx463_4 hx463_5 hx463_6 hx464_0 hx464_1 hx464_2 hx464_3 hx464_4 hx464_5 hx464_6 hHeld ⊢
      refine pa_ 0 17 HT_ ?_
      refine pa_ 1 18 HT_ ?_
      refine pa_ 2 19 HT_ ?_
      refine pa_ 4 21 HT_ ?_
      refine pa_ 5 22 HT_ ?_
      refine pa_ 6 23 HT_ ?_
      refine tk_ 3 20 HT_ HW_ hHeld ?_
      refine tk_ 7 24 HT_ HW_ hHeld ?_
      refine on_ 8 25 HT_ fun K hK => ?_
      refine goes_ Try.func11 (by kernel_rfl) rfl #[.agg #[.int .i64 ((rd_T38 l0 x5_1).f0), .int .i64 ((rd_T38 l0 x5_1).f1), .string ((rd_T38 l0 x5_1).f2), .slice A463_3 ((rd_T38 l0 x5_1).f3).length c463_3, .string ((rd_T38 l0 x5_1).f4), .int .i64 ((rd_T38 l0 x5_1).f5), .slice A463_6 ((rd_T38 l0 x5_1).f6).length c463_6], .agg #[.int .i64 ((rd_T38 l1 x5_1).f0), .int .i64 ((rd_T38 l1 x5_1).f1), .string ((rd_T38 l1 x5_1).f2), .slice A464_3 ((rd_T38 l1 x5_1).f3).length c464_3, .string ((rd_T38 l1 x5_1).f4), .int .i64 ((rd_T38 l1 x5_1).f5), .slice A464_6 ((rd_T38 l1 x5_1).f6).length c464_6]] (by rfl) rfl rfl ab5 ?_
      with_reducible refine (laws_eqItem.calls k1 ((rd_T38 l0 x5_1).f0) ((rd_T38 l0 x5_1).f1) ((rd_T38 l0 x5_1).f2) _ _ ((rd_T38 l0 x5_1).f3) ((rd_T38 l0 x5_1).f4) ((rd_T38 l0 x5_1).f5) _ _ ((rd_T38 l0 x5_1).f6) ((rd_T38 l1 x5_1).f0) ((rd_T38 l1 x5_1).f1) ((rd_T38 l1 x5_1).f2) _ _ ((rd_T38 l1 x5_1).f3) ((rd_T38 l1 x5_1).f4) ((rd_T38 l1 x5_1).f5) _ _ ((rd_T38 l1 x5_1).f6) true _ ?side1 ?side2 ?side3 ?side4 ?side5 ?side6 ?side7 ?side8 A7.out).mono ?_
      (case side1 => repeat (first | exact (Kd.C_below HR463_3.out HB.out) | (with_reducible refine Kd.C_alloc ?_ _) | (with_reducible refine Kd.C_drewN ?_ _) | (with_reducible refine Kd.C_drew ?_)))
      (case side2 => exact HC463_3.out)
      (case side3 => repeat (first | exact (Kd.C_below HR463_6.out HB.out) | (with_reducible refine Kd.C_alloc ?_ _) | (with_reducible refine Kd.C_drewN ?_ _) | (with_reducible refine Kd.C_drew ?_)))
      (case side4 => exact HC463_6.out)
      (case side5 => repeat (first | exact (Kd.C_below HR464_3.out HB.out) | (with_reducible refine Kd.C_alloc ?_ _) | (with_reducible refine Kd.C_drewN ?_ _) | (with_reducible refine Kd.C_drew ?_)))
      (case side6 => exact HC464_3.out)
      (case side7 => repeat (first | exact (Kd.C_below HR464_6.out HB.out) | (with_reducible refine Kd.C_alloc ?_ _) | (with_reducible refine Kd.C_drewN ?_ _) | (with_reducible refine Kd.C_drew ?_)))
      (case side8 => exact HC464_6.out)
      rintro e w10 ⟨rfl, hb⟩
      refine ⟨_, rfl, ?_⟩
      replace HB := am (below_step ab1 hb)
      (try clear hb)
      (try clear hb2)
      (try clear hk)
      (try clear hi)
      refine hK.out _ _ ⟨(pc_ HB hw463_0 :), (pc_ HB hw463_1 :), (pc_ HB hw463_2 :), (pc_ HB hw463_3 :), (pc_ HB hw463_4 :), (pc_ HB hw463_5 :), (pc_ HB hw463_6 :), (pc_ HB hw464_0 :), (pc_ HB hw464_1 :), (pc_ HB hw464_2 :), (pc_ HB hw464_3 :), (pc_ HB hw464_4 :), (pc_ HB hw464_5 :), (pc_ HB hw464_6 :)⟩ (fun hHeld => ?_)
      clear hK K
      refine nm_ ?_
      refine pa_ 9 26 HT_ ?_
      refine dn_ HT_ ?_
      try go_wp2
      go_roundg k1
      case measure => have := HK1.out; omega
      case rel => exact ⟨(wrap64 (x5_1 + 1)), ab6, H', ⟨by have := HK1.out; omega⟩, ⟨ab1⟩⟩
     ·obtain rfl := Option.some.inj H
      try go_wp2
      replace HB := am (below_drew1 HB.out)
      have p463 : 0 ≤ (x5_1 : Int) := of_decide_eq_true ab4
      have q463 : x5_1 < (l0.length : Int) := of_decide_eq_true ab4
      obtain ⟨ad463, A463_3, c463_3, A463_6, c463_6, e463, hx463_0, hx463_1, hx463_2, hx463_3, hx463_4, hx463_5, hx463_6, hl463_3, hi463_3, hl463_6, hi463_6⟩ := at_T38 HR0.out x5_1 p463 q463
      have hw463_6 := hx463_6
      have hw463_5 := hx463_5
      have hw463_4 := hx463_4
      have hw463_3 := hx463_3
      have hw463_2 := hx463_2
      have hw463_1 := hx463_1
      have hw463_0 := hx463_0
      cases e463
      replace hx463_0 := pc_ HB hx463_0
      replace hx463_1 := pc_ HB hx463_1
      replace hx463_2 := pc_ HB hx463_2
      replace hx463_3 := pc_ HB hx463_3
      replace hx463_4 := pc_ HB hx463_4
      replace hx463_5 := pc_ HB hx463_5
      replace hx463_6 := pc_ HB hx463_6
      have HR463_3 := am hi463_3
      have HC463_3 := am hl463_3
      clear hi463_3 hl463_3
      have HR463_6 := am hi463_6
      have HC463_6 := am hl463_6
      clear hi463_6 hl463_6
      replace p463 := eq_true p463
      replace q463 := eq_true q463
      have p464 : 0 ≤ (x5_1 : Int) := of_decide_eq_true ab4
      have q464 : x5_1 < (l1.length : Int) := of_decide_eq_true ab4
      obtain ⟨ad464, A464_3, c464_3, A464_6, c464_6, e464, hx464_0, hx464_1, hx464_2, hx464_3, hx464_4, hx464_5, hx464_6, hl464_3, hi464_3, hl464_6, hi464_6⟩ := at_T38 HR1.out x5_1 p464 q464
      have hw464_6 := hx464_6
      have hw464_5 := hx464_5
      have hw464_4 := hx464_4
      have hw464_3 := hx464_3
      have hw464_2 := hx464_2
      have hw464_1 := hx464_1
      have hw464_0 := hx464_0
      cases e464
      replace hx464_0 := pc_ HB hx464_0
      replace hx464_1 := pc_ HB hx464_1
      replace hx464_2 := pc_ HB hx464_2
      replace hx464_3 := pc_ HB hx464_3
      replace hx464_4 := pc_ HB hx464_4
      replace hx464_5 := pc_ HB hx464_5
      replace hx464_6 := pc_ HB hx464_6
      have HR464_3 := am hi464_3
      have HC464_3 := am hl464_3
      clear hi464_3 hl464_3
      have HR464_6 := am hi464_6
      have HC464_6 := am hl464_6
      clear hi464_6 hl464_6
      replace p464 := eq_true p464
      replace q464 := eq_true q464
      refine start_ (n := 10) (S := fun w' => w'.cell? (ad463.add ((x5_1).toNat * 7)) = some (.int .i64 ((rd_T38 l0 x5_1).f0)) ∧ w'.cell? ⟨(ad463.add ((x5_1).toNat * 7)).block, (ad463.add ((x5_1).toNat * 7)).off + 1, none⟩ = some (.int .i64 ((rd_T38 l0 x5_1).f1)) ∧ w'.cell? ⟨(ad463.add ((x5_1).toNat * 7)).block, (ad463.add ((x5_1).toNat * 7)).off + 2, none⟩ = some (.string ((rd_T38 l0 x5_1).f2)) ∧ w'.cell? ⟨(ad463.add ((x5_1).toNat * 7)).block, (ad463.add ((x5_1).toNat * 7)).off + 3, none⟩ = some (.slice A463_3 ((rd_T38 l0 x5_1).f3).length c463_3) ∧ w'.cell? ⟨(ad463.add ((x5_1).toNat * 7)).block, (ad463.add ((x5_1).toNat * 7)).off + 4, none⟩ = some (.string ((rd_T38 l0 x5_1).f4)) ∧ w'.cell? ⟨(ad463.add ((x5_1).toNat * 7)).block, (ad463.add ((x5_1).toNat * 7)).off + 5, none⟩ = some (.int .i64 ((rd_T38 l0 x5_1).f5)) ∧ w'.cell? ⟨(ad463.add ((x5_1).toNat * 7)).block, (ad463.add ((x5_1).toNat * 7)).off + 6, none⟩ = some (.slice A463_6 ((rd_T38 l0 x5_1).f6).length c463_6) ∧ w'.cell? (ad464.add ((x5_1).toNat * 7)) = some (.int .i64 ((rd_T38 l1 x5_1).f0)) ∧ w'.cell? ⟨(ad464.add ((x5_1).toNat * 7)).block, (ad464.add ((x5_1).toNat * 7)).off + 1, none⟩ = some (.int .i64 ((rd_T38 l1 x5_1).f1)) ∧ w'.cell? ⟨(ad464.add ((x5_1).toNat * 7)).block, (ad464.add ((x5_1).toNat * 7)).off + 2, none⟩ = some (.string ((rd_T38 l1 x5_1).f2)) ∧ w'.cell? ⟨(ad464.add ((x5_1).toNat * 7)).block, (ad464.add ((x5_1).toNat * 7)).off + 3, none⟩ = some (.slice A464_3 ((rd_T38 l1 x5_1).f3).length c464_3) ∧ w'.cell? ⟨(ad464.add ((x5_1).toNat * 7)).block, (ad464.add ((x5_1).toNat * 7)).off + 4, none⟩ = some (.string ((rd_T38 l1 x5_1).f4)) ∧ w'.cell? ⟨(ad464.add ((x5_1).toNat * 7)).block, (ad464.add ((x5_1).toNat * 7)).off + 5, none⟩ = some (.int .i64 ((rd_T38 l1 x5_1).f5)) ∧ w'.cell? ⟨(ad464.add ((x5_1).toNat * 7)).block, (ad464.add ((x5_1).toNat * 7)).off + 6, none⟩ = some (.slice A464_6 ((rd_T38 l1 x5_1).f6).length c464_6)) (ds := []) #[false, false, false, false, false, false, false, false, false, false] (by kernel_rfl) rfl rfl ⟨(pc_ HB hw463_0 :), (pc_ HB hw463_1 :), (pc_ HB hw463_2 :), (pc_ HB hw463_3 :), (pc_ HB hw463_4 :), (pc_ HB hw463_5 :), (pc_ HB hw463_6 :), (pc_ HB hw464_0 :), (pc_ HB hw464_1 :), (pc_ HB hw464_2 :), (pc_ HB hw464_3 :), (pc_ HB hw464_4 :), (pc_ HB hw464_5 :), (pc_ HB hw464_6 :)⟩ (fun hHeld => ?_); refine with_tabW laws_eqItemS.tab6 laws_eqItemS.bits6 (fun HT_ HW_ => ?_)
      generalize wr.drew = w11 at HB HR463_3 HR463_6 HR464_3 HR464_6 hx463_0 hx463_1 hx463_2 hx463_3 hx463_4 hx463_5 hx463_6 hx464_0 hx464_1 hx464_2 hx464_3 hx464_4 hx464_5 hx464_6 hHeld ⊢
      refine pa_ 0 17 HT_ ?_
      refine pa_ 1 18 HT_ ?_
      refine pa_ 2 19 HT_ ?_
      refine pa_ 4 21 HT_ ?_
      refine pa_ 5 22 HT_ ?_
      refine pa_ 6 23 HT_ ?_
      refine tk_ 3 20 HT_ HW_ hHeld ?_
      refine tk_ 7 24 HT_ HW_ hHeld ?_
      refine on_ 8 25 HT_ fun K hK => ?_
      refine goes_ Try.func11 (by kernel_rfl) rfl #[.agg #[.int .i64 ((rd_T38 l0 x5_1).f0), .int .i64 ((rd_T38 l0 x5_1).f1), .string ((rd_T38 l0 x5_1).f2), .slice A463_3 ((rd_T38 l0 x5_1).f3).length c463_3, .string ((rd_T38 l0 x5_1).f4), .int .i64 ((rd_T38 l0 x5_1).f5), .slice A463_6 ((rd_T38 l0 x5_1).f6).length c463_6], .agg #[.int .i64 ((rd_T38 l1 x5_1).f0), .int .i64 ((rd_T38 l1 x5_1).f1), .string ((rd_T38 l1 x5_1).f2), .slice A464_3 ((rd_T38 l1 x5_1).f3).length c464_3, .string ((rd_T38 l1 x5_1).f4), .int .i64 ((rd_T38 l1 x5_1).f5), .slice A464_6 ((rd_T38 l1 x5_1).f6).length c464_6]] (by rfl) rfl rfl ab5 ?_
      with_reducible refine (laws_eqItem.calls k1 ((rd_T38 l0 x5_1).f0) ((rd_T38 l0 x5_1).f1) ((rd_T38 l0 x5_1).f2) _ _ ((rd_T38 l0 x5_1).f3) ((rd_T38 l0 x5_1).f4) ((rd_T38 l0 x5_1).f5) _ _ ((rd_T38 l0 x5_1).f6) ((rd_T38 l1 x5_1).f0) ((rd_T38 l1 x5_1).f1) ((rd_T38 l1 x5_1).f2) _ _ ((rd_T38 l1 x5_1).f3) ((rd_T38 l1 x5_1).f4) ((rd_T38 l1 x5_1).f5) _ _ ((rd_T38 l1 x5_1).f6) false _ ?side1 ?side2 ?side3 ?side4 ?side5 ?side6 ?side7 ?side8 A7.out).mono ?_
      (case side1 => repeat (first | exact (Kd.C_below HR463_3.out HB.out) | (with_reducible refine Kd.C_alloc ?_ _) | (with_reducible refine Kd.C_drewN ?_ _) | (with_reducible refine Kd.C_drew ?_)))
      (case side2 => exact HC463_3.out)
      (case side3 => repeat (first | exact (Kd.C_below HR463_6.out HB.out) | (with_reducible refine Kd.C_alloc ?_ _) | (with_reducible refine Kd.C_drewN ?_ _) | (with_reducible refine Kd.C_drew ?_)))
      (case side4 => exact HC463_6.out)
      (case side5 => repeat (first | exact (Kd.C_below HR464_3.out HB.out) | (with_reducible refine Kd.C_alloc ?_ _) | (with_reducible refine Kd.C_drewN ?_ _) | (with_reducible refine Kd.C_drew ?_)))
      (case side6 => exact HC464_3.out)
      (case side7 => repeat (first | exact (Kd.C_below HR464_6.out HB.out) | (with_reducible refine Kd.C_alloc ?_ _) | (with_reducible refine Kd.C_drewN ?_ _) | (with_reducible refine Kd.C_drew ?_)))
      (case side8 => exact HC464_6.out)
      rintro e w12 ⟨rfl, hb⟩
      refine ⟨_, rfl, ?_⟩
      replace HB := am (below_step ab1 hb)
      (try clear hb)
      (try clear hb2)
      (try clear hk)
      (try clear hi)
      refine hK.out _ _ ⟨(pc_ HB hw463_0 :), (pc_ HB hw463_1 :), (pc_ HB hw463_2 :), (pc_ HB hw463_3 :), (pc_ HB hw463_4 :), (pc_ HB hw463_5 :), (pc_ HB hw463_6 :), (pc_ HB hw464_0 :), (pc_ HB hw464_1 :), (pc_ HB hw464_2 :), (pc_ HB hw464_3 :), (pc_ HB hw464_4 :), (pc_ HB hw464_5 :), (pc_ HB hw464_6 :)⟩ (fun hHeld => ?_)
      clear hK K
      refine nm_ ?_
      refine pa_ 9 26 HT_ ?_
      refine dn_ HT_ ?_
      try go_wp2
      go_ret
      exact ⟨ab7, ab1⟩
    ·obtain rfl := Option.some.inj H
     go_wp2
     go_ret
     exact ⟨ab7, ab1⟩
 ·rw [if_neg c3] at H
  have c3b0 : ((l0.length : Int) == (l1.length : Int)) = false := beq_eq_false_iff_ne.mpr c3
  have c3b1 : ((l0.length : Int) != (l1.length : Int)) = true := bne_iff_ne.mpr c3
  have c3b2 : (l0.length == l1.length) = false := by first | simpa using c3 | (simp at c3 ⊢; omega)
  obtain rfl := Option.some.inj H
  go_enter Try.func28, Try.ntmps28
  go_wp2
  go_ret
  exact ⟨ab7, ab1⟩
def laws_eqPage.f (k : Nat) (l0_0 : List (S38)) (l0_1 : List Int) (l0_2 : List Int) (a0_3 : Int) (a0_4 : Int) (l1_0 : List (S38)) (l1_1 : List Int) (l1_2 : List Int) (a1_3 : Int) (a1_4 : Int) : Option (Bool) := (laws_eqItemS.f k l0_0 l1_0).bind fun t468 => (if t468 = true then ((laws_eqIntS.f k l0_1 l1_1).bind fun t469 => (if t469 = true then ((laws_eqIntS.f k l0_2 l1_2).bind fun t470 => (if t470 = true then (if a0_3 = a1_3 then (if a0_4 = a1_4 then (some true) else (some false)) else (some false)) else (some false))) else (some false))) else (some false))
theorem laws_eqPage.calls (k : Nat) (A0_0 : Option Addr) (c0_0 : Nat) (l0_0 : List (S38)) (A0_1 : Option Addr) (c0_1 : Nat) (l0_1 : List Int) (A0_2 : Option Addr) (c0_2 : Nat) (l0_2 : List Int) (a0_3 : Int) (a0_4 : Int) (A1_0 : Option Addr) (c1_0 : Nat) (l1_0 : List (S38)) (A1_1 : Option Addr) (c1_1 : Nat) (l1_1 : List Int) (A1_2 : Option Addr) (c1_2 : Nat) (l1_2 : List Int) (a1_3 : Int) (a1_4 : Int) (r : Bool) (w : World) (hr0_0 : Kd.C k38 w A0_0 l0_0.length l0_0) (hc0_0 : l0_0.length ≤ c0_0) (hr0_1 : Kd.C (Kd.int .i64) w A0_1 l0_1.length l0_1) (hc0_1 : l0_1.length ≤ c0_1) (hr0_2 : Kd.C (Kd.int .i64) w A0_2 l0_2.length l0_2) (hc0_2 : l0_2.length ≤ c0_2) (hr1_0 : Kd.C k38 w A1_0 l1_0.length l1_0) (hc1_0 : l1_0.length ≤ c1_0) (hr1_1 : Kd.C (Kd.int .i64) w A1_1 l1_1.length l1_1) (hc1_1 : l1_1.length ≤ c1_1) (hr1_2 : Kd.C (Kd.int .i64) w A1_2 l1_2.length l1_2) (hc1_2 : l1_2.length ≤ c1_2) (h : laws_eqPage.f k l0_0 l0_1 l0_2 a0_3 a0_4 l1_0 l1_1 l1_2 a1_3 a1_4 = some r) :
  Calls Try.prog 10 #[.agg #[.slice A0_0 l0_0.length c0_0, .slice A0_1 l0_1.length c0_1, .slice A0_2 l0_2.length c0_2, .int .i64 a0_3, .int .i64 a0_4], .agg #[.slice A1_0 l1_0.length c1_0, .slice A1_1 l1_1.length c1_1, .slice A1_2 l1_2.length c1_2, .int .i64 a1_3, .int .i64 a1_4]] w fun e w' => e = .returned (.bool r) ∧ Below w.heap.size w w' := by
 have hu33 := Try.underlying33
 have HR0_0 := am hr0_0
 have HC0_0 := am hc0_0
 clear hr0_0 hc0_0
 have HR0_1 := am hr0_1
 have HC0_1 := am hc0_1
 clear hr0_1 hc0_1
 have HR0_2 := am hr0_2
 have HC0_2 := am hc0_2
 clear hr0_2 hc0_2
 have HR1_0 := am hr1_0
 have HC1_0 := am hc1_0
 clear hr1_0 hc1_0
 have HR1_1 := am hr1_1
 have HC1_1 := am hc1_1
 clear hr1_1 hc1_1
 have HR1_2 := am hr1_2
 have HC1_2 := am hc1_2
 clear hr1_2 hc1_2
 have HB := am (Below.refl w.heap.size w)
 have H : ((laws_eqItemS.f k l0_0 l1_0).bind fun t468 => (if t468 = true then ((laws_eqIntS.f k l0_1 l1_1).bind fun t469 => (if t469 = true then ((laws_eqIntS.f k l0_2 l1_2).bind fun t470 => (if t470 = true then (if a0_3 = a1_3 then (if a0_4 = a1_4 then (some true) else (some false)) else (some false)) else (some false))) else (some false))) else (some false))) = some r := h
 clear h
 replace H := bi_ H; obtain ⟨t468, A3, H⟩ := H
 replace H := ib_ H; rcases H with ⟨rfl, H⟩ | ⟨rfl, H⟩
 ·replace H := bi_ H; obtain ⟨t469, A5, H⟩ := H
  replace H := ib_ H; rcases H with ⟨rfl, H⟩ | ⟨rfl, H⟩
  ·replace H := bi_ H; obtain ⟨t470, A7, H⟩ := H
   replace H := ib_ H; rcases H with ⟨rfl, H⟩ | ⟨rfl, H⟩
   ·replace H := ie_ H; rcases H with ⟨c9b0, c9b1, H⟩ | ⟨c9, c9b0, c9b1, H⟩
    ·replace H := ie_ H; rcases H with ⟨c10b0, c10b1, H⟩ | ⟨c10, c10b0, c10b1, H⟩
     ·obtain rfl := Option.some.inj H
      go_enter Try.func10, Try.ntmps10
      go_wp2_with (first | ((with_reducible refine gd_ 2 ?_); refine bx_ 2 (cs := #[.slice A0_0 l0_0.length c0_0, .slice A0_1 l0_1.length c0_1, .slice A0_2 l0_2.length c0_2, .int .i64 a0_3, .int .i64 a0_4]) 33 ?_; intro gb466 hg w11 hbox hb; have BK466 := am hbox; have GW466 := ge_ (w := w) hg; have GE466 := ge_ (w := w) hg; replace HB := am (below_step ab1 hb); clear hb hbox hg) | ((with_reducible refine gd_ 3 ?_); refine bx_ 3 (cs := #[.slice A1_0 l1_0.length c1_0, .slice A1_1 l1_1.length c1_1, .slice A1_2 l1_2.length c1_2, .int .i64 a1_3, .int .i64 a1_4]) 33 ?_; intro gb467 hg w12 hbox hb; have BK467 := am hbox; have GW467 := gE_ (w := w) GE466 hg; have GE467 := gE_ (w := w) GE466 hg; replace HB := am (below_step (ab2 GE466) hb); have NB466_467 := nl_ BK466 hg; have NB467_466 := ng_ BK466 hg; replace BK466 := bl_ BK466 hb; clear hb hbox hg; have hnb13 := NB466_467.out; have hnc13 := NB467_466.out; obtain ⟨⟨_, _, _, _, _⟩, _, _, _, _, _⟩ := Op.cells5 BK466.out; obtain ⟨⟨_, _, _, _, _⟩, _, _, _, _, _⟩ := Op.cells5 BK467.out) | ((with_reducible refine gf_ 28 ?_); refine gc_ Try.func28 (laws_eqItemS.calls k _ _ l0_0 _ _ l1_0 true _ (sc_ HR0_0) HC0_0.out (sc_ HR1_0) HC1_0.out A3.out) ?_; rintro w16 hb; replace BK466 := bl_ BK466 hb; replace BK467 := bl_ BK467 hb; replace HB := am (below_step ba_ hb); (try clear hb); (try clear hb2); (try clear hk); (try clear hi); obtain ⟨⟨_, _, _, _, _⟩, _, _, _, _, _⟩ := Op.cells5 BK466.out; obtain ⟨⟨_, _, _, _, _⟩, _, _, _, _, _⟩ := Op.cells5 BK467.out) | ((with_reducible refine gf_ 29 ?_); refine gc_ Try.func29 (laws_eqIntS.calls k _ _ l0_1 _ _ l1_1 true _ (sc_ HR0_1) HC0_1.out (sc_ HR1_1) HC1_1.out A5.out) ?_; rintro w' ⟨nd, rfl⟩) | ((with_reducible refine gate_callee (f := 29) rfl ?_); refine goesL_ (some 21) rfl rfl Try.func29 (by kernel_rfl) rfl #[.slice A0_2 l0_2.length c0_2, .slice A1_2 l1_2.length c1_2] rfl ab5 ?_; (with_reducible refine (laws_eqIntS.calls k _ _ l0_2 _ _ l1_2 true _ ?side1 HC0_2.out ?side3 HC1_2.out A7.out).mono ?_); (case side1 => exact (z25_0 HR0_2)); (case side3 => exact (z25_0 HR1_2)); rintro e w' ⟨rfl, ⟨nd, rfl⟩⟩; refine ⟨_, rfl, ?_⟩))
      go_ret
      exact ⟨ab7, ba_⟩
     ·obtain rfl := Option.some.inj H
      go_enter Try.func10, Try.ntmps10
      go_wp2_with (first | ((with_reducible refine gd_ 2 ?_); refine bx_ 2 (cs := #[.slice A0_0 l0_0.length c0_0, .slice A0_1 l0_1.length c0_1, .slice A0_2 l0_2.length c0_2, .int .i64 a0_3, .int .i64 a0_4]) 33 ?_; intro gb466 hg w19 hbox hb; have BK466 := am hbox; have GW466 := ge_ (w := w) hg; have GE466 := ge_ (w := w) hg; replace HB := am (below_step ab1 hb); clear hb hbox hg) | ((with_reducible refine gd_ 3 ?_); refine bx_ 3 (cs := #[.slice A1_0 l1_0.length c1_0, .slice A1_1 l1_1.length c1_1, .slice A1_2 l1_2.length c1_2, .int .i64 a1_3, .int .i64 a1_4]) 33 ?_; intro gb467 hg w20 hbox hb; have BK467 := am hbox; have GW467 := gE_ (w := w) GE466 hg; have GE467 := gE_ (w := w) GE466 hg; replace HB := am (below_step (ab2 GE466) hb); have NB466_467 := nl_ BK466 hg; have NB467_466 := ng_ BK466 hg; replace BK466 := bl_ BK466 hb; clear hb hbox hg; have hnb21 := NB466_467.out; have hnc21 := NB467_466.out; obtain ⟨⟨_, _, _, _, _⟩, _, _, _, _, _⟩ := Op.cells5 BK466.out; obtain ⟨⟨_, _, _, _, _⟩, _, _, _, _, _⟩ := Op.cells5 BK467.out) | ((with_reducible refine gf_ 28 ?_); refine gc_ Try.func28 (laws_eqItemS.calls k _ _ l0_0 _ _ l1_0 true _ (sc_ HR0_0) HC0_0.out (sc_ HR1_0) HC1_0.out A3.out) ?_; rintro w24 hb; replace BK466 := bl_ BK466 hb; replace BK467 := bl_ BK467 hb; replace HB := am (below_step ba_ hb); (try clear hb); (try clear hb2); (try clear hk); (try clear hi); obtain ⟨⟨_, _, _, _, _⟩, _, _, _, _, _⟩ := Op.cells5 BK466.out; obtain ⟨⟨_, _, _, _, _⟩, _, _, _, _, _⟩ := Op.cells5 BK467.out) | ((with_reducible refine gf_ 29 ?_); refine gc_ Try.func29 (laws_eqIntS.calls k _ _ l0_1 _ _ l1_1 true _ (sc_ HR0_1) HC0_1.out (sc_ HR1_1) HC1_1.out A5.out) ?_; rintro w' ⟨nd, rfl⟩) | ((with_reducible refine gate_callee (f := 29) rfl ?_); refine goesL_ (some 21) rfl rfl Try.func29 (by kernel_rfl) rfl #[.slice A0_2 l0_2.length c0_2, .slice A1_2 l1_2.length c1_2] rfl ab5 ?_; (with_reducible refine (laws_eqIntS.calls k _ _ l0_2 _ _ l1_2 true _ ?side1 HC0_2.out ?side3 HC1_2.out A7.out).mono ?_); (case side1 => exact (z25_0 HR0_2)); (case side3 => exact (z25_0 HR1_2)); rintro e w' ⟨rfl, ⟨nd, rfl⟩⟩; refine ⟨_, rfl, ?_⟩))
      go_ret
      exact ⟨ab7, ba_⟩
    ·obtain rfl := Option.some.inj H
     go_enter Try.func10, Try.ntmps10
     go_wp2_with (first | ((with_reducible refine gd_ 2 ?_); refine bx_ 2 (cs := #[.slice A0_0 l0_0.length c0_0, .slice A0_1 l0_1.length c0_1, .slice A0_2 l0_2.length c0_2, .int .i64 a0_3, .int .i64 a0_4]) 33 ?_; intro gb466 hg w27 hbox hb; have BK466 := am hbox; have GW466 := ge_ (w := w) hg; have GE466 := ge_ (w := w) hg; replace HB := am (below_step ab1 hb); clear hb hbox hg) | ((with_reducible refine gd_ 3 ?_); refine bx_ 3 (cs := #[.slice A1_0 l1_0.length c1_0, .slice A1_1 l1_1.length c1_1, .slice A1_2 l1_2.length c1_2, .int .i64 a1_3, .int .i64 a1_4]) 33 ?_; intro gb467 hg w28 hbox hb; have BK467 := am hbox; have GW467 := gE_ (w := w) GE466 hg; have GE467 := gE_ (w := w) GE466 hg; replace HB := am (below_step (ab2 GE466) hb); have NB466_467 := nl_ BK466 hg; have NB467_466 := ng_ BK466 hg; replace BK466 := bl_ BK466 hb; clear hb hbox hg; have hnb29 := NB466_467.out; have hnc29 := NB467_466.out; obtain ⟨⟨_, _, _, _, _⟩, _, _, _, _, _⟩ := Op.cells5 BK466.out; obtain ⟨⟨_, _, _, _, _⟩, _, _, _, _, _⟩ := Op.cells5 BK467.out) | ((with_reducible refine gf_ 28 ?_); refine gc_ Try.func28 (laws_eqItemS.calls k _ _ l0_0 _ _ l1_0 true _ (sc_ HR0_0) HC0_0.out (sc_ HR1_0) HC1_0.out A3.out) ?_; rintro w32 hb; replace BK466 := bl_ BK466 hb; replace BK467 := bl_ BK467 hb; replace HB := am (below_step ba_ hb); (try clear hb); (try clear hb2); (try clear hk); (try clear hi); obtain ⟨⟨_, _, _, _, _⟩, _, _, _, _, _⟩ := Op.cells5 BK466.out; obtain ⟨⟨_, _, _, _, _⟩, _, _, _, _, _⟩ := Op.cells5 BK467.out) | ((with_reducible refine gf_ 29 ?_); refine gc_ Try.func29 (laws_eqIntS.calls k _ _ l0_1 _ _ l1_1 true _ (sc_ HR0_1) HC0_1.out (sc_ HR1_1) HC1_1.out A5.out) ?_; rintro w' ⟨nd, rfl⟩) | ((with_reducible refine gate_callee (f := 29) rfl ?_); refine goesL_ (some 21) rfl rfl Try.func29 (by kernel_rfl) rfl #[.slice A0_2 l0_2.length c0_2, .slice A1_2 l1_2.length c1_2] rfl ab5 ?_; (with_reducible refine (laws_eqIntS.calls k _ _ l0_2 _ _ l1_2 true _ ?side1 HC0_2.out ?side3 HC1_2.out A7.out).mono ?_); (case side1 => exact (z25_0 HR0_2)); (case side3 => exact (z25_0 HR1_2)); rintro e w' ⟨rfl, ⟨nd, rfl⟩⟩; refine ⟨_, rfl, ?_⟩))
     go_ret
     exact ⟨ab7, ba_⟩
   ·obtain rfl := Option.some.inj H
    go_enter Try.func10, Try.ntmps10
    go_wp2_with (first | ((with_reducible refine gd_ 2 ?_); refine bx_ 2 (cs := #[.slice A0_0 l0_0.length c0_0, .slice A0_1 l0_1.length c0_1, .slice A0_2 l0_2.length c0_2, .int .i64 a0_3, .int .i64 a0_4]) 33 ?_; intro gb466 hg w35 hbox hb; have BK466 := am hbox; have GW466 := ge_ (w := w) hg; have GE466 := ge_ (w := w) hg; replace HB := am (below_step ab1 hb); clear hb hbox hg) | ((with_reducible refine gd_ 3 ?_); refine bx_ 3 (cs := #[.slice A1_0 l1_0.length c1_0, .slice A1_1 l1_1.length c1_1, .slice A1_2 l1_2.length c1_2, .int .i64 a1_3, .int .i64 a1_4]) 33 ?_; intro gb467 hg w36 hbox hb; have BK467 := am hbox; have GW467 := gE_ (w := w) GE466 hg; have GE467 := gE_ (w := w) GE466 hg; replace HB := am (below_step (ab2 GE466) hb); have NB466_467 := nl_ BK466 hg; have NB467_466 := ng_ BK466 hg; replace BK466 := bl_ BK466 hb; clear hb hbox hg; have hnb37 := NB466_467.out; have hnc37 := NB467_466.out; obtain ⟨⟨_, _, _, _, _⟩, _, _, _, _, _⟩ := Op.cells5 BK466.out; obtain ⟨⟨_, _, _, _, _⟩, _, _, _, _, _⟩ := Op.cells5 BK467.out) | ((with_reducible refine gf_ 28 ?_); refine gc_ Try.func28 (laws_eqItemS.calls k _ _ l0_0 _ _ l1_0 true _ (sc_ HR0_0) HC0_0.out (sc_ HR1_0) HC1_0.out A3.out) ?_; rintro w40 hb; replace BK466 := bl_ BK466 hb; replace BK467 := bl_ BK467 hb; replace HB := am (below_step ba_ hb); (try clear hb); (try clear hb2); (try clear hk); (try clear hi); obtain ⟨⟨_, _, _, _, _⟩, _, _, _, _, _⟩ := Op.cells5 BK466.out; obtain ⟨⟨_, _, _, _, _⟩, _, _, _, _, _⟩ := Op.cells5 BK467.out) | ((with_reducible refine gf_ 29 ?_); refine gc_ Try.func29 (laws_eqIntS.calls k _ _ l0_1 _ _ l1_1 true _ (sc_ HR0_1) HC0_1.out (sc_ HR1_1) HC1_1.out A5.out) ?_; rintro w' ⟨nd, rfl⟩) | ((with_reducible refine gate_callee (f := 29) rfl ?_); refine goesL_ (some 21) rfl rfl Try.func29 (by kernel_rfl) rfl #[.slice A0_2 l0_2.length c0_2, .slice A1_2 l1_2.length c1_2] rfl ab5 ?_; (with_reducible refine (laws_eqIntS.calls k _ _ l0_2 _ _ l1_2 false _ ?side1 HC0_2.out ?side3 HC1_2.out A7.out).mono ?_); (case side1 => exact (z25_0 HR0_2)); (case side3 => exact (z25_0 HR1_2)); rintro e w' ⟨rfl, ⟨nd, rfl⟩⟩; refine ⟨_, rfl, ?_⟩))
    go_ret
    exact ⟨ab7, ba_⟩
  ·obtain rfl := Option.some.inj H
   go_enter Try.func10, Try.ntmps10
   go_wp2_with (first | ((with_reducible refine gd_ 2 ?_); refine bx_ 2 (cs := #[.slice A0_0 l0_0.length c0_0, .slice A0_1 l0_1.length c0_1, .slice A0_2 l0_2.length c0_2, .int .i64 a0_3, .int .i64 a0_4]) 33 ?_; intro gb466 hg w43 hbox hb; have BK466 := am hbox; have GW466 := ge_ (w := w) hg; have GE466 := ge_ (w := w) hg; replace HB := am (below_step ab1 hb); clear hb hbox hg) | ((with_reducible refine gd_ 3 ?_); refine bx_ 3 (cs := #[.slice A1_0 l1_0.length c1_0, .slice A1_1 l1_1.length c1_1, .slice A1_2 l1_2.length c1_2, .int .i64 a1_3, .int .i64 a1_4]) 33 ?_; intro gb467 hg w44 hbox hb; have BK467 := am hbox; have GW467 := gE_ (w := w) GE466 hg; have GE467 := gE_ (w := w) GE466 hg; replace HB := am (below_step (ab2 GE466) hb); have NB466_467 := nl_ BK466 hg; have NB467_466 := ng_ BK466 hg; replace BK466 := bl_ BK466 hb; clear hb hbox hg; have hnb45 := NB466_467.out; have hnc45 := NB467_466.out; obtain ⟨⟨_, _, _, _, _⟩, _, _, _, _, _⟩ := Op.cells5 BK466.out; obtain ⟨⟨_, _, _, _, _⟩, _, _, _, _, _⟩ := Op.cells5 BK467.out) | ((with_reducible refine gf_ 28 ?_); refine gc_ Try.func28 (laws_eqItemS.calls k _ _ l0_0 _ _ l1_0 true _ (sc_ HR0_0) HC0_0.out (sc_ HR1_0) HC1_0.out A3.out) ?_; rintro w48 hb; replace BK466 := bl_ BK466 hb; replace BK467 := bl_ BK467 hb; replace HB := am (below_step ba_ hb); (try clear hb); (try clear hb2); (try clear hk); (try clear hi); obtain ⟨⟨_, _, _, _, _⟩, _, _, _, _, _⟩ := Op.cells5 BK466.out; obtain ⟨⟨_, _, _, _, _⟩, _, _, _, _, _⟩ := Op.cells5 BK467.out) | ((with_reducible refine gf_ 29 ?_); refine gc_ Try.func29 (laws_eqIntS.calls k _ _ l0_1 _ _ l1_1 false _ (sc_ HR0_1) HC0_1.out (sc_ HR1_1) HC1_1.out A5.out) ?_; rintro w' ⟨nd, rfl⟩))
   go_ret
   exact ⟨ab7, ba_⟩
 ·obtain rfl := Option.some.inj H
  go_enter Try.func10, Try.ntmps10
  go_wp2_with (first | ((with_reducible refine gd_ 2 ?_); refine bx_ 2 (cs := #[.slice A0_0 l0_0.length c0_0, .slice A0_1 l0_1.length c0_1, .slice A0_2 l0_2.length c0_2, .int .i64 a0_3, .int .i64 a0_4]) 33 ?_; intro gb466 hg w51 hbox hb; have BK466 := am hbox; have GW466 := ge_ (w := w) hg; have GE466 := ge_ (w := w) hg; replace HB := am (below_step ab1 hb); clear hb hbox hg) | ((with_reducible refine gd_ 3 ?_); refine bx_ 3 (cs := #[.slice A1_0 l1_0.length c1_0, .slice A1_1 l1_1.length c1_1, .slice A1_2 l1_2.length c1_2, .int .i64 a1_3, .int .i64 a1_4]) 33 ?_; intro gb467 hg w52 hbox hb; have BK467 := am hbox; have GW467 := gE_ (w := w) GE466 hg; have GE467 := gE_ (w := w) GE466 hg; replace HB := am (below_step (ab2 GE466) hb); have NB466_467 := nl_ BK466 hg; have NB467_466 := ng_ BK466 hg; replace BK466 := bl_ BK466 hb; clear hb hbox hg; have hnb53 := NB466_467.out; have hnc53 := NB467_466.out; obtain ⟨⟨_, _, _, _, _⟩, _, _, _, _, _⟩ := Op.cells5 BK466.out; obtain ⟨⟨_, _, _, _, _⟩, _, _, _, _, _⟩ := Op.cells5 BK467.out) | ((with_reducible refine gf_ 28 ?_); refine gc_ Try.func28 (laws_eqItemS.calls k _ _ l0_0 _ _ l1_0 false _ (sc_ HR0_0) HC0_0.out (sc_ HR1_0) HC1_0.out A3.out) ?_; rintro w56 hb; replace BK466 := bl_ BK466 hb; replace BK467 := bl_ BK467 hb; replace HB := am (below_step ba_ hb); (try clear hb); (try clear hb2); (try clear hk); (try clear hi)))
  go_ret
  exact ⟨ab7, ba_⟩
def laws_markIntS.l0 : Nat → List Int → Int → Int → Option (Int × List Int)
 | 0, _, _, _ => none
 | k + 1, x0, x1, x5 => if x5 < (x0.length : Int) then (if 0 ≤ x5 then (laws_markIntS.l0 k (x0.set (x5 : Int).toNat x1) (wrap64 (x1 + 1)) (wrap64 (x5 + 1))) else (none)) else (some (x1, x0))
def laws_markIntS.f (k : Nat) (l0 : List Int) (a1 : Int) : Option (Int × List Int) := laws_markIntS.l0 k l0 a1 0
theorem laws_markIntS.calls (k : Nat) (P0_ : Nat → Prop) (u9000_ : Value) (l0 : List Int) (a1 : Int) (r1 : Int) (r2 : List Int) (w0 w : World) (hB : Below w0.heap.size w0 w) (ho0 : Kd.R (Kd.int .i64) 3 w w0.heap.size P0_ u9000_ l0) (h : laws_markIntS.f k l0 a1 = some (r1, r2)) :
  Calls Try.prog 32 #[u9000_, .int .i64 a1] w fun e w' => e = .returned (.int .i64 r1) ∧ Kd.R (Kd.int .i64) 3 w' w0.heap.size (fun k_ => (P0_ k_ ∨ w.heap.size ≤ k_)) u9000_ r2 ∧ Below w0.heap.size w0 w' ∧ Kept w w' (fun k_ => P0_ k_) := by
 have HO0 := am (show Kd.R (Kd.int .i64) 3 w w0.heap.size (fun k_ => (P0_ k_ ∨ w.heap.size ≤ k_)) u9000_ l0 from Kd.R_mono ho0 (fun k_ hk => (.inl hk)))
 have HK := am (Kept.refl w (fun k_ => P0_ k_))
 have HW0 := am hB.size
 have HB := am hB
 clear hB
 have H : (laws_markIntS.l0 k l0 a1 0) = some (r1, r2) := h
 clear h
 have H' := am H
 clear H
 go_enter Try.func32, Try.ntmps32
 go_wp2
 go_loopg [1, 5] k (fun kq v1 v5 w' => ∃ (x0_1 : List Int) (x1_1 : Int) (x5_1 : Int), v1 = .int .i64 x1_1 ∧ v5 = .int .i64 x5_1 ∧ Aside0 (laws_markIntS.l0 kq x0_1 x1_1 x5_1 = some (r1, r2)) ∧ Aside0 (kq ≤ k) ∧ Aside0 (Kd.R (Kd.int .i64) 3 w' w0.heap.size (fun k_ => (P0_ k_ ∨ w.heap.size ≤ k_)) u9000_ x0_1) ∧ Aside0 (Kept w w' (fun k_ => P0_ k_)) ∧ Aside0 (Below w0.heap.size w0 w'))
 case atStart => exact ⟨(l0), (a1), (0), ab6, ab6, H', ⟨Nat.le_refl _⟩, ⟨ab8 HO0⟩, ⟨z25_1⟩, ⟨ab1⟩⟩
 case round =>
  clear H'
  try clear p2
  obtain ⟨x0_1, x1_1, x5_1, rfl, rfl, HA, HK1, HO_0, HK, HB⟩ := hrel
  cases gk with
  | zero => exact absurd HA.out (by simp [laws_markIntS.l0])
  | succ k1 =>
   have H := HA.out
   clear HA
   simp only [laws_markIntS.l0] at H
   replace H := ir_ H; rcases H with ⟨c3b0, H⟩ | ⟨c3b0, H⟩
   ·replace H := iq_ H; obtain ⟨c4b0, H⟩ := H
    obtain ⟨y471, hy471⟩ : ∃ y_ : List Int, y_ = (x0_1.set (x5_1 : Int).toNat x1_1) := ⟨_, rfl⟩
    replace H : (laws_markIntS.l0 k1 y471 (wrap64 (x1_1 + 1)) (wrap64 (x5_1 + 1))) = some (r1, r2) := by first | (rw [hy471]; with_reducible exact H) | (have H2_ := (Option.bind_some _ _).symm.trans H; rw [hy471]; with_reducible exact H2_) | (have H2_ := (Option.bind_some _ _).symm.trans H; with_reducible exact H2_) | with_reducible exact H | (rw [hy471]; exact H) | exact H
    have Ny471 := am hy471
    clear hy471
    have H' := am H
    clear H
    obtain ⟨Ao6, co6, eo6⟩ := Kd.R_slice HO_0.out
    subst eo6
    have p5 : 0 ≤ (x5_1 : Int) := of_decide_eq_true ab4
    have q5 : (x5_1 : Int) < ((x0_1.length : Int) : Int) := of_decide_eq_true ab4
    obtain ⟨go5, co5, eo5, gb5, gl5, cl5, HG5⟩ := Kd.R_form HO_0.out (by omega)
    (first | cases eo5 | (injection eo5 with ea_ en_ ec_; (first | subst ea_ | (injection ea_ with ea_; subst ea_)); subst ec_; clear en_))
    have GB5 := am gb5
    have GG5 := am HG5
    clear gb5 gl5 HG5
    have HMgo5 := am (show (P0_ go5 ∨ w.heap.size ≤ go5) from (HO_0.out.1 _ rfl))
    obtain ⟨hx5_0, hf5_0⟩ := Kd.R_celln 0 HO_0.out (x5_1 : Int) p5 q5
    replace p5 := eq_true p5
    replace q5 := eq_true q5
    have HP7 := Kd.R_putg HO_0.out (x5_1 : Int) x1_1
    go_wp2_with (first | ((with_reducible refine gate_store (t := 3) (p := 15) rfl ?_); refine store_event (t := 3) (p := 15) (v := ?vo_w8) (w1 := (wr.setCell ⟨go5, (x5_1 : Int).toNat, none⟩ (.int .i64 x1_1))) ?hg ?ho ?hn ?hr ?_; (case ho => rfl); (case hg => rfl); (case hn => rfl); (case hr => first | (go_simp; done) | (go_simp; rfl)); intro w8 hw; have hg : wr.grownBy w8 (some go5) := (by rw [hw]; exact HP7.2); have hp_ : Kd.R (Kd.int .i64) 3 w8 w0.heap.size (fun k_ => (P0_ k_ ∨ w.heap.size ≤ k_)) (.slice (some ⟨go5, 0, none⟩) x0_1.length co6) y471 := (by rw [hw, Ny471.out]; exact HP7.1); clear HP7; replace HB := am ((by rw [hw]; exact below_set (HB.out) GB5.out : Below w0.heap.size w0 w8)); replace HK := am (Kept.of_grown (S := (fun k_ => P0_ k_)) hg (z25_1) (fun k_ e_ => (HO_0.out.1 k_ e_))); replace HO_0 := am hp_; clear hg hw hp_))
    go_roundg k1
    case measure => have := HK1.out; omega
    case rel => exact ⟨(y471), (wrap64 (x1_1 + 1)), (wrap64 (x5_1 + 1)), ab6, ab6, H', ⟨by have := HK1.out; omega⟩, ⟨ab8 HO_0⟩, ⟨z25_1⟩, ⟨ab1⟩⟩
   ·simp only [Option.some.injEq, Prod.mk.injEq] at H
    obtain ⟨rfl, rfl⟩ := H
    obtain ⟨Ao9, co9, eo9⟩ := Kd.R_slice HO_0.out
    subst eo9
    go_wp2
    go_ret
    exact ⟨ab7, ab8 HO_0, ab1, z25_1⟩
def laws_markText.l0 : Nat → Int → ByteArray → Option (ByteArray)
 | 0, _, _ => none
 | k + 1, x0, x3 => if x0 > 0 then ((some (([(wrap64 (48 + (Int.tmod x0 10))) % 256] : List Int) : List Int)).bind fun y472 => (if (strOfNums y472).size + x3.size ≤ 9223372036854775807 then (laws_markText.l0 k (wrap64 (Int.tdiv x0 10)) ((strOfNums y472) ++ x3)) else (none))) else (if 1 + x3.size ≤ 9223372036854775807 then (some ((⟨#[109]⟩ : ByteArray) ++ x3)) else (none))
def laws_markText.f (k : Nat) (a0 : Int) : Option (ByteArray) := if a0 ≤ 0 then (some (⟨#[109, 48]⟩ : ByteArray)) else (laws_markText.l0 k a0 (⟨#[]⟩ : ByteArray))
theorem laws_markText.calls (k : Nat) (a0 : Int) (r : ByteArray) (w : World) (h : laws_markText.f k a0 = some r) :
  Calls Try.prog 56 #[.int .i64 a0] w fun e w' => e = .returned (.string r) ∧ Below w.heap.size w w' := by
 have HB := am (Below.refl w.heap.size w)
 have H : (if a0 ≤ 0 then (some (⟨#[109, 48]⟩ : ByteArray)) else (laws_markText.l0 k a0 (⟨#[]⟩ : ByteArray))) = some r := h
 clear h
 replace H := ir_ H; rcases H with ⟨c2b0, H⟩ | ⟨c2b0, H⟩
 ·obtain rfl := Option.some.inj H
  go_enter Try.func56, Try.ntmps56
  go_wp2
  go_ret
  exact ⟨ab7, ab1⟩
 ·have H' := am H
  clear H
  go_enter Try.func56, Try.ntmps56
  go_wp2
  go_loopg [0, 3] k (fun kq v0 v3 w' => ∃ (x0_1 : Int) (x3_1 : ByteArray), v0 = .int .i64 x0_1 ∧ v3 = .string x3_1 ∧ Aside0 (laws_markText.l0 kq x0_1 x3_1 = some r) ∧ Aside0 (kq ≤ k) ∧ Aside0 (Below w.heap.size w w'))
  case atStart => exact ⟨(a0), ((⟨#[]⟩ : ByteArray)), ab6, ab6, H', ⟨Nat.le_refl _⟩, ⟨ab1⟩⟩
  case round =>
   clear H'
   (try clear c2); (try clear c2b0); (try clear p2)
   obtain ⟨x0_1, x3_1, rfl, rfl, HA, HK1, HB⟩ := hrel
   cases gk with
   | zero => exact absurd HA.out (by simp [laws_markText.l0])
   | succ k1 =>
    have H := HA.out
    clear HA
    simp only [laws_markText.l0] at H
    by_cases c3 : x0_1 > 0
    ·rw [if_pos c3] at H
     have c3b0 : decide (0 < x0_1) = true := decide_eq_true c3
     clear c3
     obtain ⟨y472, hy472⟩ : ∃ y_ : List Int, y_ = (([(wrap64 (48 + (Int.tmod x0_1 10))) % 256] : List Int)) := ⟨_, rfl⟩
     replace H : (if (strOfNums y472).size + x3_1.size ≤ 9223372036854775807 then (laws_markText.l0 k1 (wrap64 (Int.tdiv x0_1 10)) ((strOfNums y472) ++ x3_1)) else (none)) = some r := by first | (rw [hy472]; with_reducible exact H) | (have H2_ := (Option.bind_some _ _).symm.trans H; rw [hy472]; with_reducible exact H2_) | (have H2_ := (Option.bind_some _ _).symm.trans H; with_reducible exact H2_) | with_reducible exact H | (rw [hy472]; exact H) | exact H
     have Ny472 := am hy472
     clear hy472
     by_cases c4 : (strOfNums y472).size + x3_1.size ≤ 9223372036854775807
     case neg => rw [if_neg c4] at H; exact absurd H (by simp)
     rw [if_pos c4] at H
     have c4b0 := eq_true c4
     have c4b1 := decide_eq_true c4
     try have c4b2 : (9223372036854775807 < (strOfNums y472).size + x3_1.size) = False := eq_false (Nat.not_lt.2 c4)
     have H' := am H
     clear H
     go_wp2_with (first | ((with_reducible refine gate_dst (N := 12) rfl ?_); refine Kd.R_lit (Kd.int .u8) _ 5 ?hg (N := 12) ?hd (xs := ([(wrap64 (48 + (Int.tmod x0_1 10))) % 256] : List Int)) (inner := [.int .u8 ((wrap64 (48 + (Int.tmod x0_1 10))) % 256)]) (ok := fun _ => True) (okp := fun _ => True) ?hr ?hp (fun _ hk => hk) trivial (Below.refl _ _) (Nat.le_refl _) (by simp) ?_; (case hd => rfl); (case hg => rfl); (case hr => first | (go_simp; done) | (go_simp; rfl)); (case hp => exact (Reps.one (show Kd.M (Kd.int .u8) _ _ _ ((wrap64 (48 + (Int.tmod x0_1 10))) % 256) [.int .u8 ((wrap64 (48 + (Int.tmod x0_1 10))) % 256)] from rfl) (Reps.none _ _))); intro v473 w5 ho6 hb hg_ hnew_; clear hg_ hnew_; (first | rw [← Ny472.out] at ho6 | (simp only [Int.reduceToNat] at ho6; rw [← Ny472.out] at ho6)); have HO474 := am (Kd.R_lower ho6 (below_size ab1)); replace HB := am (below_step ab1 hb); clear hb ho6; have hcv7 := own_string (P := Try.prog) Try.underlying88 Try.underlying5 Try.underlying9 (Kd.own_of_R HO474.out)))
     go_roundg k1
     case measure => have := HK1.out; omega
     case rel => exact ⟨(wrap64 (Int.tdiv x0_1 10)), ((strOfNums y472) ++ x3_1), ab6, ab6, H', ⟨by have := HK1.out; omega⟩, ⟨ab1⟩⟩
    ·rw [if_neg c3] at H
     have c3b0 : decide (0 < x0_1) = false := decide_eq_false c3
     clear c3
     by_cases c8 : 1 + x3_1.size ≤ 9223372036854775807
     case neg => rw [if_neg c8] at H; exact absurd H (by simp)
     rw [if_pos c8] at H
     have c8b0 := eq_true c8
     have c8b1 := decide_eq_true c8
     try have c8b2 : (9223372036854775807 < 1 + x3_1.size) = False := eq_false (Nat.not_lt.2 c8)
     obtain rfl := Option.some.inj H
     go_wp2
     go_ret
     exact ⟨ab7, ab1⟩
theorem z26_0 {p : Prop} (h : p := by repeat (first | (with_reducible first | exact HK.out | apply Kept.alloc | apply Kept.drewN | apply Kept.drew) | exact HK.out)) : p := h
def laws_markAttrS.l0 : Nat → List (S69) → Int → Int → Option (Int × (List (S69)))
 | 0, _, _, _ => none
 | k + 1, x0, x1, x5 => if x5 < (x0.length : Int) then ((laws_markText.f k x1).bind fun t475 => (if 0 ≤ x5 then ((some (x0.set (x5 : Int).toNat (⟨t475, (rd_T69 x0 x5).f1⟩ : S69) : List (S69))).bind fun y476 => ((laws_markText.f k (wrap64 (x1 + 1))).bind fun t477 => (laws_markAttrS.l0 k (y476.set (x5 : Int).toNat (⟨(rd_T69 y476 x5).f0, t477⟩ : S69)) (wrap64 ((wrap64 (x1 + 1)) + 1)) (wrap64 (x5 + 1))))) else (none))) else (some (x1, x0))
def laws_markAttrS.f (k : Nat) (l0 : List (S69)) (a1 : Int) : Option (Int × (List (S69))) := laws_markAttrS.l0 k l0 a1 0
theorem laws_markAttrS.calls (k : Nat) (P0_ : Nat → Prop) (u9000_ : Value) (l0 : List (S69)) (a1 : Int) (r1 : Int) (r2 : List (S69)) (w0 w : World) (hB : Below w0.heap.size w0 w) (ho0 : Kd.R k69 69 w w0.heap.size P0_ u9000_ l0) (h : laws_markAttrS.f k l0 a1 = some (r1, r2)) :
  Calls Try.prog 33 #[u9000_, .int .i64 a1] w fun e w' => e = .returned (.int .i64 r1) ∧ Kd.R k69 69 w' w0.heap.size (fun k_ => (P0_ k_ ∨ w.heap.size ≤ k_)) u9000_ r2 ∧ Below w0.heap.size w0 w' ∧ Kept w w' (fun k_ => P0_ k_) := by
 have HO0 := am (show Kd.R k69 69 w w0.heap.size (fun k_ => (P0_ k_ ∨ w.heap.size ≤ k_)) u9000_ l0 from Kd.R_mono ho0 (fun k_ hk => (.inl hk)))
 have HK := am (Kept.refl w (fun k_ => P0_ k_))
 have HW0 := am hB.size
 have HB := am hB
 clear hB
 have H : (laws_markAttrS.l0 k l0 a1 0) = some (r1, r2) := h
 clear h
 have H' := am H
 clear H
 go_enter Try.func33, Try.ntmps33
 go_wp2
 go_loopg [1, 5] k (fun kq v1 v5 w' => ∃ (x0_1 : List (S69)) (x1_1 : Int) (x5_1 : Int), v1 = .int .i64 x1_1 ∧ v5 = .int .i64 x5_1 ∧ Aside0 (laws_markAttrS.l0 kq x0_1 x1_1 x5_1 = some (r1, r2)) ∧ Aside0 (kq ≤ k) ∧ Aside0 (Kd.R k69 69 w' w0.heap.size (fun k_ => (P0_ k_ ∨ w.heap.size ≤ k_)) u9000_ x0_1) ∧ Aside0 (Kept w w' (fun k_ => P0_ k_)) ∧ Aside0 (Below w0.heap.size w0 w'))
 case atStart => exact ⟨(l0), (a1), (0), ab6, ab6, H', ⟨Nat.le_refl _⟩, ⟨ab8 HO0⟩, ⟨z26_0⟩, ⟨ab1⟩⟩
 case round =>
  clear H'
  try clear p2
  obtain ⟨x0_1, x1_1, x5_1, rfl, rfl, HA, HK1, HO_0, HK, HB⟩ := hrel
  cases gk with
  | zero => exact absurd HA.out (by simp [laws_markAttrS.l0])
  | succ k1 =>
   have H := HA.out
   clear HA
   simp only [laws_markAttrS.l0] at H
   replace H := ir_ H; rcases H with ⟨c3b0, H⟩ | ⟨c3b0, H⟩
   ·replace H := bi_ H; obtain ⟨t475, A4, H⟩ := H
    replace H := iq_ H; obtain ⟨c5b0, H⟩ := H
    obtain ⟨y476, hy476⟩ : ∃ y_ : List (S69), y_ = (x0_1.set (x5_1 : Int).toNat (⟨t475, (rd_T69 x0_1 x5_1).f1⟩ : S69)) := ⟨_, rfl⟩
    replace H : ((laws_markText.f k1 (wrap64 (x1_1 + 1))).bind fun t477 => (laws_markAttrS.l0 k1 (y476.set (x5_1 : Int).toNat (⟨(rd_T69 y476 x5_1).f0, t477⟩ : S69)) (wrap64 ((wrap64 (x1_1 + 1)) + 1)) (wrap64 (x5_1 + 1)))) = some (r1, r2) := by first | (rw [hy476]; with_reducible exact H) | (have H2_ := (Option.bind_some _ _).symm.trans H; rw [hy476]; with_reducible exact H2_) | (have H2_ := (Option.bind_some _ _).symm.trans H; with_reducible exact H2_) | with_reducible exact H | (rw [hy476]; exact H) | exact H
    have Ny476 := am hy476
    clear hy476
    replace H := bi_ H; obtain ⟨t477, A7, H⟩ := H
    obtain ⟨y478, hy478⟩ : ∃ y_ : List (S69), y_ = (y476.set (x5_1 : Int).toNat (⟨(rd_T69 y476 x5_1).f0, t477⟩ : S69)) := ⟨_, rfl⟩
    replace H : (laws_markAttrS.l0 k1 y478 (wrap64 ((wrap64 (x1_1 + 1)) + 1)) (wrap64 (x5_1 + 1))) = some (r1, r2) := by first | (rw [hy478]; with_reducible exact H) | (have H2_ := (Option.bind_some _ _).symm.trans H; rw [hy478]; with_reducible exact H2_) | (have H2_ := (Option.bind_some _ _).symm.trans H; with_reducible exact H2_) | with_reducible exact H | (rw [hy478]; exact H) | exact H
    have Ny478 := am hy478
    clear hy478
    have H' := am H
    clear H
    obtain ⟨Ao9, co9, eo9⟩ := Kd.R_slice HO_0.out
    subst eo9
    go_wp2_with (first | ((with_reducible refine gf_ 56 ?_); refine gc_ Try.func56 (laws_markText.calls k1 x1_1 t475 _ A4.out) ?_; rintro w10 hb; replace HO_0 := am (Kd.R_below (ab8 HO_0) hb); replace HK := am (Kept.below (S := (fun k_ => P0_ k_)) (z26_0) hb); replace HB := am (below_step ab1 hb); (try clear hb); (try clear hb2); (try clear hk); (try clear hi); have p6 : 0 ≤ (x5_1 : Int) := of_decide_eq_true ab4; have q6 : (x5_1 : Int) < ((x0_1.length : Int) : Int) := of_decide_eq_true ab4; obtain ⟨go6, co6, eo6, gb6, gl6, cl6, HG6⟩ := Kd.R_form HO_0.out (by omega); (first | cases eo6 | (injection eo6 with ea_ en_ ec_; (first | subst ea_ | (injection ea_ with ea_; subst ea_)); subst ec_; clear en_)); have GB6 := am gb6; have GG6 := am HG6; clear gb6 gl6 HG6; have HMgo6 := am (show (P0_ go6 ∨ w.heap.size ≤ go6) from (HO_0.out.1 _ rfl)); obtain ⟨ce6, hcl6, hM6, hcc6, hfr6⟩ := Kd.R_elem HO_0.out z69 (x5_1 : Int) p6 q6; obtain rfl := k69_openM hM6; have hx6_0 : w10.cell? ⟨go6, (x5_1 : Int).toNat * 2, none⟩ = some (.string ((rd_T69 x0_1 x5_1).f0)) := hcc6 0 _ rfl; have hx6_1 : w10.cell? ⟨go6, (x5_1 : Int).toNat * 2 + 1, none⟩ = some (.string ((rd_T69 x0_1 x5_1).f1)) := hcc6 1 _ rfl; have hf6_0 : w10.frozen? ⟨go6, (x5_1 : Int).toNat * 2, none⟩ = false := hfr6 0; have hf6_1 : w10.frozen? ⟨go6, (x5_1 : Int).toNat * 2 + 1, none⟩ = false := hfr6 1; clear hcl6 hcc6 hfr6 hM6; replace p6 := eq_true p6; replace q6 := eq_true q6; have HX11 := am (show Kd.R k69 69 w10 w0.heap.size (fun k_ => (P0_ k_ ∨ w.heap.size ≤ k_)) (.slice (some ⟨go6, 0, none⟩) x0_1.length co9) x0_1 from (ab8 HO_0)); obtain ⟨ce11, hcl11, hM11, hcc11, hfr11⟩ := Kd.R_elem HX11.out z69 (x5_1 : Int) (of_decide_eq_true ab4) (by have h_ : (x5_1 : Int) < ((x0_1.length : Int) : Int) := of_decide_eq_true ab4; first | exact h_ | (have e_ := (Kd.R_reads' HO_0.out).1; omega) | simpa using h_); obtain rfl := k69_openM hM11; have HP11 := Kd.R_seg HX11.out (x5_1 : Int) (of_decide_eq_true ab4) (by have h_ : (x5_1 : Int) < ((x0_1.length : Int) : Int) := of_decide_eq_true ab4; first | exact h_ | (have e_ := (Kd.R_reads' HO_0.out).1; omega) | simpa using h_) (seg := [.string t475]) (j := 0) hcl11 hcc11 (show 1 ≤ 2 from by decide) (x' := (⟨t475, (rd_T69 x0_1 x5_1).f1⟩ : S69)) (k69_mkM _ _ _ (⟨t475, (rd_T69 x0_1 x5_1).f1⟩ : S69) ) (fun _ hk => hk); have hx11_0 := hcc11 0 _ rfl; (try simp only [show (k69).sz = 2 from rfl, Nat.mul_one, Nat.add_zero] at hx11_0); have hf11_0 := hfr11 0; (try simp only [show (k69).sz = 2 from rfl, Nat.mul_one, Nat.add_zero] at hf11_0); clear hcl11 hcc11 hfr11 hM11) | ((with_reducible refine gate_store (t := 9) (p := 17) rfl ?_); refine store_event (t := 9) (p := 17) (v := ?vo_w12) (w1 := (w10.setCell ⟨go6, (x5_1 : Int).toNat * 2, none⟩ (.string t475))) ?hg ?ho ?hn ?hr ?_; (case ho => rfl); (case hg => rfl); (case hn => rfl); (case hr => first | (go_simp; done) | (go_simp; rfl)); intro w12 hw; have hg : w10.grownBy w12 (some go6) := (by rw [hw]; exact HP11.2); have hp_ : Kd.R k69 69 w12 w0.heap.size (fun k_ => (P0_ k_ ∨ w.heap.size ≤ k_)) (.slice (some ⟨go6, 0, none⟩) x0_1.length co9) y476 := (by rw [hw, Ny476.out]; exact HP11.1); clear HP11; replace HB := am ((by rw [hw]; exact below_set (HB.out) GB6.out : Below w0.heap.size w0 w12)); replace HK := am (Kept.of_grown (S := (fun k_ => P0_ k_)) hg (z26_0) (fun k_ e_ => (HO_0.out.1 k_ e_))); replace HO_0 := am hp_; clear hg hw hp_) | ((with_reducible refine gf_ 56 ?_); refine gc_ Try.func56 (laws_markText.calls k1 (wrap64 (x1_1 + 1)) t477 _ A7.out) ?_; rintro w13 hb; replace HO_0 := am (Kd.R_below (ab8 HO_0) hb); replace HK := am (Kept.below (S := (fun k_ => P0_ k_)) (z26_0) hb); replace HB := am (below_step ab1 hb); (try clear hb); (try clear hb2); (try clear hk); (try clear hi); have p8 : 0 ≤ (x5_1 : Int) := of_decide_eq_true ab4; have q8 : (x5_1 : Int) < ((x0_1.length : Int) : Int) := of_decide_eq_true ab4; obtain ⟨ce8, hcl8, hM8, hcc8, hfr8⟩ := Kd.R_elem HO_0.out z69 (x5_1 : Int) p8 q8; obtain rfl := k69_openM hM8; have hx8_0 : w13.cell? ⟨go6, (x5_1 : Int).toNat * 2, none⟩ = some (.string ((rd_T69 y476 x5_1).f0)) := hcc8 0 _ rfl; have hx8_1 : w13.cell? ⟨go6, (x5_1 : Int).toNat * 2 + 1, none⟩ = some (.string ((rd_T69 y476 x5_1).f1)) := hcc8 1 _ rfl; have hf8_0 : w13.frozen? ⟨go6, (x5_1 : Int).toNat * 2, none⟩ = false := hfr8 0; have hf8_1 : w13.frozen? ⟨go6, (x5_1 : Int).toNat * 2 + 1, none⟩ = false := hfr8 1; clear hcl8 hcc8 hfr8 hM8; replace p8 := eq_true p8; replace q8 := eq_true q8; have HX14 := am (show Kd.R k69 69 w13 w0.heap.size (fun k_ => (P0_ k_ ∨ w.heap.size ≤ k_)) (.slice (some ⟨go6, 0, none⟩) x0_1.length co9) y476 from (ab8 HO_0)); obtain ⟨ce14, hcl14, hM14, hcc14, hfr14⟩ := Kd.R_elem HX14.out z69 (x5_1 : Int) (of_decide_eq_true ab4) (by have h_ : (x5_1 : Int) < ((x0_1.length : Int) : Int) := of_decide_eq_true ab4; first | exact h_ | (have e_ := (Kd.R_reads' HO_0.out).1; omega) | simpa using h_); obtain rfl := k69_openM hM14; have HP14 := Kd.R_seg HX14.out (x5_1 : Int) (of_decide_eq_true ab4) (by have h_ : (x5_1 : Int) < ((x0_1.length : Int) : Int) := of_decide_eq_true ab4; first | exact h_ | (have e_ := (Kd.R_reads' HO_0.out).1; omega) | simpa using h_) (seg := [.string t477]) (j := 1) hcl14 hcc14 (show 2 ≤ 2 from by decide) (x' := (⟨(rd_T69 y476 x5_1).f0, t477⟩ : S69)) (k69_mkM _ _ _ (⟨(rd_T69 y476 x5_1).f0, t477⟩ : S69) ) (fun _ hk => hk); have hx14_1 := hcc14 1 _ rfl; (try simp only [show (k69).sz = 2 from rfl, Nat.mul_one, Nat.add_zero] at hx14_1); have hf14_1 := hfr14 1; (try simp only [show (k69).sz = 2 from rfl, Nat.mul_one, Nat.add_zero] at hf14_1); clear hcl14 hcc14 hfr14 hM14) | ((with_reducible refine gate_store (t := 9) (p := 25) rfl ?_); refine store_event (t := 9) (p := 25) (v := ?vo_w15) (w1 := (w13.setCell ⟨go6, (x5_1 : Int).toNat * 2 + 1, none⟩ (.string t477))) ?hg ?ho ?hn ?hr ?_; (case ho => rfl); (case hg => rfl); (case hn => rfl); (case hr => first | (go_simp; done) | (go_simp; rfl)); intro w15 hw; have hg : w13.grownBy w15 (some go6) := (by rw [hw]; exact HP14.2); have hp_ : Kd.R k69 69 w15 w0.heap.size (fun k_ => (P0_ k_ ∨ w.heap.size ≤ k_)) (.slice (some ⟨go6, 0, none⟩) x0_1.length co9) y478 := (by rw [hw, Ny478.out]; exact HP14.1); clear HP14; replace HB := am ((by rw [hw]; exact below_set (HB.out) GB6.out : Below w0.heap.size w0 w15)); replace HK := am (Kept.of_grown (S := (fun k_ => P0_ k_)) hg (z26_0) (fun k_ e_ => (HO_0.out.1 k_ e_))); replace HO_0 := am hp_; clear hg hw hp_))
    go_roundg k1
    case measure => have := HK1.out; omega
    case rel => exact ⟨(y478), (wrap64 ((wrap64 (x1_1 + 1)) + 1)), (wrap64 (x5_1 + 1)), ab6, ab6, H', ⟨by have := HK1.out; omega⟩, ⟨ab8 HO_0⟩, ⟨z26_0⟩, ⟨ab1⟩⟩
   ·simp only [Option.some.injEq, Prod.mk.injEq] at H
    obtain ⟨rfl, rfl⟩ := H
    obtain ⟨Ao16, co16, eo16⟩ := Kd.R_slice HO_0.out
    subst eo16
    go_wp2
    go_ret
    exact ⟨ab7, ab8 HO_0, ab1, z26_0⟩
section
open Go.Proofs.YtekkalnafngfeaaW.PrintMore
theorem typed_own {α : Type} {d : Kd α} {e base : Nat} {ok : Nat → Prop} {w : World} {v : Value} {xs : List α} (hE : d.E = []) (h : d.R e w base ok v xs) (k : Nat) (hk : v.ownBlock = some k) : ∃ cells, w.heap[k]? = some (.cells cells e (0, 0)) := by
 obtain ⟨_, _, _, q, hq, cells, hc⟩ := (Kd.R_bound h).1 k hk
 rw [hE, List.mem_singleton] at hq
 subst hq
 exact ⟨cells, hc⟩
/-- A row of elements of one type is as it was behind a call that wrote another one's own block. -/
theorem other_type {α β : Type} {d : Kd α} {d2 : Kd β} {e e2 base : Nat} {ok ok2 S : Nat → Prop} {w w1 : World} {v v2 : Value} {xs : List α} {ys : List β} (hE : d.E = []) (hE2 : d2.E = []) (hne : e ≠ e2) (h : d.R e w base ok v xs) (h2 : d2.R e2 w base ok2 v2 ys) (hk : Kept w w1 (fun k => some k = v2.ownBlock ∧ S k)) : d.R e w1 base ok v xs := by
 refine Kd.R_mono (Kd.R_step (Kd.R_bound h) (fun k hk1 hlt => hk.2 k hlt (fun hp => ?_))) (fun k hk => hk.1)
 obtain ⟨_, _, _, q, hq, cells, hc⟩ := hk1
 rw [hE, List.mem_singleton] at hq
 subst hq
 obtain ⟨cells2, hc2⟩ := typed_own hE2 h2 k hp.1.symm
 rw [hc] at hc2
 injection hc2 with hc2
 injection hc2 with _ h3 _
 exact hne h3
/-- The attributes of item i, lent. -/
theorem S_attrs {w : World} {base : Nat} {ok : Nat → Prop} {g n cap : Nat} {xs : List S38} (hS : Kd.S k38 38 w base ok (.slice (some ⟨g, 0, none⟩) n cap) xs) (i : Int) (h0 : 0 ≤ i) (h1 : i < n) :
  ∃ v3, w.cell? ⟨g, i.toNat * 7 + 3, none⟩ = some v3 ∧ Kd.R k69 69 w base (fun k => some k = v3.ownBlock ∧ ok k) v3 (rd_T38 xs i).f3 ∧
   ∀ (w1 : World) (ok2 : Nat → Prop) (r2 : List S69), Kd.R k69 69 w1 base ok2 v3 r2 → Kept w w1 (fun k => some k = v3.ownBlock ∧ ok k) →
    Kd.S k38 38 w1 base ok (.slice (some ⟨g, 0, none⟩) n cap) (xs.set i.toNat (⟨(rd_T38 xs i).f0, (rd_T38 xs i).f1, (rd_T38 xs i).f2, r2, (rd_T38 xs i).f4, (rd_T38 xs i).f5, (rd_T38 xs i).f6⟩ : S38)) := by
 obtain ⟨oki, c, hcl, hM, hcc, hoki, hH⟩ := Kd.S_lend hS z38 i h0 h1
 obtain ⟨v3, v6, rfl, g3, g6⟩ := k38_openM hM
 refine ⟨v3, hcc 3 v3 rfl, Kd.R_mono (Kd.R_tight2 rfl g3) (fun k hk => ⟨hk.1, (hoki k hk.2).1⟩), fun w1 ok2 r2 hr hk => ?_⟩
 have hH1 := Kd.H_step (w1 := w1) hH (fun k hok hn hlt => hk.2 k hlt (fun hp => hn (g3.1 k hp.1.symm)))
 have g3' := Kd.R_mono (Kd.R_tight rfl hr) (fun k hk => g3.1 k hk.symm)
 have g6' := other_type rfl rfl (by decide) g6 g3 hk
 exact Kd.H_back hH1 (k38_mkM w1 base oki (⟨(rd_T38 xs i).f0, (rd_T38 xs i).f1, (rd_T38 xs i).f2, r2, (rd_T38 xs i).f4, (rd_T38 xs i).f5, (rd_T38 xs i).f6⟩ : S38) g3' g6') (fun _ hk => hk)
/-- The kids of item i, lent. -/
theorem S_kids {w : World} {base : Nat} {ok : Nat → Prop} {g n cap : Nat} {xs : List S38} (hS : Kd.S k38 38 w base ok (.slice (some ⟨g, 0, none⟩) n cap) xs) (i : Int) (h0 : 0 ≤ i) (h1 : i < n) :
  ∃ v6, w.cell? ⟨g, i.toNat * 7 + 6, none⟩ = some v6 ∧ Kd.R (Kd.int .i64) 3 w base (fun k => some k = v6.ownBlock ∧ ok k) v6 (rd_T38 xs i).f6 ∧
   ∀ (w1 : World) (ok2 : Nat → Prop) (r2 : List Int), Kd.R (Kd.int .i64) 3 w1 base ok2 v6 r2 → Kept w w1 (fun k => some k = v6.ownBlock ∧ ok k) →
    Kd.S k38 38 w1 base ok (.slice (some ⟨g, 0, none⟩) n cap) (xs.set i.toNat (⟨(rd_T38 xs i).f0, (rd_T38 xs i).f1, (rd_T38 xs i).f2, (rd_T38 xs i).f3, (rd_T38 xs i).f4, (rd_T38 xs i).f5, r2⟩ : S38)) := by
 obtain ⟨oki, c, hcl, hM, hcc, hoki, hH⟩ := Kd.S_lend hS z38 i h0 h1
 obtain ⟨v3, v6, rfl, g3, g6⟩ := k38_openM hM
 refine ⟨v6, hcc 6 v6 rfl, Kd.R_mono (Kd.R_tight2 rfl g6) (fun k hk => ⟨hk.1, (hoki k hk.2).1⟩), fun w1 ok2 r2 hr hk => ?_⟩
 have hH1 := Kd.H_step (w1 := w1) hH (fun k hok hn hlt => hk.2 k hlt (fun hp => hn (g6.1 k hp.1.symm)))
 have g6' := Kd.R_mono (Kd.R_tight rfl hr) (fun k hk => g6.1 k hk.symm)
 have g3' := other_type rfl rfl (by decide) g3 g6 hk
 exact Kd.H_back hH1 (k38_mkM w1 base oki (⟨(rd_T38 xs i).f0, (rd_T38 xs i).f1, (rd_T38 xs i).f2, (rd_T38 xs i).f3, (rd_T38 xs i).f4, (rd_T38 xs i).f5, r2⟩ : S38) g3' g6') (fun _ hk => hk)
/-- A plain field of item i is written: the cells of the item as they were are told to the caller. -/
theorem S_put {w : World} {base : Nat} {ok : Nat → Prop} {g n cap : Nat} {xs : List S38} (hS : Kd.S k38 38 w base ok (.slice (some ⟨g, 0, none⟩) n cap) xs) (i : Int) (h0 : 0 ≤ i) (h1 : i < n) (j : Nat) (hj : j < 7) (u : Value) (x' : S38)
  (hM' : ∀ (ok' : Nat → Prop) (v3 v6 : Value), Kd.R k69 69 w base ok' v3 (rd_T38 xs i).f3 → Kd.R (Kd.int .i64) 3 w base ok' v6 (rd_T38 xs i).f6 →
   k38.M w base ok' x' ((([.int .i64 (rd_T38 xs i).f0, .int .i64 (rd_T38 xs i).f1, .string (rd_T38 xs i).f2, v3, .string (rd_T38 xs i).f4, .int .i64 (rd_T38 xs i).f5, v6] : List Value).take j) ++ [u] ++ (([.int .i64 (rd_T38 xs i).f0, .int .i64 (rd_T38 xs i).f1, .string (rd_T38 xs i).f2, v3, .string (rd_T38 xs i).f4, .int .i64 (rd_T38 xs i).f5, v6] : List Value).drop (j + 1)))) :
  Kd.S k38 38 (w.setCell ⟨g, i.toNat * 7 + j, none⟩ u) base ok (.slice (some ⟨g, 0, none⟩) n cap) (xs.set i.toNat x') ∧ w.grownBy (w.setCell ⟨g, i.toNat * 7 + j, none⟩ u) (some g) := by
 obtain ⟨oki, c, hcl, hM, hcc, hfr, hoki, hH⟩ := Kd.S_elem hS z38 i h0 h1
 obtain ⟨v3, v6, rfl, g3, g6⟩ := k38_openM hM
 exact Kd.S_seg (okg := fun _ => False) (okp := oki) (Kd.H_mono hH (fun k hk => ⟨hk, fun h => h⟩)) h0 h1 (seg := [u]) (j := j) hj (x' := x') (hM' oki v3 v6 g3 g6) (fun k hk => Or.inl hk) (fun k hk => hk.elim)
theorem S_put0 {w : World} {base : Nat} {ok : Nat → Prop} {g n cap : Nat} {xs : List S38} (hS : Kd.S k38 38 w base ok (.slice (some ⟨g, 0, none⟩) n cap) xs) (i : Int) (h0 : 0 ≤ i) (h1 : i < n) (a : Int) :
  Kd.S k38 38 (w.setCell ⟨g, i.toNat * 7 + 0, none⟩ (.int .i64 a)) base ok (.slice (some ⟨g, 0, none⟩) n cap) (xs.set i.toNat (⟨a, (rd_T38 xs i).f1, (rd_T38 xs i).f2, (rd_T38 xs i).f3, (rd_T38 xs i).f4, (rd_T38 xs i).f5, (rd_T38 xs i).f6⟩ : S38)) ∧ w.grownBy (w.setCell ⟨g, i.toNat * 7 + 0, none⟩ (.int .i64 a)) (some g) :=
 S_put hS i h0 h1 0 (by decide) (.int .i64 a) (⟨a, (rd_T38 xs i).f1, (rd_T38 xs i).f2, (rd_T38 xs i).f3, (rd_T38 xs i).f4, (rd_T38 xs i).f5, (rd_T38 xs i).f6⟩ : S38) (fun ok' v3 v6 g3 g6 => k38_mkM w base ok' (⟨a, (rd_T38 xs i).f1, (rd_T38 xs i).f2, (rd_T38 xs i).f3, (rd_T38 xs i).f4, (rd_T38 xs i).f5, (rd_T38 xs i).f6⟩ : S38) g3 g6)
theorem S_put1 {w : World} {base : Nat} {ok : Nat → Prop} {g n cap : Nat} {xs : List S38} (hS : Kd.S k38 38 w base ok (.slice (some ⟨g, 0, none⟩) n cap) xs) (i : Int) (h0 : 0 ≤ i) (h1 : i < n) (a : Int) :
  Kd.S k38 38 (w.setCell ⟨g, i.toNat * 7 + 1, none⟩ (.int .i64 a)) base ok (.slice (some ⟨g, 0, none⟩) n cap) (xs.set i.toNat (⟨(rd_T38 xs i).f0, a, (rd_T38 xs i).f2, (rd_T38 xs i).f3, (rd_T38 xs i).f4, (rd_T38 xs i).f5, (rd_T38 xs i).f6⟩ : S38)) ∧ w.grownBy (w.setCell ⟨g, i.toNat * 7 + 1, none⟩ (.int .i64 a)) (some g) :=
 S_put hS i h0 h1 1 (by decide) (.int .i64 a) (⟨(rd_T38 xs i).f0, a, (rd_T38 xs i).f2, (rd_T38 xs i).f3, (rd_T38 xs i).f4, (rd_T38 xs i).f5, (rd_T38 xs i).f6⟩ : S38) (fun ok' v3 v6 g3 g6 => k38_mkM w base ok' (⟨(rd_T38 xs i).f0, a, (rd_T38 xs i).f2, (rd_T38 xs i).f3, (rd_T38 xs i).f4, (rd_T38 xs i).f5, (rd_T38 xs i).f6⟩ : S38) g3 g6)
theorem S_put2 {w : World} {base : Nat} {ok : Nat → Prop} {g n cap : Nat} {xs : List S38} (hS : Kd.S k38 38 w base ok (.slice (some ⟨g, 0, none⟩) n cap) xs) (i : Int) (h0 : 0 ≤ i) (h1 : i < n) (a : ByteArray) :
  Kd.S k38 38 (w.setCell ⟨g, i.toNat * 7 + 2, none⟩ (.string a)) base ok (.slice (some ⟨g, 0, none⟩) n cap) (xs.set i.toNat (⟨(rd_T38 xs i).f0, (rd_T38 xs i).f1, a, (rd_T38 xs i).f3, (rd_T38 xs i).f4, (rd_T38 xs i).f5, (rd_T38 xs i).f6⟩ : S38)) ∧ w.grownBy (w.setCell ⟨g, i.toNat * 7 + 2, none⟩ (.string a)) (some g) :=
 S_put hS i h0 h1 2 (by decide) (.string a) (⟨(rd_T38 xs i).f0, (rd_T38 xs i).f1, a, (rd_T38 xs i).f3, (rd_T38 xs i).f4, (rd_T38 xs i).f5, (rd_T38 xs i).f6⟩ : S38) (fun ok' v3 v6 g3 g6 => k38_mkM w base ok' (⟨(rd_T38 xs i).f0, (rd_T38 xs i).f1, a, (rd_T38 xs i).f3, (rd_T38 xs i).f4, (rd_T38 xs i).f5, (rd_T38 xs i).f6⟩ : S38) g3 g6)
theorem S_put4 {w : World} {base : Nat} {ok : Nat → Prop} {g n cap : Nat} {xs : List S38} (hS : Kd.S k38 38 w base ok (.slice (some ⟨g, 0, none⟩) n cap) xs) (i : Int) (h0 : 0 ≤ i) (h1 : i < n) (a : ByteArray) :
  Kd.S k38 38 (w.setCell ⟨g, i.toNat * 7 + 4, none⟩ (.string a)) base ok (.slice (some ⟨g, 0, none⟩) n cap) (xs.set i.toNat (⟨(rd_T38 xs i).f0, (rd_T38 xs i).f1, (rd_T38 xs i).f2, (rd_T38 xs i).f3, a, (rd_T38 xs i).f5, (rd_T38 xs i).f6⟩ : S38)) ∧ w.grownBy (w.setCell ⟨g, i.toNat * 7 + 4, none⟩ (.string a)) (some g) :=
 S_put hS i h0 h1 4 (by decide) (.string a) (⟨(rd_T38 xs i).f0, (rd_T38 xs i).f1, (rd_T38 xs i).f2, (rd_T38 xs i).f3, a, (rd_T38 xs i).f5, (rd_T38 xs i).f6⟩ : S38) (fun ok' v3 v6 g3 g6 => k38_mkM w base ok' (⟨(rd_T38 xs i).f0, (rd_T38 xs i).f1, (rd_T38 xs i).f2, (rd_T38 xs i).f3, a, (rd_T38 xs i).f5, (rd_T38 xs i).f6⟩ : S38) g3 g6)
theorem S_put5 {w : World} {base : Nat} {ok : Nat → Prop} {g n cap : Nat} {xs : List S38} (hS : Kd.S k38 38 w base ok (.slice (some ⟨g, 0, none⟩) n cap) xs) (i : Int) (h0 : 0 ≤ i) (h1 : i < n) (a : Int) :
  Kd.S k38 38 (w.setCell ⟨g, i.toNat * 7 + 5, none⟩ (.int .i64 a)) base ok (.slice (some ⟨g, 0, none⟩) n cap) (xs.set i.toNat (⟨(rd_T38 xs i).f0, (rd_T38 xs i).f1, (rd_T38 xs i).f2, (rd_T38 xs i).f3, (rd_T38 xs i).f4, a, (rd_T38 xs i).f6⟩ : S38)) ∧ w.grownBy (w.setCell ⟨g, i.toNat * 7 + 5, none⟩ (.int .i64 a)) (some g) :=
 S_put hS i h0 h1 5 (by decide) (.int .i64 a) (⟨(rd_T38 xs i).f0, (rd_T38 xs i).f1, (rd_T38 xs i).f2, (rd_T38 xs i).f3, (rd_T38 xs i).f4, a, (rd_T38 xs i).f6⟩ : S38) (fun ok' v3 v6 g3 g6 => k38_mkM w base ok' (⟨(rd_T38 xs i).f0, (rd_T38 xs i).f1, (rd_T38 xs i).f2, (rd_T38 xs i).f3, (rd_T38 xs i).f4, a, (rd_T38 xs i).f6⟩ : S38) g3 g6)
theorem rd_set (xs : List S38) (x : S38) (i : Int) (h0 : 0 ≤ i) (h1 : i < (xs.length : Int)) : rd_T38 (xs.set i.toNat x) i = x := by
 unfold rd_T38
 rw [List.getD_eq_getElem?_getD, List.getElem?_set_self (by omega)]
 rfl
theorem S_next1 {w : World} {base : Nat} {ok : Nat → Prop} {g n cap : Nat} {xs : List S38} {x : S38} {i : Int} (hS : Kd.S k38 38 w base ok (.slice (some ⟨g, 0, none⟩) n cap) (xs.set i.toNat x)) (h0 : 0 ≤ i) (h1 : i < n) (hl : i < (xs.length : Int)) (a : Int) :
  Kd.S k38 38 (w.setCell ⟨g, i.toNat * 7 + 1, none⟩ (.int .i64 a)) base ok (.slice (some ⟨g, 0, none⟩) n cap) (xs.set i.toNat (⟨x.f0, a, x.f2, x.f3, x.f4, x.f5, x.f6⟩ : S38)) ∧ w.grownBy (w.setCell ⟨g, i.toNat * 7 + 1, none⟩ (.int .i64 a)) (some g) := by
 have h := S_put1 hS i h0 h1 a
 rw [rd_set xs x i h0 hl, List.set_set] at h
 exact h
theorem S_next2 {w : World} {base : Nat} {ok : Nat → Prop} {g n cap : Nat} {xs : List S38} {x : S38} {i : Int} (hS : Kd.S k38 38 w base ok (.slice (some ⟨g, 0, none⟩) n cap) (xs.set i.toNat x)) (h0 : 0 ≤ i) (h1 : i < n) (hl : i < (xs.length : Int)) (a : ByteArray) :
  Kd.S k38 38 (w.setCell ⟨g, i.toNat * 7 + 2, none⟩ (.string a)) base ok (.slice (some ⟨g, 0, none⟩) n cap) (xs.set i.toNat (⟨x.f0, x.f1, a, x.f3, x.f4, x.f5, x.f6⟩ : S38)) ∧ w.grownBy (w.setCell ⟨g, i.toNat * 7 + 2, none⟩ (.string a)) (some g) := by
 have h := S_put2 hS i h0 h1 a
 rw [rd_set xs x i h0 hl, List.set_set] at h
 exact h
theorem S_next4 {w : World} {base : Nat} {ok : Nat → Prop} {g n cap : Nat} {xs : List S38} {x : S38} {i : Int} (hS : Kd.S k38 38 w base ok (.slice (some ⟨g, 0, none⟩) n cap) (xs.set i.toNat x)) (h0 : 0 ≤ i) (h1 : i < n) (hl : i < (xs.length : Int)) (a : ByteArray) :
  Kd.S k38 38 (w.setCell ⟨g, i.toNat * 7 + 4, none⟩ (.string a)) base ok (.slice (some ⟨g, 0, none⟩) n cap) (xs.set i.toNat (⟨x.f0, x.f1, x.f2, x.f3, a, x.f5, x.f6⟩ : S38)) ∧ w.grownBy (w.setCell ⟨g, i.toNat * 7 + 4, none⟩ (.string a)) (some g) := by
 have h := S_put4 hS i h0 h1 a
 rw [rd_set xs x i h0 hl, List.set_set] at h
 exact h
theorem S_next5 {w : World} {base : Nat} {ok : Nat → Prop} {g n cap : Nat} {xs : List S38} {x : S38} {i : Int} (hS : Kd.S k38 38 w base ok (.slice (some ⟨g, 0, none⟩) n cap) (xs.set i.toNat x)) (h0 : 0 ≤ i) (h1 : i < n) (hl : i < (xs.length : Int)) (a : Int) :
  Kd.S k38 38 (w.setCell ⟨g, i.toNat * 7 + 5, none⟩ (.int .i64 a)) base ok (.slice (some ⟨g, 0, none⟩) n cap) (xs.set i.toNat (⟨x.f0, x.f1, x.f2, x.f3, x.f4, a, x.f6⟩ : S38)) ∧ w.grownBy (w.setCell ⟨g, i.toNat * 7 + 5, none⟩ (.int .i64 a)) (some g) := by
 have h := S_put5 hS i h0 h1 a
 rw [rd_set xs x i h0 hl, List.set_set] at h
 exact h
theorem S_attrs' {w : World} {base : Nat} {ok : Nat → Prop} {g n cap : Nat} {xs : List S38} {x : S38} {i : Int} (hS : Kd.S k38 38 w base ok (.slice (some ⟨g, 0, none⟩) n cap) (xs.set i.toNat x)) (h0 : 0 ≤ i) (h1 : i < n) (hl : i < (xs.length : Int)) :
  ∃ v3, w.cell? ⟨g, i.toNat * 7 + 3, none⟩ = some v3 ∧ Kd.R k69 69 w base (fun k => some k = v3.ownBlock ∧ ok k) v3 x.f3 ∧
   ∀ (w1 : World) (ok2 : Nat → Prop) (r2 : List S69), Kd.R k69 69 w1 base ok2 v3 r2 → Kept w w1 (fun k => some k = v3.ownBlock ∧ ok k) →
    Kd.S k38 38 w1 base ok (.slice (some ⟨g, 0, none⟩) n cap) (xs.set i.toNat (⟨x.f0, x.f1, x.f2, r2, x.f4, x.f5, x.f6⟩ : S38)) := by
 obtain ⟨v3, hc, hr, hb⟩ := S_attrs hS i h0 h1
 rw [rd_set xs x i h0 hl] at hr hb
 refine ⟨v3, hc, hr, fun w1 ok2 r2 h2 hk => ?_⟩
 have h := hb w1 ok2 r2 h2 hk
 rw [List.set_set] at h
 exact h
theorem S_kids' {w : World} {base : Nat} {ok : Nat → Prop} {g n cap : Nat} {xs : List S38} {x : S38} {i : Int} (hS : Kd.S k38 38 w base ok (.slice (some ⟨g, 0, none⟩) n cap) (xs.set i.toNat x)) (h0 : 0 ≤ i) (h1 : i < n) (hl : i < (xs.length : Int)) :
  ∃ v6, w.cell? ⟨g, i.toNat * 7 + 6, none⟩ = some v6 ∧ Kd.R (Kd.int .i64) 3 w base (fun k => some k = v6.ownBlock ∧ ok k) v6 x.f6 ∧
   ∀ (w1 : World) (ok2 : Nat → Prop) (r2 : List Int), Kd.R (Kd.int .i64) 3 w1 base ok2 v6 r2 → Kept w w1 (fun k => some k = v6.ownBlock ∧ ok k) →
    Kd.S k38 38 w1 base ok (.slice (some ⟨g, 0, none⟩) n cap) (xs.set i.toNat (⟨x.f0, x.f1, x.f2, x.f3, x.f4, x.f5, r2⟩ : S38)) := by
 obtain ⟨v6, hc, hr, hb⟩ := S_kids hS i h0 h1
 rw [rd_set xs x i h0 hl] at hr hb
 refine ⟨v6, hc, hr, fun w1 ok2 r2 h2 hk => ?_⟩
 have h := hb w1 ok2 r2 h2 hk
 rw [List.set_set] at h
 exact h
/-- What a store into field j of item i meets. -/
theorem S_cells {w : World} {base : Nat} {ok : Nat → Prop} {g n cap : Nat} {xs : List S38} (hS : Kd.S k38 38 w base ok (.slice (some ⟨g, 0, none⟩) n cap) xs) (i : Int) (h0 : 0 ≤ i) (h1 : i < n) (j : Nat) (hj : j < 7) :
  (∃ v, w.cell? ⟨g, i.toNat * 7 + j, none⟩ = some v) ∧ w.frozen? ⟨g, i.toNat * 7 + j, none⟩ = false := by
 obtain ⟨oki, c, hcl, hM, hcc, hfr, _, _⟩ := Kd.S_elem hS z38 i h0 h1
 obtain ⟨v3, v6, rfl, _, _⟩ := k38_openM hM
 refine ⟨?_, hfr j⟩
 match j, hj with
 | 0, _ => exact ⟨_, hcc 0 _ rfl⟩
 | 1, _ => exact ⟨_, hcc 1 _ rfl⟩
 | 2, _ => exact ⟨_, hcc 2 _ rfl⟩
 | 3, _ => exact ⟨_, hcc 3 _ rfl⟩
 | 4, _ => exact ⟨_, hcc 4 _ rfl⟩
 | 5, _ => exact ⟨_, hcc 5 _ rfl⟩
 | 6, _ => exact ⟨_, hcc 6 _ rfl⟩
def laws_markItemS.l0 : Nat → List S38 → Int → Int → Option (Int × List S38)
 | 0, _, _, _ => none
 | k + 1, x0, x1, x5 => if x5 < (x0.length : Int) then (if 0 ≤ x5 then ((laws_markText.f k (wrap64 (wrap64 (x1 + 1) + 1))).bind fun t => (laws_markAttrS.f k (rd_T38 x0 x5).f3 (wrap64 (wrap64 (wrap64 (x1 + 1) + 1) + 1))).bind fun b => (laws_markText.f k b.1).bind fun t2 => (laws_markIntS.f k (rd_T38 x0 x5).f6 (wrap64 (wrap64 (b.1 + 1) + 1))).bind fun d => laws_markItemS.l0 k (x0.set x5.toNat (⟨x1, wrap64 (x1 + 1), t, b.2, t2, wrap64 (b.1 + 1), d.2⟩ : S38)) d.1 (wrap64 (x5 + 1))) else none) else some (x1, x0)
def laws_markItemS.g (k : Nat) (l0 : List S38) (a1 : Int) : Option (Int × List S38) := laws_markItemS.l0 k l0 a1 0
theorem laws_markItemS.calls_g (k : Nat) (P0_ : Nat → Prop) (u9000_ : Value) (l0 : List S38) (a1 : Int) (r1 : Int) (r2 : List S38) (w0 w : World) (hB : Below w0.heap.size w0 w) (ho0 : Kd.S k38 38 w w0.heap.size P0_ u9000_ l0) (h : laws_markItemS.g k l0 a1 = some (r1, r2)) :
  Calls Try.prog 31 #[u9000_, .int .i64 a1] w fun e w' => e = .returned (.int .i64 r1) ∧ Kd.S k38 38 w' w0.heap.size (fun k_ => (P0_ k_ ∨ w.heap.size ≤ k_)) u9000_ r2 ∧ Below w0.heap.size w0 w' ∧ Kept w w' (fun k_ => P0_ k_) := by
 have HO0 := am (show Kd.S k38 38 w w0.heap.size (fun k_ => (P0_ k_ ∨ w.heap.size ≤ k_)) u9000_ l0 from Kd.S_mono ho0 (fun k_ hk => (.inl hk)))
 have HK := am (Kept.refl w (fun k_ => P0_ k_))
 have HW0 := am hB.size
 have HB := am hB
 clear hB
 have H : (laws_markItemS.l0 k l0 a1 0) = some (r1, r2) := h
 clear h
 have H' := am H
 clear H
 go_enter Try.func31, Try.ntmps31
 go_wp2
 go_loopg [1, 5] k (fun kq v1 v5 w' => ∃ (x0_1 : List S38) (x1_1 : Int) (x5_1 : Int), v1 = .int .i64 x1_1 ∧ v5 = .int .i64 x5_1 ∧ Aside0 (laws_markItemS.l0 kq x0_1 x1_1 x5_1 = some (r1, r2)) ∧ Aside0 (kq ≤ k) ∧ Aside0 (Kd.S k38 38 w' w0.heap.size (fun k_ => (P0_ k_ ∨ w.heap.size ≤ k_)) u9000_ x0_1) ∧ Aside0 (Kept w w' (fun k_ => P0_ k_)) ∧ Aside0 (Below w0.heap.size w0 w'))
 case atStart => exact ⟨l0, a1, 0, rfl, rfl, H', ⟨Nat.le_refl _⟩, HO0, HK, HB⟩
 case round =>
  clear H'
  obtain ⟨x0_1, x1_1, x5_1, rfl, rfl, HA, HK1, HO_0, HK, HB⟩ := hrel
  cases gk with
  | zero => exact absurd HA.out (by simp [laws_markItemS.l0])
  | succ k1 =>
   have H := HA.out
   clear HA
   simp only [laws_markItemS.l0] at H
   by_cases c3 : x5_1 < (x0_1.length : Int)
   ·rw [if_pos c3] at H
    by_cases c5 : 0 ≤ x5_1
    case neg => rw [if_neg c5] at H; exact absurd H (by simp)
    rw [if_pos c5] at H
    obtain ⟨t, A4, H⟩ := Option.bind_eq_some_iff.mp H
    obtain ⟨⟨b1, b2⟩, A5, H⟩ := Option.bind_eq_some_iff.mp H
    obtain ⟨t2, A6, H⟩ := Option.bind_eq_some_iff.mp H
    obtain ⟨⟨d1, d2⟩, A7, H⟩ := Option.bind_eq_some_iff.mp H
    try dsimp only at A4 A5 A6 A7 H
    replace A4 := am A4
    replace A5 := am A5
    replace A6 := am A6
    replace A7 := am A7
    have H' := am H
    clear H
    obtain ⟨Ao9, co9, eo9⟩ := Kd.S_slice HO_0.out
    subst eo9
    obtain ⟨go6, co6, eo6, gb6, gl6, cl6, HG6⟩ := Kd.R_form (Kd.S_R HO_0.out) (by omega)
    (first | cases eo6 | (injection eo6 with ea_ en_ ec_; (first | subst ea_ | (injection ea_ with ea_; subst ea_)); subst ec_; clear en_))
    have GB6 := am gb6
    clear gb6 gl6 HG6
    have OK6 := am (show (P0_ go6 ∨ w.heap.size ≤ go6) from ((Kd.S_R HO_0.out).1 _ rfl))
    have C3 := am c3
    have C5 := am c5
    have c3b0 := decide_eq_true c3
    have c5b0 := decide_eq_true c5
    replace c3 := eq_true c3
    replace c5 := eq_true c5
    obtain ⟨⟨vc0, hx0⟩, hf0⟩ := S_cells HO_0.out x5_1 C5.out C3.out 0 (by decide)
    replace hx0 : wr.cell? ⟨go6, x5_1.toNat * 7, none⟩ = some vc0 := hx0; replace hf0 : wr.frozen? ⟨go6, x5_1.toNat * 7, none⟩ = false := hf0
    go_wp2_with (first | ((with_reducible refine gate_store (t := 3) (p := 16) rfl ?_); refine store_event (t := 3) (p := 16) (v := ?vo_w11) (w1 := (wr.setCell ⟨go6, x5_1.toNat * 7, none⟩ (.int .i64 x1_1))) ?hg ?ho ?hn ?hr ?_; (case ho => rfl); (case hg => rfl); (case hn => rfl); (case hr => first | (go_simp; done) | (go_simp; rfl)); intro w11 hw; have HP := S_put0 HO_0.out x5_1 C5.out C3.out (x1_1); have hg : wr.grownBy w11 (some go6) := (by rw [hw]; exact HP.2); have n0_ := am (show Kd.S k38 38 w11 w0.heap.size (fun k_ => (P0_ k_ ∨ w.heap.size ≤ k_)) (.slice (some ⟨go6, 0, none⟩) x0_1.length co9) (x0_1.set x5_1.toNat (⟨x1_1, (rd_T38 x0_1 x5_1).f1, (rd_T38 x0_1 x5_1).f2, (rd_T38 x0_1 x5_1).f3, (rd_T38 x0_1 x5_1).f4, (rd_T38 x0_1 x5_1).f5, (rd_T38 x0_1 x5_1).f6⟩ : S38)) from (by rw [hw]; exact HP.1)); clear HP; have n1_ := am ((by rw [hw]; exact below_set (HB.out) GB6.out : Below w0.heap.size w0 w11)); have n2_ := am (Kept.of_grown (S := (fun k_ => P0_ k_)) hg HK.out (fun k_ e_ => (by cases e_; exact OK6.out))); clear HO_0; clear HB; clear HK; have HO_0 := n0_; have HB := n1_; have HK := n2_; clear n0_ n1_ n2_; clear hg hw; clear hx0 hf0; obtain ⟨⟨vc1, hx1⟩, hf1⟩ := S_cells HO_0.out x5_1 C5.out C3.out 1 (by decide); replace hx1 : w11.cell? ⟨go6, x5_1.toNat * 7 + 1, none⟩ = some vc1 := hx1; replace hf1 : w11.frozen? ⟨go6, x5_1.toNat * 7 + 1, none⟩ = false := hf1) | ((with_reducible refine gate_store (t := 3) (p := 23) rfl ?_); refine store_event (t := 3) (p := 23) (v := ?vo_w12) (w1 := (w11.setCell ⟨go6, x5_1.toNat * 7 + 1, none⟩ (.int .i64 (wrap64 (x1_1 + 1))))) ?hg ?ho ?hn ?hr ?_; (case ho => rfl); (case hg => rfl); (case hn => rfl); (case hr => first | (go_simp; done) | (go_simp; rfl)); intro w12 hw; have HP := S_next1 HO_0.out C5.out C3.out C3.out ((wrap64 (x1_1 + 1))); have hg : w11.grownBy w12 (some go6) := (by rw [hw]; exact HP.2); have n0_ := am (show Kd.S k38 38 w12 w0.heap.size (fun k_ => (P0_ k_ ∨ w.heap.size ≤ k_)) (.slice (some ⟨go6, 0, none⟩) x0_1.length co9) (x0_1.set x5_1.toNat (⟨x1_1, (wrap64 (x1_1 + 1)), (rd_T38 x0_1 x5_1).f2, (rd_T38 x0_1 x5_1).f3, (rd_T38 x0_1 x5_1).f4, (rd_T38 x0_1 x5_1).f5, (rd_T38 x0_1 x5_1).f6⟩ : S38)) from (by rw [hw]; exact HP.1)); clear HP; have n1_ := am ((by rw [hw]; exact below_set (HB.out) GB6.out : Below w0.heap.size w0 w12)); have n2_ := am (Kept.of_grown (S := (fun k_ => P0_ k_)) hg HK.out (fun k_ e_ => (by cases e_; exact OK6.out))); clear HO_0; clear HB; clear HK; have HO_0 := n0_; have HB := n1_; have HK := n2_; clear n0_ n1_ n2_; clear hg hw; clear hx1 hf1) | ((with_reducible refine gate_callee (f := 56) rfl ?_); refine goesL_ (some 29) rfl rfl Try.func56 (by kernel_rfl) rfl #[.int .i64 (wrap64 (wrap64 (x1_1 + 1) + 1))] rfl (by (try simp only [List.map_toArray, List.map_cons, List.map_nil]); first | done | rfl) ?_; (with_reducible refine (laws_markText.calls k1 (wrap64 (wrap64 (x1_1 + 1) + 1)) t _ A4.out).mono ?_); rintro e w13 ⟨rfl, hb⟩; refine ⟨_, rfl, ?_⟩; replace HO_0 := am (Kd.S_below HO_0.out hb); replace HK := am (Kept.below (S := (fun k_ => P0_ k_)) HK.out hb); replace HB := am (below_step HB.out hb); clear hb; obtain ⟨⟨vc2, hx2⟩, hf2⟩ := S_cells HO_0.out x5_1 C5.out C3.out 2 (by decide); replace hx2 : w13.cell? ⟨go6, x5_1.toNat * 7 + 2, none⟩ = some vc2 := hx2; replace hf2 : w13.frozen? ⟨go6, x5_1.toNat * 7 + 2, none⟩ = false := hf2) | ((with_reducible refine gate_store (t := 9) (p := 31) rfl ?_); refine store_event (t := 9) (p := 31) (v := ?vo_w14) (w1 := (w13.setCell ⟨go6, x5_1.toNat * 7 + 2, none⟩ (.string t))) ?hg ?ho ?hn ?hr ?_; (case ho => rfl); (case hg => rfl); (case hn => rfl); (case hr => first | (go_simp; done) | (go_simp; rfl)); intro w14 hw; have HP := S_next2 HO_0.out C5.out C3.out C3.out (t); have hg : w13.grownBy w14 (some go6) := (by rw [hw]; exact HP.2); have n0_ := am (show Kd.S k38 38 w14 w0.heap.size (fun k_ => (P0_ k_ ∨ w.heap.size ≤ k_)) (.slice (some ⟨go6, 0, none⟩) x0_1.length co9) (x0_1.set x5_1.toNat (⟨x1_1, (wrap64 (x1_1 + 1)), t, (rd_T38 x0_1 x5_1).f3, (rd_T38 x0_1 x5_1).f4, (rd_T38 x0_1 x5_1).f5, (rd_T38 x0_1 x5_1).f6⟩ : S38)) from (by rw [hw]; exact HP.1)); clear HP; have n1_ := am ((by rw [hw]; exact below_set (HB.out) GB6.out : Below w0.heap.size w0 w14)); have n2_ := am (Kept.of_grown (S := (fun k_ => P0_ k_)) hg HK.out (fun k_ e_ => (by cases e_; exact OK6.out))); clear HO_0; clear HB; clear HK; have HO_0 := n0_; have HB := n1_; have HK := n2_; clear n0_ n1_ n2_; clear hg hw; clear hx2 hf2; obtain ⟨v3, hx3, hv_, hn_⟩ := S_attrs' HO_0.out C5.out C3.out C3.out; have HV3 := am hv_; have HN3 := am hn_; clear hv_ hn_) | ((with_reducible refine gate_callee (f := 33) rfl ?_); refine goesL_ (some 40) rfl rfl Try.func33 (by kernel_rfl) rfl #[v3, .int .i64 (wrap64 (wrap64 (wrap64 (x1_1 + 1) + 1) + 1))] rfl (by (try simp only [List.map_toArray, List.map_cons, List.map_nil]); first | done | rfl) ?_; (with_reducible refine (laws_markAttrS.calls k1 (fun k => some k = (v3 : Value).ownBlock ∧ (P0_ k ∨ w.heap.size ≤ k)) v3 ((rd_T38 x0_1 x5_1).f3) (wrap64 (wrap64 (wrap64 (x1_1 + 1) + 1) + 1)) b1 b2 w0 _ ?side1 ?side2 A5.out).mono ?_); (case side1 => exact HB.out); (case side2 => exact HV3.out); rintro e w15 ⟨rfl, hy0, hb, hkp⟩; refine ⟨_, rfl, ?_⟩; replace HO_0 := am (HN3.out _ _ _ hy0 hkp); replace HK := am (HK.out.then_ hkp (fun k_ h_ => h_.2)); replace HB := am hb; clear hb hkp hy0; clear HV3 HN3 hx3) | ((with_reducible refine gate_callee (f := 56) rfl ?_); refine goesL_ (some 44) rfl rfl Try.func56 (by kernel_rfl) rfl #[.int .i64 (b1)] rfl (by (try simp only [List.map_toArray, List.map_cons, List.map_nil]); first | done | rfl) ?_; (with_reducible refine (laws_markText.calls k1 (b1) t2 _ A6.out).mono ?_); rintro e w16 ⟨rfl, hb⟩; refine ⟨_, rfl, ?_⟩; replace HO_0 := am (Kd.S_below HO_0.out hb); replace HK := am (Kept.below (S := (fun k_ => P0_ k_)) HK.out hb); replace HB := am (below_step HB.out hb); clear hb; obtain ⟨⟨vc4, hx4⟩, hf4⟩ := S_cells HO_0.out x5_1 C5.out C3.out 4 (by decide); replace hx4 : w16.cell? ⟨go6, x5_1.toNat * 7 + 4, none⟩ = some vc4 := hx4; replace hf4 : w16.frozen? ⟨go6, x5_1.toNat * 7 + 4, none⟩ = false := hf4) | ((with_reducible refine gate_store (t := 9) (p := 46) rfl ?_); refine store_event (t := 9) (p := 46) (v := ?vo_w17) (w1 := (w16.setCell ⟨go6, x5_1.toNat * 7 + 4, none⟩ (.string t2))) ?hg ?ho ?hn ?hr ?_; (case ho => rfl); (case hg => rfl); (case hn => rfl); (case hr => first | (go_simp; done) | (go_simp; rfl)); intro w17 hw; have HP := S_next4 HO_0.out C5.out C3.out C3.out (t2); have hg : w16.grownBy w17 (some go6) := (by rw [hw]; exact HP.2); have n0_ := am (show Kd.S k38 38 w17 w0.heap.size (fun k_ => (P0_ k_ ∨ w.heap.size ≤ k_)) (.slice (some ⟨go6, 0, none⟩) x0_1.length co9) (x0_1.set x5_1.toNat (⟨x1_1, (wrap64 (x1_1 + 1)), t, b2, t2, (rd_T38 x0_1 x5_1).f5, (rd_T38 x0_1 x5_1).f6⟩ : S38)) from (by rw [hw]; exact HP.1)); clear HP; have n1_ := am ((by rw [hw]; exact below_set (HB.out) GB6.out : Below w0.heap.size w0 w17)); have n2_ := am (Kept.of_grown (S := (fun k_ => P0_ k_)) hg HK.out (fun k_ e_ => (by cases e_; exact OK6.out))); clear HO_0; clear HB; clear HK; have HO_0 := n0_; have HB := n1_; have HK := n2_; clear n0_ n1_ n2_; clear hg hw; clear hx4 hf4; obtain ⟨⟨vc5, hx5⟩, hf5⟩ := S_cells HO_0.out x5_1 C5.out C3.out 5 (by decide); replace hx5 : w17.cell? ⟨go6, x5_1.toNat * 7 + 5, none⟩ = some vc5 := hx5; replace hf5 : w17.frozen? ⟨go6, x5_1.toNat * 7 + 5, none⟩ = false := hf5) | ((with_reducible refine gate_store (t := 3) (p := 53) rfl ?_); refine store_event (t := 3) (p := 53) (v := ?vo_w18) (w1 := (w17.setCell ⟨go6, x5_1.toNat * 7 + 5, none⟩ (.int .i64 (wrap64 (b1 + 1))))) ?hg ?ho ?hn ?hr ?_; (case ho => rfl); (case hg => rfl); (case hn => rfl); (case hr => first | (go_simp; done) | (go_simp; rfl)); intro w18 hw; have HP := S_next5 HO_0.out C5.out C3.out C3.out ((wrap64 (b1 + 1))); have hg : w17.grownBy w18 (some go6) := (by rw [hw]; exact HP.2); have n0_ := am (show Kd.S k38 38 w18 w0.heap.size (fun k_ => (P0_ k_ ∨ w.heap.size ≤ k_)) (.slice (some ⟨go6, 0, none⟩) x0_1.length co9) (x0_1.set x5_1.toNat (⟨x1_1, (wrap64 (x1_1 + 1)), t, b2, t2, (wrap64 (b1 + 1)), (rd_T38 x0_1 x5_1).f6⟩ : S38)) from (by rw [hw]; exact HP.1)); clear HP; have n1_ := am ((by rw [hw]; exact below_set (HB.out) GB6.out : Below w0.heap.size w0 w18)); have n2_ := am (Kept.of_grown (S := (fun k_ => P0_ k_)) hg HK.out (fun k_ e_ => (by cases e_; exact OK6.out))); clear HO_0; clear HB; clear HK; have HO_0 := n0_; have HB := n1_; have HK := n2_; clear n0_ n1_ n2_; clear hg hw; clear hx5 hf5; obtain ⟨v6, hx6, hv_, hn_⟩ := S_kids' HO_0.out C5.out C3.out C3.out; have HV6 := am hv_; have HN6 := am hn_; clear hv_ hn_) | ((with_reducible refine gate_callee (f := 32) rfl ?_); refine goesL_ (some 62) rfl rfl Try.func32 (by kernel_rfl) rfl #[v6, .int .i64 (wrap64 (wrap64 (b1 + 1) + 1))] rfl (by (try simp only [List.map_toArray, List.map_cons, List.map_nil]); first | done | rfl) ?_; (with_reducible refine (laws_markIntS.calls k1 (fun k => some k = (v6 : Value).ownBlock ∧ (P0_ k ∨ w.heap.size ≤ k)) v6 ((rd_T38 x0_1 x5_1).f6) (wrap64 (wrap64 (b1 + 1) + 1)) d1 d2 w0 _ ?side1 ?side2 A7.out).mono ?_); (case side1 => exact HB.out); (case side2 => exact HV6.out); rintro e w19 ⟨rfl, hy0, hb, hkp⟩; refine ⟨_, rfl, ?_⟩; replace HO_0 := am (HN6.out _ _ _ hy0 hkp); replace HK := am (HK.out.then_ hkp (fun k_ h_ => h_.2)); replace HB := am hb; clear hb hkp hy0; clear HV6 HN6 hx6))
    go_roundg k1
    case measure => have := HK1.out; omega
    case rel => exact ⟨_, d1, wrap64 (x5_1 + 1), ab6, ab6, H', ⟨by have := HK1.out; omega⟩, HO_0, HK, HB⟩
   ·rw [if_neg c3] at H
    have c3b0 := decide_eq_false c3
    clear c3
    simp only [Option.some.injEq, Prod.mk.injEq] at H
    obtain ⟨rfl, rfl⟩ := H
    obtain ⟨Ao16, co16, eo16⟩ := Kd.S_slice HO_0.out
    subst eo16
    go_wp2
    go_ret
    exact ⟨by first | rfl | (simp; done), HO_0.out, HB.out, HK.out⟩
end
theorem sets_blk {t : TypeId} {b : Nat} : ∀ (vs : List Value) (o : Nat) (w : World) (cs : Array Value), w.heap[b]? = some (.cells cs t (0, 0)) → ∃ cs', (w.setCells b o vs).heap[b]? = some (.cells cs' t (0, 0)) ∧ cs'.size = cs.size
 | [], _, _, cs, h => ⟨cs, h, rfl⟩
 | v :: r, o, w, cs, h => by
  obtain ⟨cs', h1, h2⟩ := sets_blk r (o + 1) (w.setCell ⟨b, o, none⟩ v) _ (blk_set h o v)
  exact ⟨cs', h1, by rw [h2, Array.size_setIfInBounds]⟩
theorem sets_far {b k : Nat} (hk : k ≠ b) : ∀ (vs : List Value) (o : Nat) (w : World), (w.setCells b o vs).heap[k]? = w.heap[k]?
 | [], _, _ => rfl
 | v :: r, o, w => by
  rw [World.setCells, sets_far hk r (o + 1)]
  exact Below.heap_setCell w ⟨b, o, none⟩ v k hk
theorem sets_size {b : Nat} : ∀ (vs : List Value) (o : Nat) (w : World), (w.setCells b o vs).heap.size = w.heap.size
 | [], _, _ => rfl
 | v :: r, o, w => by rw [World.setCells, sets_size r (o + 1), World.size_setCell]
theorem sets_same {b : Nat} : ∀ (vs : List Value) (o : Nat) (w : World), (w.setCells b o vs).os = w.os ∧ (w.setCells b o vs).tape = w.tape ∧ (w.setCells b o vs).output = w.output
 | [], _, _ => ⟨rfl, rfl, rfl⟩
 | v :: r, o, w => by
  obtain ⟨h1, h2, h3⟩ := sets_same r (o + 1) (w.setCell ⟨b, o, none⟩ v)
  exact ⟨h1, h2, h3⟩
/-- A row of whole numbers, by its cells. -/
theorem row_of_cells {w : World} {base b n cap : Nat} {ok : Nat → Prop} {cur : Array Value} {zs : List Int} (hb : w.heap[b]? = some (.cells cur 3 (0, 0))) (hbase : base ≤ b) (hok : ok b) (hz : zs.length = n) (hn : n ≤ cap) (hc : cap ≤ maxLen) (hs : cur.size = cap)
  (hcell : ∀ j (h : j < zs.length), w.cell? ⟨b, j, none⟩ = some (.int .i64 zs[j])) : Kd.R (Kd.int .i64) 3 w base ok (.slice (some ⟨b, 0, none⟩) n cap) zs := by
 subst hz
 refine Kd.R_of_own ⟨by rw [encs_length, Nat.mul_one], .inr ⟨b, cap, cur, rfl, hbase, hb, hn, hc, by rw [hs, Nat.mul_one], ?_⟩⟩ (fun k hk => by
  have : b = k := by simpa [Value.ownBlock] using hk
  subst this
  exact hok)
 apply List.ext_getElem?
 intro j
 rw [Nat.mul_one]
 by_cases hj : j < zs.length
 ·rw [List.getElem?_take, if_pos hj, Array.getElem?_toList, ← blk_cell hb j, hcell j hj]
  unfold encs
  rw [List.getElem?_map, List.getElem?_eq_getElem hj]
  rfl
 ·rw [List.getElem?_eq_none (by rw [List.length_take]; omega), List.getElem?_eq_none (by rw [encs_length]; omega)]
/-- The list with k put in at i, number by number. -/
theorem ins_at (xs : List Int) (i : Nat) (k : Int) (hi : i ≤ xs.length) (j : Nat) (h : j < (xs.take i ++ k :: xs.drop i).length) :
  (xs.take i ++ k :: xs.drop i)[j] = if j < i then xs.getD j 0 else if j = i then k else xs.getD (j - 1) 0 := by
 have hl : j < xs.length + 1 := by rw [List.length_append, List.length_take, List.length_cons, List.length_drop, Nat.min_eq_left hi] at h; omega
 by_cases hj : j < i
 ·rw [if_pos hj, List.getElem_append_left (by rw [List.length_take]; omega), List.getElem_take, List.getD_eq_getElem?_getD, List.getElem?_eq_getElem (by omega)]
  rfl
 ·rw [if_neg hj, List.getElem_append_right (by rw [List.length_take]; omega)]
  by_cases e : j = i
  ·subst e
   rw [if_pos rfl]
   simp [List.length_take, Nat.min_eq_left hi]
  ·rw [if_neg e]
   have e2 : j - (xs.take i).length = (j - i - 1) + 1 := by rw [List.length_take, Nat.min_eq_left hi]; omega
   simp only [e2, List.getElem_cons_succ, List.getElem_drop]
   rw [List.getD_eq_getElem?_getD, List.getElem?_eq_getElem (by omega)]
   show _ = xs[j - 1]
   congr 1
   omega
theorem ins_length (xs : List Int) (i : Nat) (k : Int) (hi : i ≤ xs.length) : (xs.take i ++ k :: xs.drop i).length = xs.length + 1 := by
 rw [List.length_append, List.length_take, List.length_cons, List.length_drop, Nat.min_eq_left hi]; omega
/-- A row of one's own: nil, or a block. -/
theorem own_form {w : World} {base : Nat} {ok : Nat → Prop} {v : Value} {xs : List Int} (h : Kd.R (Kd.int .i64) 3 w base ok v xs) :
  (v = .slice none 0 0 ∧ xs = []) ∨ ∃ b cap cur, v = .slice (some ⟨b, 0, none⟩) xs.length cap ∧ base ≤ b ∧ ok b ∧ w.heap[b]? = some (.cells cur 3 (0, 0)) ∧ xs.length ≤ cap ∧ cap ≤ maxLen ∧ cur.size = cap ∧ ∀ j, j < xs.length → w.cell? ⟨b, j, none⟩ = some (.int .i64 (xs.getD j 0)) := by
 obtain ⟨_, h2⟩ := Kd.own_of_R h
 rcases h2 with ⟨rfl, h3⟩ | ⟨b, cap, cur, rfl, hb, hh, hn, hc, hs, ht⟩
 ·exact .inl ⟨rfl, List.eq_nil_of_length_eq_zero h3⟩
 ·refine .inr ⟨b, cap, cur, rfl, hb, h.1 b (by simp [Value.ownBlock]), hh, hn, hc, by rw [hs, Nat.mul_one], fun j hj => ?_⟩
  rw [blk_cell hh j]
  have e : (cur.toList.take (xs.length * 1))[j]? = (encs (Value.int .i64) xs)[j]? := by rw [ht]
  rw [Nat.mul_one, List.getElem?_take, if_pos hj, Array.getElem?_toList] at e
  rw [e]
  unfold encs
  rw [List.getElem?_map, List.getElem?_eq_getElem hj, List.getD_eq_getElem?_getD, List.getElem?_eq_getElem hj]
  rfl
section
variable {w w' : World} {base b cap i vb : Nat} {ok : Nat → Prop} {cur : Array Value} {xs : List Int} {k : Int}
/-- In place: what lies behind i moved on by one, k put in. -/
theorem ins_shift (hh : w.heap[b]? = some (.cells cur 3 (0, 0))) (hs : cur.size = cap) (hn : xs.length + 1 ≤ cap) (hc : cap ≤ maxLen) (hb : base ≤ b) (hok : ok b) (hi : i ≤ xs.length) (hcell : ∀ j, j < xs.length → w.cell? ⟨b, j, none⟩ = some (.int .i64 (xs.getD j 0)))
  (vs : List Value) (hvs : vs = (xs.drop i).map (Value.int .i64)) : Kd.R (Kd.int .i64) 3 ((w.setCells b (i + 1) vs).setCells b i [.int .i64 k]) base ok (.slice (some ⟨b, 0, none⟩) (xs.length + 1) cap) (xs.take i ++ k :: xs.drop i) ∧ w.grownBy ((w.setCells b (i + 1) vs).setCells b i [.int .i64 k]) (some b) := by
 subst hvs
 have hsome : ∀ (W : World) (cs : Array Value), W.heap[b]? = some (.cells cs 3 (0, 0)) → cs.size = cap → ∀ j, j < cap → (W.cell? ⟨b, j, none⟩).isSome = true := by
  intro W cs h1 h2 j hj
  rw [blk_cell h1 j, Array.getElem?_eq_getElem (by omega)]
  rfl
 obtain ⟨c1, h1, s1⟩ := sets_blk ((xs.drop i).map (Value.int .i64)) (i + 1) w cur hh
 obtain ⟨c2, h2, s2⟩ := sets_blk [.int .i64 k] i (w.setCells b (i + 1) ((xs.drop i).map (Value.int .i64))) c1 h1
 refine ⟨row_of_cells h2 hb hok (ins_length xs i k hi) hn hc (by omega) (fun j hj => ?_), ?_⟩
 ·rw [ins_at xs i k hi j hj]
  rw [ins_length xs i k hi] at hj
  by_cases e : j = i
  ·subst e
   rw [if_neg (Nat.lt_irrefl _), if_pos rfl]
   exact World.cell?_setCells_in b [.int .i64 k] j _ (fun q hq => hsome _ c1 h1 (by omega) (j + q) (by simp at hq; omega)) 0 (by simp)
  ·rw [World.cell?_setCells_out b [.int .i64 k] i _ _ (fun _ _ => by show j < i ∨ i + 1 ≤ j; omega)]
   by_cases hj2 : j < i
   ·rw [if_pos hj2, World.cell?_setCells_out b _ (i + 1) w _ (fun _ _ => by show j < i + 1 ∨ _; omega)]
    exact hcell j (by omega)
   ·rw [if_neg hj2, if_neg e]
    have hq : j - (i + 1) < ((xs.drop i).map (Value.int .i64)).length := by rw [List.length_map, List.length_drop]; omega
    have := World.cell?_setCells_in b ((xs.drop i).map (Value.int .i64)) (i + 1) w (fun q hq2 => hsome w cur hh hs (i + 1 + q) (by rw [List.length_map, List.length_drop] at hq2; omega)) (j - (i + 1)) hq
    rw [show i + 1 + (j - (i + 1)) = j by omega] at this
    rw [this, List.getElem_map, List.getElem_drop, List.getD_eq_getElem?_getD, List.getElem?_eq_getElem (by omega)]
    congr 2
    show _ = xs[j - 1]
    congr 1
    omega
 ·obtain ⟨o1, t1, p1⟩ := sets_same (b := b) ((xs.drop i).map (Value.int .i64)) (i + 1) w
  obtain ⟨o2, t2, p2⟩ := sets_same (b := b) [.int .i64 k] i (w.setCells b (i + 1) ((xs.drop i).map (Value.int .i64)))
  refine ⟨o2.trans o1, t2.trans t1, p2.trans p1, by rw [sets_size, sets_size]; exact Nat.le_refl _, fun q _ hne => ?_⟩
  have hqb : q ≠ b := fun e => hne (by rw [e])
  rw [sets_far hqb, sets_far hqb]
/-- In a new block, whose first i cells hold what they held: k put in, then what lies behind it. -/
theorem ins_fresh {W : World} (hh : W.heap[b]? = some (.cells cur 3 (0, 0))) (hs : cur.size = cap) (hn : xs.length + 1 ≤ cap) (hc : cap ≤ maxLen) (hb : base ≤ b) (hok : ok b) (hi : i ≤ xs.length) (hcell : ∀ j, j < i → W.cell? ⟨b, j, none⟩ = some (.int .i64 (xs.getD j 0))) :
  Kd.R (Kd.int .i64) 3 ((W.setCells b i [.int .i64 k]).drew.setCells b (i + 1) ((xs.drop i).map (Value.int .i64))) base ok (.slice (some ⟨b, 0, none⟩) (xs.length + 1) cap) (xs.take i ++ k :: xs.drop i) := by
 have hsome : ∀ (W : World) (cs : Array Value), W.heap[b]? = some (.cells cs 3 (0, 0)) → cs.size = cap → ∀ j, j < cap → (W.cell? ⟨b, j, none⟩).isSome = true := by
  intro W cs h1 h2 j hj
  rw [blk_cell h1 j, Array.getElem?_eq_getElem (by omega)]
  rfl
 obtain ⟨c1, h1, s1⟩ := sets_blk [.int .i64 k] i W cur hh
 have h1' : (W.setCells b i [.int .i64 k]).drew.heap[b]? = some (.cells c1 3 (0, 0)) := h1
 obtain ⟨c2, h2, s2⟩ := sets_blk ((xs.drop i).map (Value.int .i64)) (i + 1) (W.setCells b i [.int .i64 k]).drew c1 h1'
 refine row_of_cells h2 hb hok (ins_length xs i k hi) hn hc (by omega) (fun j hj => ?_)
 rw [ins_at xs i k hi j hj]
 rw [ins_length xs i k hi] at hj
 by_cases hj2 : j ≤ i
 ·rw [World.cell?_setCells_out b _ (i + 1) _ _ (fun _ _ => by show j < i + 1 ∨ _; omega)]
  show (W.setCells b i [.int .i64 k]).cell? ⟨b, j, none⟩ = _
  by_cases e : j = i
  ·subst e
   rw [if_neg (Nat.lt_irrefl _), if_pos rfl]
   exact World.cell?_setCells_in b [.int .i64 k] j _ (fun q hq => hsome _ cur hh hs (j + q) (by simp at hq; omega)) 0 (by simp)
  ·rw [World.cell?_setCells_out b [.int .i64 k] i _ _ (fun _ _ => by show j < i ∨ i + 1 ≤ j; omega), if_pos (by omega)]
   exact hcell j (by omega)
 ·rw [if_neg (by omega), if_neg (by omega)]
  have hq : j - (i + 1) < ((xs.drop i).map (Value.int .i64)).length := by rw [List.length_map, List.length_drop]; omega
  have := World.cell?_setCells_in b ((xs.drop i).map (Value.int .i64)) (i + 1) (W.setCells b i [.int .i64 k]).drew (fun q hq2 => hsome _ c1 h1' (by omega) (i + 1 + q) (by rw [List.length_map, List.length_drop] at hq2; omega)) (j - (i + 1)) hq
  rw [show i + 1 + (j - (i + 1)) = j by omega] at this
  rw [this, List.getElem_map, List.getElem_drop, List.getD_eq_getElem?_getD, List.getElem?_eq_getElem (by omega)]
  congr 2
  show _ = xs[j - 1]
  congr 1
  omega
end
theorem AppendOwn_size (n : Nat) : (Builtin.zeroCells (Value.int .i64 0).cells n).size = n := by rw [size_zeroCells]; show n * 1 = n; omega
theorem alloc_size (w : World) (o : Obj) : w.heap.size < (w.alloc o).heap.size := by
 show w.heap.size < (w.heap.push o).size
 rw [Array.size_push]; omega
theorem app_at (l : List Value) (Z : Array Value) (j : Nat) (h : j < l.length) : (l.toArray ++ Z)[j]? = some l[j] := by
 rw [Array.getElem?_append_left (by rw [List.size_toArray]; exact h), List.getElem?_toArray, List.getElem?_eq_getElem h]
/-- slices.Insert(s, i, k): the row with k put in at i; it is the old block, or a new one; no other block is touched. -/
theorem insert_calls {P : Program} {ρ : Ren} (L : Lays2.n21 P ρ) (h3 : ρ.t 3 = 3) {w : World} {base : Nat} {ok : Nat → Prop} {v : Value} {xs : List Int} {i : Nat} {k : Int} {vb : Nat} (hi : i ≤ xs.length) (hl : xs.length < 17592186044415) (HO : Kd.R (Kd.int .i64) 3 w base ok v xs)
  (hbase : base ≤ w.heap.size) (hv : w.heap[vb]? = some (.cells #[.int .i64 k] 3 (0, 0))) (hne : some vb ≠ v.ownBlock) (hok : ∀ q, w.heap.size ≤ q → ok q) :
  Calls P (ρ.f 21) #[v, .int .i64 i, .slice (some ⟨vb, 0, none⟩) 1 1] w fun e w' => ∃ v1, e = .returned v1 ∧ Kd.R (Kd.int .i64) 3 w' base ok v1 (xs.take i ++ k :: xs.drop i) ∧ (v1.ownBlock = v.ownBlock ∨ ∃ b, v1.ownBlock = some b ∧ w.heap.size ≤ b) ∧
   (∀ q, q < w.heap.size → some q ≠ v.ownBlock → w'.heap[q]? = w.heap[q]?) ∧ w.heap.size ≤ w'.heap.size ∧ w'.os = w.os ∧ w'.tape = w.tape ∧ w'.output = w.output := by
 have hvs : ∀ j u, ([.int .i64 k] : List Value)[j]? = some u → w.cell? ⟨vb, 0 + j, none⟩ = some u := by
  intro j u hj
  rw [Nat.zero_add, blk_cell hv j]
  rw [show (#[Value.int .i64 k] : Array Value) = [Value.int .i64 k].toArray from rfl, List.getElem?_toArray]
  exact hj
 have h1v : ∀ u ∈ ([.int .i64 k] : List Value), u.oneCell' = true := by intro u hu; rw [List.mem_singleton] at hu; subst hu; rfl
 have hml : xs.length + 1 ≤ maxLen := by unfold maxLen; omega
 rcases own_form HO with ⟨rfl, rfl⟩ | ⟨b, cap, cur, rfl, hb, hbok, hh, hn, hc, hs, hcell⟩
 ·obtain rfl : i = 0 := by simpa using hi
  have hg := grownCap_ge w (0 + 1) 0 (ρ.t 3)
  have hgl := grownCap_le_maxLen w (0 + 1) 0 (ρ.t 3) (by unfold maxLen; omega)
  refine (Any2.slices_Insert_int_end_grow L none 0 0 vb 0 1 1 [] [.int .i64 k] w (by omega) (Nat.le_refl _) (by omega) (by omega) rfl rfl (fun _ => rfl) (fun a ha => by cases ha) hvs h1v).mono ?_
  rintro e w' ⟨rfl, rfl⟩
  rw [h3] at hg hgl ⊢
  generalize hG : grownCap w (0 + 1) 0 3 = G at *
  have hh' : (w.drew.alloc (.cells (([] ++ [Value.int .i64 k]).toArray ++ Builtin.zeroCells (Value.int .i64 0).cells (G - (0 + 1))) 3 (0, 0))).heap[w.heap.size]? = _ := blk_new w.drew _
  refine ⟨_, rfl, row_of_cells (zs := [k]) hh' hbase (hok _ (Nat.le_refl _)) rfl hg hgl ?_ (fun j hj => ?_), .inr ⟨w.heap.size, by simp [Value.ownBlock], Nat.le_refl _⟩, fun q hq _ => (Below.heap_alloc w.drew _ q hq), ?_, rfl, rfl, rfl⟩
  ·rw [Array.size_append, AppendOwn_size]; show 1 + _ = G; omega
  ·obtain rfl : j = 0 := by simpa using hj
   rw [blk_cell hh' 0]
   exact app_at ([] ++ [.int .i64 k]) _ 0 (by simp)
  ·exact Nat.le_of_lt (alloc_size w.drew _)
 ·have hxl : (xs.map (Value.int .i64)).length = xs.length := List.length_map ..
  have hcs : ∀ j u, (xs.map (Value.int .i64))[j]? = some u → w.cell? ⟨b, 0 + j, none⟩ = some u := by
   intro j u hj
   rw [List.getElem?_map] at hj
   obtain ⟨q, hq, rfl⟩ := Option.map_eq_some_iff.1 hj
   obtain ⟨hjl, hqe⟩ := List.getElem?_eq_some_iff.1 hq
   rw [Nat.zero_add, hcell j hjl, List.getD_eq_getElem?_getD, hq]
   rfl
  have h1c : ∀ u ∈ xs.map (Value.int .i64), u.oneCell' = true := by
   intro u hu
   obtain ⟨q, _, rfl⟩ := List.mem_map.1 hu
   rfl
  have hdrop : (xs.map (Value.int .i64)).drop i = (xs.drop i).map (Value.int .i64) := (List.map_drop ..).symm
  have hvb : vb ≠ b := fun e => hne (by rw [e]; simp [Value.ownBlock])
  have hbl : b < w.heap.size := blk_lt hh
  have hsome : ∀ j, j < cap → (w.cell? ⟨b, j, none⟩).isSome = true := by
   intro j hj
   rw [blk_cell hh j, Array.getElem?_eq_getElem (by omega)]
   rfl
  have hc63 : cap ≤ 9223372036854775807 := hc
  by_cases hroom : xs.length + 1 ≤ cap
  ·by_cases hin : i < xs.length
   ·refine (Any2.slices_Insert_int_shift L b 0 xs.length cap i vb 0 1 1 (xs.map (Value.int .i64)) [.int .i64 k] w hin (by omega) hroom hc63 hvb hxl rfl hcs (fun j hj => by rw [Nat.zero_add]; exact hsome j (by omega)) (fun j _ => blk_frozen hh _) hvs h1c h1v 3 3 1 cur.size (by simp [World.shape?, hv]) (by simp [World.shape?, hh]) (by omega) (blk_frozen hv 0) (blk_frozen hv 1)).mono ?_
    rintro e w' ⟨rfl, rfl⟩
    simp only [Nat.zero_add, hdrop]
    obtain ⟨r1, r2⟩ := ins_shift (w := w.drew) (k := k) (i := i) hh hs hroom hc hb hbok hi hcell _ rfl
    exact ⟨_, rfl, r1, .inl (by simp [Value.ownBlock]), fun q hq hq2 => r2.block q hq (by simpa [Value.ownBlock] using hq2), r2.size, r2.os, r2.tape, r2.output⟩
   ·obtain rfl : i = xs.length := by omega
    refine (Any2.slices_Insert_int_end_room L b 0 xs.length cap vb 0 1 1 [.int .i64 k] w (by omega) hroom hc63 rfl (fun j hj => by rw [Nat.zero_add]; exact hsome _ (by omega)) (fun j _ => blk_frozen hh _) hvs h1v).mono ?_
    rintro e w' ⟨rfl, rfl⟩
    simp only [Nat.zero_add]
    obtain ⟨r1, r2⟩ := ins_shift (w := w) (k := k) (i := xs.length) hh hs hroom hc hb hbok hi hcell [] (by rw [List.drop_length]; rfl)
    exact ⟨_, rfl, r1, .inl (by simp [Value.ownBlock]), fun q hq hq2 => r2.block q hq (by simpa [Value.ownBlock] using hq2), r2.size, r2.os, r2.tape, r2.output⟩
  ·have hg := grownCap_ge w (xs.length + 1) cap (ρ.t 3)
   have hgl := grownCap_le_maxLen w (xs.length + 1) cap (ρ.t 3) hml
   by_cases hin : i < xs.length
   ·refine (Any2.slices_Insert_int_grow L b 0 xs.length cap i vb 0 1 1 (xs.map (Value.int .i64)) [.int .i64 k] w hin (by omega) hn (by omega) (by omega) hxl rfl hcs hvs h1c h1v).mono ?_
    rintro e w' ⟨rfl, rfl⟩
    rw [h3] at hg hgl ⊢
    generalize grownCap w (xs.length + 1) cap 3 = G at *
    rw [hdrop]
    have hh' := blk_new w (.cells (((xs.map (Value.int .i64)).take i).toArray ++ Builtin.zeroCells (Value.int .i64 0).cells (xs.length + 1 - i) ++ Builtin.zeroCells (Value.int .i64 0).cells (G - (xs.length + 1))) 3 (0, 0))
    refine ⟨_, rfl, ins_fresh (W := (w.alloc _).drew) (base := base) (ok := ok) (k := k) hh' ?_ hg hgl hbase (hok _ (Nat.le_refl _)) hi (fun j hj => ?_), .inr ⟨w.heap.size, by simp [Value.ownBlock], Nat.le_refl _⟩, fun q hq _ => ?_, ?_, ?_, ?_, ?_⟩
    ·rw [Array.size_append, Array.size_append, AppendOwn_size, AppendOwn_size, List.size_toArray, List.length_take, hxl]; omega
    ·rw [show ((w.alloc _).drew.cell? ⟨w.heap.size, j, none⟩) = _ from blk_cell hh' j, Array.append_assoc, app_at _ _ j (by rw [List.length_take, hxl]; omega), List.getElem_take, List.getElem_map, List.getD_eq_getElem?_getD, List.getElem?_eq_getElem (by omega)]
     rfl
    ·rw [sets_far (by omega)]
     show ((w.alloc _).drew.setCells w.heap.size i [.int .i64 k]).heap[q]? = _
     rw [sets_far (by omega)]
     exact Below.heap_alloc w _ q hq
    ·rw [sets_size]
     show _ ≤ ((w.alloc _).drew.setCells w.heap.size i [.int .i64 k]).heap.size
     rw [sets_size]
     exact Nat.le_of_lt (alloc_size w _)
    ·exact (sets_same _ _ _).1.trans (sets_same (b := w.heap.size) [.int .i64 k] i _).1
    ·exact (sets_same _ _ _).2.1.trans (sets_same (b := w.heap.size) [.int .i64 k] i _).2.1
    ·exact (sets_same _ _ _).2.2.trans (sets_same (b := w.heap.size) [.int .i64 k] i _).2.2
   ·obtain rfl : i = xs.length := by omega
    refine (Any2.slices_Insert_int_end_grow L (some ⟨b, 0, none⟩) xs.length cap vb 0 1 1 (xs.map (Value.int .i64)) [.int .i64 k] w (by omega) hn (by omega) (by omega) hxl rfl (fun h => by cases h) (fun a ha j u hj => by
     cases ha
     rw [Addr.add_lit]
     exact hcs j u hj) hvs h1v).mono ?_
    rintro e w' ⟨rfl, rfl⟩
    rw [h3] at hg hgl ⊢
    generalize grownCap w (xs.length + 1) cap 3 = G at *
    have hh' : (w.drew.alloc (.cells ((xs.map (Value.int .i64) ++ [Value.int .i64 k]).toArray ++ Builtin.zeroCells (Value.int .i64 0).cells (G - (xs.length + 1))) 3 (0, 0))).heap[w.heap.size]? = _ := blk_new w.drew _
    refine ⟨_, rfl, row_of_cells hh' hbase (hok _ (Nat.le_refl _)) (ins_length xs _ k hi) hg hgl ?_ (fun j hj => ?_), .inr ⟨w.heap.size, by simp [Value.ownBlock], Nat.le_refl _⟩, fun q hq _ => Below.heap_alloc w.drew _ q hq, Nat.le_of_lt (alloc_size w.drew _), rfl, rfl, rfl⟩
    ·rw [Array.size_append, AppendOwn_size, List.size_toArray, List.length_append, hxl]; show xs.length + 1 + _ = G; omega
    ·have hjl := hj
     rw [ins_length xs _ k hi] at hjl
     rw [blk_cell hh' j, app_at _ _ j (by rw [List.length_append, hxl]; exact hjl), ins_at xs _ k hi j hj]
     by_cases e : j < xs.length
     ·rw [if_pos e, List.getElem_append_left (by rw [hxl]; exact e), List.getElem_map, List.getD_eq_getElem?_getD, List.getElem?_eq_getElem e]
      rfl
     ·obtain rfl : j = xs.length := by omega
      rw [if_neg (Nat.lt_irrefl _), if_pos rfl, List.getElem_append_right (by rw [hxl]; exact Nat.le_refl _)]
      simp
/-- The kids of item i, read; what a call makes of them in their own block or in a new one, stored. -/
theorem S_kids_store {w : World} {base : Nat} {ok : Nat → Prop} {g n cap : Nat} {xs : List S38} (hS : Kd.S k38 38 w base ok (.slice (some ⟨g, 0, none⟩) n cap) xs) (i : Int) (h0 : 0 ≤ i) (h1 : i < n) (hok : ∀ k, w.heap.size ≤ k → ok k) (hg : g < w.heap.size) :
  ∃ (A6 : Option Addr) (c6 : Nat), w.cell? ⟨g, i.toNat * 7 + 6, none⟩ = some (.slice A6 (rd_T38 xs i).f6.length c6) ∧ (∀ j, w.frozen? ⟨g, i.toNat * 7 + j, none⟩ = false) ∧ (rd_T38 xs i).f6.length ≤ c6 ∧
   Kd.R (Kd.int .i64) 3 w base (fun k => (some k = (.slice A6 (rd_T38 xs i).f6.length c6 : Value).ownBlock ∧ ok k ∧ k ≠ g) ∨ w.heap.size ≤ k) (.slice A6 (rd_T38 xs i).f6.length c6) (rd_T38 xs i).f6 ∧
   ∀ (w1 : World) (v1 : Value) (r2 : List Int), Kd.R (Kd.int .i64) 3 w1 base (fun k => (some k = (.slice A6 (rd_T38 xs i).f6.length c6 : Value).ownBlock ∧ ok k ∧ k ≠ g) ∨ w.heap.size ≤ k) v1 r2 → Kept w w1 (fun k => some k = (.slice A6 (rd_T38 xs i).f6.length c6 : Value).ownBlock) →
    Kd.S k38 38 (w1.setCell ⟨g, i.toNat * 7 + 6, none⟩ v1) base ok (.slice (some ⟨g, 0, none⟩) n cap) (xs.set i.toNat (⟨(rd_T38 xs i).f0, (rd_T38 xs i).f1, (rd_T38 xs i).f2, (rd_T38 xs i).f3, (rd_T38 xs i).f4, (rd_T38 xs i).f5, r2⟩ : S38)) ∧ w1.grownBy (w1.setCell ⟨g, i.toNat * 7 + 6, none⟩ v1) (some g) := by
 obtain ⟨oki, c, hcl, hM, hcc, hfr, hoki, hH⟩ := Kd.S_elem hS z38 i h0 h1
 obtain ⟨v3, v6, rfl, g3, g6⟩ := k38_openM hM
 obtain ⟨A6, c6, rfl⟩ := Kd.R_slice g6
 have hle := (Kd.R_reads' g6).2.1
 refine ⟨A6, c6, hcc 6 _ rfl, hfr, hle, Kd.R_mono (Kd.R_tight2 rfl g6) (fun k hk => Or.inl ⟨hk.1, hoki k hk.2⟩), fun w1 v1 r2 hr hk => ?_⟩
 have g3' := other_type (S := fun _ => True) rfl rfl (by decide) g3 g6 (hk.mono (fun k h => ⟨h, trivial⟩))
 have hH1 := Kd.H_step (w1 := w1) (Kd.H_widen hH) (fun k _ hn hlt => hk.2 k hlt (fun hp => hn (Or.inl (g6.1 k hp.symm))))
 obtain ⟨_, hone⟩ := Kd.R_val hr
 obtain ⟨h3, h4⟩ := Kd.H_seg hH1 h0 h1 (seg := [v1]) (j := 6) (by show 6 + 1 ≤ 7; omega) (fun q hq => by rw [List.mem_singleton] at hq; subst hq; exact hone)
 refine ⟨?_, h4⟩
 have G6 := Kd.R_far hr (p := ⟨g, i.toNat * 7 + 6, none⟩) (fun k hk => hk.elim (fun h => h.2.2) (fun h => by show k ≠ g; omega)) v1
 have G3 := Kd.R_far g3' (p := ⟨g, i.toNat * 7 + 6, none⟩) (fun k hk => (hoki k hk).2) v1
 have hM2 := k38_mkM (w1.setCell ⟨g, i.toNat * 7 + 6, none⟩ v1) base (fun k => oki k ∨ ok k ∧ w.heap.size ≤ k) (⟨(rd_T38 xs i).f0, (rd_T38 xs i).f1, (rd_T38 xs i).f2, (rd_T38 xs i).f3, (rd_T38 xs i).f4, (rd_T38 xs i).f5, r2⟩ : S38) (Kd.R_mono G3 (fun k hk => Or.inl hk)) (Kd.R_mono G6 (fun k hk => hk.elim (fun h => Or.inl (g6.1 k h.1.symm)) (fun h => Or.inr ⟨hok k h, h⟩)))
 exact Kd.H_back h3 hM2 (fun k hk => hk)
end Go.Proofs.Ytekkalnafngfeaa.P
