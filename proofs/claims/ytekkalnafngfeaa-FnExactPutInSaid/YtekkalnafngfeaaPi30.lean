-- WRITTEN BY this session's own programs
import Derived.Test.YtekkalnafngfeaaPi24
import Derived.Test.YtekkalnafngfeaaPi33
import Derived.Test.YtekkalnafngfeaaPi28
namespace Go.Proofs.Ytekkalnafngfeaa.P
open Go.RowKit Go.Proofs.YtekkalnafngfeaaW.PrintWords Go.Proofs.YtekkalnafngfeaaW.PrintLast Go.Proofs.YtekkalnafngfeaaW.PrintMore
set_option linter.unusedVariables false
set_option linter.unusedSimpArgs false
set_option maxHeartbeats 8000000
set_option maxRecDepth 100000
attribute [local go_sem] max2_int min2_int max_two min_two max_three min_three max_four min_four
def laws_heldItemS.l0 : Nat → List (S38) → Int → Int → Option (Int)
 | 0, _, _, _ => none
 | k + 1, x0, x1, x5 => if x5 < (x0.length : Int) then (if 0 ≤ x5 then (if ((rd_T38 x0 x5).f0) = x1 then (if ((rd_T38 x0 x5).f1) = (wrap64 (x1 + 1)) then ((laws_markText.f k (wrap64 ((wrap64 (x1 + 1)) + 1))).bind fun t492 => (if ((rd_T38 x0 x5).f2).toList = t492.toList then ((laws_heldAttrS.f k ((rd_T38 x0 x5).f3) (wrap64 ((wrap64 ((wrap64 (x1 + 1)) + 1)) + 1))).bind fun t494 => (if t494 < 0 then (some (-1)) else ((laws_markText.f k t494).bind fun t496 => (if ((rd_T38 x0 x5).f4).toList = t496.toList then (if ((rd_T38 x0 x5).f5) = (wrap64 (t494 + 1)) then ((laws_heldIntS.f k ((rd_T38 x0 x5).f6) (wrap64 ((wrap64 (t494 + 1)) + 1))).bind fun t499 => (if t499 < 0 then (some (-1)) else (laws_heldItemS.l0 k x0 t499 (wrap64 (x5 + 1))))) else (some (-1))) else (some (-1)))))) else (some (-1)))) else (some (-1))) else (some (-1))) else (none)) else (some x1)
def laws_heldItemS.f (k : Nat) (l0 : List (S38)) (a1 : Int) : Option (Int) := laws_heldItemS.l0 k l0 a1 0
def laws_heldItemS.T10 : Bool × List (List Nat × List Nat) := (true, [([], []), ([], []), ([0, 1], [0, 1]), ([2], [2]), ([3], [3]), ([], []), ([5], [5]), ([4, 6], [4, 6])])
def laws_heldItemS.B10 : List Nat := [0, 0, 3, 7, 15, 0, 32, 127]
theorem laws_heldItemS.tab10 : rtab .any (opsOf Try.f34 10) = laws_heldItemS.T10 := by kernel_rfl
theorem laws_heldItemS.bits10 : waitsOk laws_heldItemS.T10.2 laws_heldItemS.B10 = true := by kernel_rfl
def laws_heldItemS.T16 : Bool × List (List Nat × List Nat) := (true, [([], []), ([], []), ([0, 1], [0, 1]), ([2], [2]), ([3], [3]), ([], []), ([5], [5]), ([4, 6], [4, 6])])
def laws_heldItemS.B16 : List Nat := [0, 0, 3, 7, 15, 0, 32, 127]
theorem laws_heldItemS.tab16 : rtab .any (opsOf Try.f34 16) = laws_heldItemS.T16 := by kernel_rfl
theorem laws_heldItemS.bits16 : waitsOk laws_heldItemS.T16.2 laws_heldItemS.B16 = true := by kernel_rfl
theorem laws_heldItemS.calls (k : Nat) (A0 : Option Addr) (c0 : Nat) (l0 : List (S38)) (a1 : Int) (r : Int) (w : World) (hr0 : Kd.C k38 w A0 l0.length l0) (hc0 : l0.length ≤ c0) (h : laws_heldItemS.f k l0 a1 = some r) :
  Calls Try.prog 34 #[.slice A0 l0.length c0, .int .i64 a1] w fun e w' => e = .returned (.int .i64 r) ∧ Below w.heap.size w w' := by
 have HR0 := am hr0
 have HC0 := am hc0
 clear hr0 hc0
 have HB := am (Below.refl w.heap.size w)
 have H : (laws_heldItemS.l0 k l0 a1 0) = some r := h
 clear h
 have H' := am H
 clear H
 go_enter Try.func34, Try.ntmps34
 go_wp2
 go_loopg [1, 5] k (fun kq v1 v5 w' => ∃ (x1_1 : Int) (x5_1 : Int), v1 = .int .i64 x1_1 ∧ v5 = .int .i64 x5_1 ∧ Aside0 (laws_heldItemS.l0 kq l0 x1_1 x5_1 = some r) ∧ Aside0 (kq ≤ k) ∧ Aside0 (Below w.heap.size w w'))
 case atStart => exact ⟨(a1), (0), ab6, ab6, H', ⟨Nat.le_refl _⟩, ⟨ab1⟩⟩
 case round =>
  clear H'
  try clear p2
  obtain ⟨x1_1, x5_1, rfl, rfl, HA, HK1, HB⟩ := hrel
  cases gk with
  | zero => exact absurd HA.out (by simp [laws_heldItemS.l0])
  | succ k1 =>
   have H := HA.out
   clear HA
   simp only [laws_heldItemS.l0] at H
   replace H := ir_ H; rcases H with ⟨c3b0, H⟩ | ⟨c3b0, H⟩
   ·replace H := iq_ H; obtain ⟨c4b0, H⟩ := H
    replace H := ie_ H; rcases H with ⟨c5b0, c5b1, H⟩ | ⟨c5, c5b0, c5b1, H⟩
    ·replace H := ie_ H; rcases H with ⟨c6b0, c6b1, H⟩ | ⟨c6, c6b0, c6b1, H⟩
     ·replace H := bi_ H; obtain ⟨t492, A7, H⟩ := H
      replace H := ie_ H; rcases H with ⟨c8b0, c8b1, H⟩ | ⟨c8, c8b0, c8b1, H⟩
      ·replace H := bi_ H; obtain ⟨t494, A9, H⟩ := H
       replace H := ir_ H; rcases H with ⟨c10b0, H⟩ | ⟨c10b0, H⟩
       ·obtain rfl := Option.some.inj H
        have p489 : 0 ≤ (x5_1 : Int) := of_decide_eq_true ab4
        have q489 : x5_1 < (l0.length : Int) := of_decide_eq_true ab4
        obtain ⟨ad489, A489_3, c489_3, A489_6, c489_6, e489, hx489_0, hx489_1, hx489_2, hx489_3, hx489_4, hx489_5, hx489_6, hl489_3, hi489_3, hl489_6, hi489_6⟩ := at_T38 HR0.out x5_1 p489 q489
        cases e489
        replace hx489_0 := pc_ HB hx489_0
        replace hx489_1 := pc_ HB hx489_1
        replace hx489_2 := pc_ HB hx489_2
        replace hx489_3 := pc_ HB hx489_3
        replace hx489_4 := pc_ HB hx489_4
        replace hx489_5 := pc_ HB hx489_5
        replace hx489_6 := pc_ HB hx489_6
        have HR489_3 := am hi489_3
        have HC489_3 := am hl489_3
        clear hi489_3 hl489_3
        have HR489_6 := am hi489_6
        have HC489_6 := am hl489_6
        clear hi489_6 hl489_6
        replace p489 := eq_true p489
        replace q489 := eq_true q489
        have p490 : 0 ≤ (x5_1 : Int) := of_decide_eq_true ab4
        have q490 : x5_1 < (l0.length : Int) := of_decide_eq_true ab4
        obtain ⟨ad490, A490_3, c490_3, A490_6, c490_6, e490, hx490_0, hx490_1, hx490_2, hx490_3, hx490_4, hx490_5, hx490_6, hl490_3, hi490_3, hl490_6, hi490_6⟩ := at_T38 HR0.out x5_1 p490 q490
        obtain rfl : ad489 = ad490 := (by injection e490)
        replace hx490_0 := pc_ HB hx490_0
        replace hx490_1 := pc_ HB hx490_1
        replace hx490_2 := pc_ HB hx490_2
        replace hx490_3 := pc_ HB hx490_3
        replace hx490_4 := pc_ HB hx490_4
        replace hx490_5 := pc_ HB hx490_5
        replace hx490_6 := pc_ HB hx490_6
        have HR490_3 := am hi490_3
        have HC490_3 := am hl490_3
        clear hi490_3 hl490_3
        have HR490_6 := am hi490_6
        have HC490_6 := am hl490_6
        clear hi490_6 hl490_6
        replace p490 := eq_true p490
        replace q490 := eq_true q490
        have ea_ := Option.some.inj (hx489_3.symm.trans hx490_3)
        injection ea_ with ea_ en_ ec_
        subst ea_
        subst ec_
        clear en_
        have ea_ := Option.some.inj (hx489_6.symm.trans hx490_6)
        injection ea_ with ea_ en_ ec_
        subst ea_
        subst ec_
        clear en_
        try go_wp2
        replace HB := am (below_drew1 HB.out)
        have p491 : 0 ≤ (x5_1 : Int) := of_decide_eq_true ab4
        have q491 : x5_1 < (l0.length : Int) := of_decide_eq_true ab4
        obtain ⟨ad491, A491_3, c491_3, A491_6, c491_6, e491, hx491_0, hx491_1, hx491_2, hx491_3, hx491_4, hx491_5, hx491_6, hl491_3, hi491_3, hl491_6, hi491_6⟩ := at_T38 HR0.out x5_1 p491 q491
        have hw491_6 := hx491_6
        have hw491_5 := hx491_5
        have hw491_4 := hx491_4
        have hw491_3 := hx491_3
        have hw491_2 := hx491_2
        have hw491_1 := hx491_1
        have hw491_0 := hx491_0
        obtain rfl : ad489 = ad491 := (by injection e491)
        replace hx491_0 := pc_ HB hx491_0
        replace hx491_1 := pc_ HB hx491_1
        replace hx491_2 := pc_ HB hx491_2
        replace hx491_3 := pc_ HB hx491_3
        replace hx491_4 := pc_ HB hx491_4
        replace hx491_5 := pc_ HB hx491_5
        replace hx491_6 := pc_ HB hx491_6
        have HR491_3 := am hi491_3
        have HC491_3 := am hl491_3
        clear hi491_3 hl491_3
        have HR491_6 := am hi491_6
        have HC491_6 := am hl491_6
        clear hi491_6 hl491_6
        replace p491 := eq_true p491
        replace q491 := eq_true q491
        refine start_ (n := 8) (S := fun w' => w'.cell? (ad489.add ((x5_1).toNat * 7)) = some (.int .i64 ((rd_T38 l0 x5_1).f0)) ∧ w'.cell? ⟨(ad489.add ((x5_1).toNat * 7)).block, (ad489.add ((x5_1).toNat * 7)).off + 1, none⟩ = some (.int .i64 ((rd_T38 l0 x5_1).f1)) ∧ w'.cell? ⟨(ad489.add ((x5_1).toNat * 7)).block, (ad489.add ((x5_1).toNat * 7)).off + 2, none⟩ = some (.string ((rd_T38 l0 x5_1).f2)) ∧ w'.cell? ⟨(ad489.add ((x5_1).toNat * 7)).block, (ad489.add ((x5_1).toNat * 7)).off + 3, none⟩ = some (.slice A491_3 ((rd_T38 l0 x5_1).f3).length c491_3) ∧ w'.cell? ⟨(ad489.add ((x5_1).toNat * 7)).block, (ad489.add ((x5_1).toNat * 7)).off + 4, none⟩ = some (.string ((rd_T38 l0 x5_1).f4)) ∧ w'.cell? ⟨(ad489.add ((x5_1).toNat * 7)).block, (ad489.add ((x5_1).toNat * 7)).off + 5, none⟩ = some (.int .i64 ((rd_T38 l0 x5_1).f5)) ∧ w'.cell? ⟨(ad489.add ((x5_1).toNat * 7)).block, (ad489.add ((x5_1).toNat * 7)).off + 6, none⟩ = some (.slice A491_6 ((rd_T38 l0 x5_1).f6).length c491_6)) (ds := []) #[false, false, false, false, false, false, false, false] (by kernel_rfl) rfl rfl ⟨(pc_ HB hw491_0 :), (pc_ HB hw491_1 :), (pc_ HB hw491_2 :), (pc_ HB hw491_3 :), (pc_ HB hw491_4 :), (pc_ HB hw491_5 :), (pc_ HB hw491_6 :)⟩ (fun hHeld => ?_); refine with_tabW laws_heldItemS.tab10 laws_heldItemS.bits10 (fun HT_ HW_ => ?_)
        generalize wr.drew = w11 at HB HR491_3 HR491_6 hx491_0 hx491_1 hx491_2 hx491_3 hx491_4 hx491_5 hx491_6 hHeld ⊢
        refine pa_ 0 30 HT_ ?_
        refine pa_ 1 31 HT_ ?_
        refine pa_ 2 32 HT_ ?_
        refine pa_ 3 33 HT_ ?_
        refine pa_ 5 35 HT_ ?_
        refine tk_ 4 34 HT_ HW_ hHeld ?_
        refine on_ 6 36 HT_ fun K hK => ?_
        refine goes_ Try.func56 (by kernel_rfl) rfl #[.int .i64 (wrap64 ((wrap64 (x1_1 + 1)) + 1))] (by rfl) rfl rfl ab5 ?_
        with_reducible refine (laws_markText.calls k1 (wrap64 ((wrap64 (x1_1 + 1)) + 1)) t492 _ A7.out).mono ?_
        rintro e w12 ⟨rfl, hb⟩
        refine ⟨_, rfl, ?_⟩
        replace HB := am (below_step ab1 hb)
        (try clear hb)
        (try clear hb2)
        (try clear hk)
        (try clear hi)
        refine hK.out _ _ ⟨(pc_ HB hw491_0 :), (pc_ HB hw491_1 :), (pc_ HB hw491_2 :), (pc_ HB hw491_3 :), (pc_ HB hw491_4 :), (pc_ HB hw491_5 :), (pc_ HB hw491_6 :)⟩ (fun hHeld => ?_)
        clear hK K
        refine nm_ ?_
        refine pa_ 7 37 HT_ ?_
        refine dn_ HT_ ?_
        (try clear hHeld)
        have p493 : 0 ≤ (x5_1 : Int) := of_decide_eq_true ab4
        have q493 : x5_1 < (l0.length : Int) := of_decide_eq_true ab4
        obtain ⟨ad493, A493_3, c493_3, A493_6, c493_6, e493, hx493_0, hx493_1, hx493_2, hx493_3, hx493_4, hx493_5, hx493_6, hl493_3, hi493_3, hl493_6, hi493_6⟩ := at_T38 HR0.out x5_1 p493 q493
        obtain rfl : ad489 = ad493 := (by injection e493)
        replace hx493_0 := pc_ HB hx493_0
        replace hx493_1 := pc_ HB hx493_1
        replace hx493_2 := pc_ HB hx493_2
        replace hx493_3 := pc_ HB hx493_3
        replace hx493_4 := pc_ HB hx493_4
        replace hx493_5 := pc_ HB hx493_5
        replace hx493_6 := pc_ HB hx493_6
        have HR493_3 := am hi493_3
        have HC493_3 := am hl493_3
        clear hi493_3 hl493_3
        have HR493_6 := am hi493_6
        have HC493_6 := am hl493_6
        clear hi493_6 hl493_6
        replace p493 := eq_true p493
        replace q493 := eq_true q493
        try go_wp2_with (first | ((with_reducible refine gf_ 57 ?_); refine gc_ Try.func57 (laws_heldAttrS.calls k1 _ _ ((rd_T38 l0 x5_1).f3) (wrap64 ((wrap64 ((wrap64 (x1_1 + 1)) + 1)) + 1)) t494 _ (sc_ HR493_3) HC493_3.out A9.out) ?_; rintro w13 hb; replace HB := am (below_step ab1 hb); (try clear hb); (try clear hb2); (try clear hk); (try clear hi)))
        go_ret
        exact ⟨ab7, ab1⟩
       ·replace H := bi_ H; obtain ⟨t496, A14, H⟩ := H
        replace H := ie_ H; rcases H with ⟨c15b0, c15b1, H⟩ | ⟨c15, c15b0, c15b1, H⟩
        ·replace H := ie_ H; rcases H with ⟨c16b0, c16b1, H⟩ | ⟨c16, c16b0, c16b1, H⟩
         ·replace H := bi_ H; obtain ⟨t499, A17, H⟩ := H
          replace H := ir_ H; rcases H with ⟨c18b0, H⟩ | ⟨c18b0, H⟩
          ·obtain rfl := Option.some.inj H
           have p489 : 0 ≤ (x5_1 : Int) := of_decide_eq_true ab4
           have q489 : x5_1 < (l0.length : Int) := of_decide_eq_true ab4
           obtain ⟨ad489, A489_3, c489_3, A489_6, c489_6, e489, hx489_0, hx489_1, hx489_2, hx489_3, hx489_4, hx489_5, hx489_6, hl489_3, hi489_3, hl489_6, hi489_6⟩ := at_T38 HR0.out x5_1 p489 q489
           cases e489
           replace hx489_0 := pc_ HB hx489_0
           replace hx489_1 := pc_ HB hx489_1
           replace hx489_2 := pc_ HB hx489_2
           replace hx489_3 := pc_ HB hx489_3
           replace hx489_4 := pc_ HB hx489_4
           replace hx489_5 := pc_ HB hx489_5
           replace hx489_6 := pc_ HB hx489_6
           have HR489_3 := am hi489_3
           have HC489_3 := am hl489_3
           clear hi489_3 hl489_3
           have HR489_6 := am hi489_6
           have HC489_6 := am hl489_6
           clear hi489_6 hl489_6
           replace p489 := eq_true p489
           replace q489 := eq_true q489
           have p490 : 0 ≤ (x5_1 : Int) := of_decide_eq_true ab4
           have q490 : x5_1 < (l0.length : Int) := of_decide_eq_true ab4
           obtain ⟨ad490, A490_3, c490_3, A490_6, c490_6, e490, hx490_0, hx490_1, hx490_2, hx490_3, hx490_4, hx490_5, hx490_6, hl490_3, hi490_3, hl490_6, hi490_6⟩ := at_T38 HR0.out x5_1 p490 q490
           obtain rfl : ad489 = ad490 := (by injection e490)
           replace hx490_0 := pc_ HB hx490_0
           replace hx490_1 := pc_ HB hx490_1
           replace hx490_2 := pc_ HB hx490_2
           replace hx490_3 := pc_ HB hx490_3
           replace hx490_4 := pc_ HB hx490_4
           replace hx490_5 := pc_ HB hx490_5
           replace hx490_6 := pc_ HB hx490_6
           have HR490_3 := am hi490_3
           have HC490_3 := am hl490_3
           clear hi490_3 hl490_3
           have HR490_6 := am hi490_6
           have HC490_6 := am hl490_6
           clear hi490_6 hl490_6
           replace p490 := eq_true p490
           replace q490 := eq_true q490
           have ea_ := Option.some.inj (hx489_3.symm.trans hx490_3)
           injection ea_ with ea_ en_ ec_
           subst ea_
           subst ec_
           clear en_
           have ea_ := Option.some.inj (hx489_6.symm.trans hx490_6)
           injection ea_ with ea_ en_ ec_
           subst ea_
           subst ec_
           clear en_
           try go_wp2
           replace HB := am (below_drew1 HB.out)
           have p491 : 0 ≤ (x5_1 : Int) := of_decide_eq_true ab4
           have q491 : x5_1 < (l0.length : Int) := of_decide_eq_true ab4
           obtain ⟨ad491, A491_3, c491_3, A491_6, c491_6, e491, hx491_0, hx491_1, hx491_2, hx491_3, hx491_4, hx491_5, hx491_6, hl491_3, hi491_3, hl491_6, hi491_6⟩ := at_T38 HR0.out x5_1 p491 q491
           have hw491_6 := hx491_6
           have hw491_5 := hx491_5
           have hw491_4 := hx491_4
           have hw491_3 := hx491_3
           have hw491_2 := hx491_2
           have hw491_1 := hx491_1
           have hw491_0 := hx491_0
           obtain rfl : ad489 = ad491 := (by injection e491)
           replace hx491_0 := pc_ HB hx491_0
           replace hx491_1 := pc_ HB hx491_1
           replace hx491_2 := pc_ HB hx491_2
           replace hx491_3 := pc_ HB hx491_3
           replace hx491_4 := pc_ HB hx491_4
           replace hx491_5 := pc_ HB hx491_5
           replace hx491_6 := pc_ HB hx491_6
           have HR491_3 := am hi491_3
           have HC491_3 := am hl491_3
           clear hi491_3 hl491_3
           have HR491_6 := am hi491_6
           have HC491_6 := am hl491_6
           clear hi491_6 hl491_6
           replace p491 := eq_true p491
           replace q491 := eq_true q491
           refine start_ (n := 8) (S := fun w' => w'.cell? (ad489.add ((x5_1).toNat * 7)) = some (.int .i64 ((rd_T38 l0 x5_1).f0)) ∧ w'.cell? ⟨(ad489.add ((x5_1).toNat * 7)).block, (ad489.add ((x5_1).toNat * 7)).off + 1, none⟩ = some (.int .i64 ((rd_T38 l0 x5_1).f1)) ∧ w'.cell? ⟨(ad489.add ((x5_1).toNat * 7)).block, (ad489.add ((x5_1).toNat * 7)).off + 2, none⟩ = some (.string ((rd_T38 l0 x5_1).f2)) ∧ w'.cell? ⟨(ad489.add ((x5_1).toNat * 7)).block, (ad489.add ((x5_1).toNat * 7)).off + 3, none⟩ = some (.slice A491_3 ((rd_T38 l0 x5_1).f3).length c491_3) ∧ w'.cell? ⟨(ad489.add ((x5_1).toNat * 7)).block, (ad489.add ((x5_1).toNat * 7)).off + 4, none⟩ = some (.string ((rd_T38 l0 x5_1).f4)) ∧ w'.cell? ⟨(ad489.add ((x5_1).toNat * 7)).block, (ad489.add ((x5_1).toNat * 7)).off + 5, none⟩ = some (.int .i64 ((rd_T38 l0 x5_1).f5)) ∧ w'.cell? ⟨(ad489.add ((x5_1).toNat * 7)).block, (ad489.add ((x5_1).toNat * 7)).off + 6, none⟩ = some (.slice A491_6 ((rd_T38 l0 x5_1).f6).length c491_6)) (ds := []) #[false, false, false, false, false, false, false, false] (by kernel_rfl) rfl rfl ⟨(pc_ HB hw491_0 :), (pc_ HB hw491_1 :), (pc_ HB hw491_2 :), (pc_ HB hw491_3 :), (pc_ HB hw491_4 :), (pc_ HB hw491_5 :), (pc_ HB hw491_6 :)⟩ (fun hHeld => ?_); refine with_tabW laws_heldItemS.tab10 laws_heldItemS.bits10 (fun HT_ HW_ => ?_)
           generalize wr.drew = w19 at HB HR491_3 HR491_6 hx491_0 hx491_1 hx491_2 hx491_3 hx491_4 hx491_5 hx491_6 hHeld ⊢
           refine pa_ 0 30 HT_ ?_
           refine pa_ 1 31 HT_ ?_
           refine pa_ 2 32 HT_ ?_
           refine pa_ 3 33 HT_ ?_
           refine pa_ 5 35 HT_ ?_
           refine tk_ 4 34 HT_ HW_ hHeld ?_
           refine on_ 6 36 HT_ fun K hK => ?_
           refine goes_ Try.func56 (by kernel_rfl) rfl #[.int .i64 (wrap64 ((wrap64 (x1_1 + 1)) + 1))] (by rfl) rfl rfl ab5 ?_
           with_reducible refine (laws_markText.calls k1 (wrap64 ((wrap64 (x1_1 + 1)) + 1)) t492 _ A7.out).mono ?_
           rintro e w20 ⟨rfl, hb⟩
           refine ⟨_, rfl, ?_⟩
           replace HB := am (below_step ab1 hb)
           (try clear hb)
           (try clear hb2)
           (try clear hk)
           (try clear hi)
           refine hK.out _ _ ⟨(pc_ HB hw491_0 :), (pc_ HB hw491_1 :), (pc_ HB hw491_2 :), (pc_ HB hw491_3 :), (pc_ HB hw491_4 :), (pc_ HB hw491_5 :), (pc_ HB hw491_6 :)⟩ (fun hHeld => ?_)
           clear hK K
           refine nm_ ?_
           refine pa_ 7 37 HT_ ?_
           refine dn_ HT_ ?_
           (try clear hHeld)
           have p493 : 0 ≤ (x5_1 : Int) := of_decide_eq_true ab4
           have q493 : x5_1 < (l0.length : Int) := of_decide_eq_true ab4
           obtain ⟨ad493, A493_3, c493_3, A493_6, c493_6, e493, hx493_0, hx493_1, hx493_2, hx493_3, hx493_4, hx493_5, hx493_6, hl493_3, hi493_3, hl493_6, hi493_6⟩ := at_T38 HR0.out x5_1 p493 q493
           obtain rfl : ad489 = ad493 := (by injection e493)
           replace hx493_0 := pc_ HB hx493_0
           replace hx493_1 := pc_ HB hx493_1
           replace hx493_2 := pc_ HB hx493_2
           replace hx493_3 := pc_ HB hx493_3
           replace hx493_4 := pc_ HB hx493_4
           replace hx493_5 := pc_ HB hx493_5
           replace hx493_6 := pc_ HB hx493_6
           have HR493_3 := am hi493_3
           have HC493_3 := am hl493_3
           clear hi493_3 hl493_3
           have HR493_6 := am hi493_6
           have HC493_6 := am hl493_6
           clear hi493_6 hl493_6
           replace p493 := eq_true p493
           replace q493 := eq_true q493
           try go_wp2_with (first | ((with_reducible refine gf_ 57 ?_); refine gc_ Try.func57 (laws_heldAttrS.calls k1 _ _ ((rd_T38 l0 x5_1).f3) (wrap64 ((wrap64 ((wrap64 (x1_1 + 1)) + 1)) + 1)) t494 _ (sc_ HR493_3) HC493_3.out A9.out) ?_; rintro w21 hb; replace HB := am (below_step ab1 hb); (try clear hb); (try clear hb2); (try clear hk); (try clear hi)))
           replace HB := am (below_drew1 HB.out)
           have p495 : 0 ≤ (x5_1 : Int) := of_decide_eq_true ab4
           have q495 : x5_1 < (l0.length : Int) := of_decide_eq_true ab4
           obtain ⟨ad495, A495_3, c495_3, A495_6, c495_6, e495, hx495_0, hx495_1, hx495_2, hx495_3, hx495_4, hx495_5, hx495_6, hl495_3, hi495_3, hl495_6, hi495_6⟩ := at_T38 HR0.out x5_1 p495 q495
           have hw495_6 := hx495_6
           have hw495_5 := hx495_5
           have hw495_4 := hx495_4
           have hw495_3 := hx495_3
           have hw495_2 := hx495_2
           have hw495_1 := hx495_1
           have hw495_0 := hx495_0
           obtain rfl : ad489 = ad495 := (by injection e495)
           replace hx495_0 := pc_ HB hx495_0
           replace hx495_1 := pc_ HB hx495_1
           replace hx495_2 := pc_ HB hx495_2
           replace hx495_3 := pc_ HB hx495_3
           replace hx495_4 := pc_ HB hx495_4
           replace hx495_5 := pc_ HB hx495_5
           replace hx495_6 := pc_ HB hx495_6
           have HR495_3 := am hi495_3
           have HC495_3 := am hl495_3
           clear hi495_3 hl495_3
           have HR495_6 := am hi495_6
           have HC495_6 := am hl495_6
           clear hi495_6 hl495_6
           replace p495 := eq_true p495
           replace q495 := eq_true q495
           refine start_ (n := 8) (S := fun w' => w'.cell? (ad489.add ((x5_1).toNat * 7)) = some (.int .i64 ((rd_T38 l0 x5_1).f0)) ∧ w'.cell? ⟨(ad489.add ((x5_1).toNat * 7)).block, (ad489.add ((x5_1).toNat * 7)).off + 1, none⟩ = some (.int .i64 ((rd_T38 l0 x5_1).f1)) ∧ w'.cell? ⟨(ad489.add ((x5_1).toNat * 7)).block, (ad489.add ((x5_1).toNat * 7)).off + 2, none⟩ = some (.string ((rd_T38 l0 x5_1).f2)) ∧ w'.cell? ⟨(ad489.add ((x5_1).toNat * 7)).block, (ad489.add ((x5_1).toNat * 7)).off + 3, none⟩ = some (.slice A495_3 ((rd_T38 l0 x5_1).f3).length c495_3) ∧ w'.cell? ⟨(ad489.add ((x5_1).toNat * 7)).block, (ad489.add ((x5_1).toNat * 7)).off + 4, none⟩ = some (.string ((rd_T38 l0 x5_1).f4)) ∧ w'.cell? ⟨(ad489.add ((x5_1).toNat * 7)).block, (ad489.add ((x5_1).toNat * 7)).off + 5, none⟩ = some (.int .i64 ((rd_T38 l0 x5_1).f5)) ∧ w'.cell? ⟨(ad489.add ((x5_1).toNat * 7)).block, (ad489.add ((x5_1).toNat * 7)).off + 6, none⟩ = some (.slice A495_6 ((rd_T38 l0 x5_1).f6).length c495_6)) (ds := []) #[false, false, false, false, false, false, false, false] (by kernel_rfl) rfl rfl ⟨(pc_ HB hw495_0 :), (pc_ HB hw495_1 :), (pc_ HB hw495_2 :), (pc_ HB hw495_3 :), (pc_ HB hw495_4 :), (pc_ HB hw495_5 :), (pc_ HB hw495_6 :)⟩ (fun hHeld => ?_); refine with_tabW laws_heldItemS.tab16 laws_heldItemS.bits16 (fun HT_ HW_ => ?_)
           generalize w21.drew = w22 at HB HR495_3 HR495_6 hx495_0 hx495_1 hx495_2 hx495_3 hx495_4 hx495_5 hx495_6 hHeld ⊢
           refine pa_ 0 49 HT_ ?_
           refine pa_ 1 50 HT_ ?_
           refine pa_ 2 51 HT_ ?_
           refine pa_ 3 52 HT_ ?_
           refine pa_ 5 54 HT_ ?_
           refine tk_ 4 53 HT_ HW_ hHeld ?_
           refine on_ 6 55 HT_ fun K hK => ?_
           refine goes_ Try.func56 (by kernel_rfl) rfl #[.int .i64 t494] (by rfl) rfl rfl ab5 ?_
           with_reducible refine (laws_markText.calls k1 t494 t496 _ A14.out).mono ?_
           rintro e w23 ⟨rfl, hb⟩
           refine ⟨_, rfl, ?_⟩
           replace HB := am (below_step ab1 hb)
           (try clear hb)
           (try clear hb2)
           (try clear hk)
           (try clear hi)
           refine hK.out _ _ ⟨(pc_ HB hw495_0 :), (pc_ HB hw495_1 :), (pc_ HB hw495_2 :), (pc_ HB hw495_3 :), (pc_ HB hw495_4 :), (pc_ HB hw495_5 :), (pc_ HB hw495_6 :)⟩ (fun hHeld => ?_)
           clear hK K
           refine nm_ ?_
           refine pa_ 7 56 HT_ ?_
           refine dn_ HT_ ?_
           (try clear hHeld)
           have p497 : 0 ≤ (x5_1 : Int) := of_decide_eq_true ab4
           have q497 : x5_1 < (l0.length : Int) := of_decide_eq_true ab4
           obtain ⟨ad497, A497_3, c497_3, A497_6, c497_6, e497, hx497_0, hx497_1, hx497_2, hx497_3, hx497_4, hx497_5, hx497_6, hl497_3, hi497_3, hl497_6, hi497_6⟩ := at_T38 HR0.out x5_1 p497 q497
           obtain rfl : ad489 = ad497 := (by injection e497)
           replace hx497_0 := pc_ HB hx497_0
           replace hx497_1 := pc_ HB hx497_1
           replace hx497_2 := pc_ HB hx497_2
           replace hx497_3 := pc_ HB hx497_3
           replace hx497_4 := pc_ HB hx497_4
           replace hx497_5 := pc_ HB hx497_5
           replace hx497_6 := pc_ HB hx497_6
           have HR497_3 := am hi497_3
           have HC497_3 := am hl497_3
           clear hi497_3 hl497_3
           have HR497_6 := am hi497_6
           have HC497_6 := am hl497_6
           clear hi497_6 hl497_6
           replace p497 := eq_true p497
           replace q497 := eq_true q497
           have p498 : 0 ≤ (x5_1 : Int) := of_decide_eq_true ab4
           have q498 : x5_1 < (l0.length : Int) := of_decide_eq_true ab4
           obtain ⟨ad498, A498_3, c498_3, A498_6, c498_6, e498, hx498_0, hx498_1, hx498_2, hx498_3, hx498_4, hx498_5, hx498_6, hl498_3, hi498_3, hl498_6, hi498_6⟩ := at_T38 HR0.out x5_1 p498 q498
           obtain rfl : ad489 = ad498 := (by injection e498)
           replace hx498_0 := pc_ HB hx498_0
           replace hx498_1 := pc_ HB hx498_1
           replace hx498_2 := pc_ HB hx498_2
           replace hx498_3 := pc_ HB hx498_3
           replace hx498_4 := pc_ HB hx498_4
           replace hx498_5 := pc_ HB hx498_5
           replace hx498_6 := pc_ HB hx498_6
           have HR498_3 := am hi498_3
           have HC498_3 := am hl498_3
           clear hi498_3 hl498_3
           have HR498_6 := am hi498_6
           have HC498_6 := am hl498_6
           clear hi498_6 hl498_6
           replace p498 := eq_true p498
           replace q498 := eq_true q498
           have ea_ := Option.some.inj (hx497_3.symm.trans hx498_3)
           injection ea_ with ea_ en_ ec_
           subst ea_
           subst ec_
           clear en_
           have ea_ := Option.some.inj (hx497_6.symm.trans hx498_6)
           injection ea_ with ea_ en_ ec_
           subst ea_
           subst ec_
           clear en_
           try go_wp2_with (first | ((with_reducible refine gf_ 35 ?_); refine gc_ Try.func35 (laws_heldIntS.calls k1 _ _ ((rd_T38 l0 x5_1).f6) (wrap64 ((wrap64 (t494 + 1)) + 1)) t499 _ (sc_ HR498_6) HC498_6.out A17.out) ?_; rintro w' ⟨nd, rfl⟩))
           go_ret
           exact ⟨ab7, ab1⟩
          ·have H' := am H
           clear H
           have p489 : 0 ≤ (x5_1 : Int) := of_decide_eq_true ab4
           have q489 : x5_1 < (l0.length : Int) := of_decide_eq_true ab4
           obtain ⟨ad489, A489_3, c489_3, A489_6, c489_6, e489, hx489_0, hx489_1, hx489_2, hx489_3, hx489_4, hx489_5, hx489_6, hl489_3, hi489_3, hl489_6, hi489_6⟩ := at_T38 HR0.out x5_1 p489 q489
           cases e489
           replace hx489_0 := pc_ HB hx489_0
           replace hx489_1 := pc_ HB hx489_1
           replace hx489_2 := pc_ HB hx489_2
           replace hx489_3 := pc_ HB hx489_3
           replace hx489_4 := pc_ HB hx489_4
           replace hx489_5 := pc_ HB hx489_5
           replace hx489_6 := pc_ HB hx489_6
           have HR489_3 := am hi489_3
           have HC489_3 := am hl489_3
           clear hi489_3 hl489_3
           have HR489_6 := am hi489_6
           have HC489_6 := am hl489_6
           clear hi489_6 hl489_6
           replace p489 := eq_true p489
           replace q489 := eq_true q489
           have p490 : 0 ≤ (x5_1 : Int) := of_decide_eq_true ab4
           have q490 : x5_1 < (l0.length : Int) := of_decide_eq_true ab4
           obtain ⟨ad490, A490_3, c490_3, A490_6, c490_6, e490, hx490_0, hx490_1, hx490_2, hx490_3, hx490_4, hx490_5, hx490_6, hl490_3, hi490_3, hl490_6, hi490_6⟩ := at_T38 HR0.out x5_1 p490 q490
           obtain rfl : ad489 = ad490 := (by injection e490)
           replace hx490_0 := pc_ HB hx490_0
           replace hx490_1 := pc_ HB hx490_1
           replace hx490_2 := pc_ HB hx490_2
           replace hx490_3 := pc_ HB hx490_3
           replace hx490_4 := pc_ HB hx490_4
           replace hx490_5 := pc_ HB hx490_5
           replace hx490_6 := pc_ HB hx490_6
           have HR490_3 := am hi490_3
           have HC490_3 := am hl490_3
           clear hi490_3 hl490_3
           have HR490_6 := am hi490_6
           have HC490_6 := am hl490_6
           clear hi490_6 hl490_6
           replace p490 := eq_true p490
           replace q490 := eq_true q490
           have ea_ := Option.some.inj (hx489_3.symm.trans hx490_3)
           injection ea_ with ea_ en_ ec_
           subst ea_
           subst ec_
           clear en_
           have ea_ := Option.some.inj (hx489_6.symm.trans hx490_6)
           injection ea_ with ea_ en_ ec_
           subst ea_
           subst ec_
           clear en_
           try go_wp2
           replace HB := am (below_drew1 HB.out)
           have p491 : 0 ≤ (x5_1 : Int) := of_decide_eq_true ab4
           have q491 : x5_1 < (l0.length : Int) := of_decide_eq_true ab4
           obtain ⟨ad491, A491_3, c491_3, A491_6, c491_6, e491, hx491_0, hx491_1, hx491_2, hx491_3, hx491_4, hx491_5, hx491_6, hl491_3, hi491_3, hl491_6, hi491_6⟩ := at_T38 HR0.out x5_1 p491 q491
           have hw491_6 := hx491_6
           have hw491_5 := hx491_5
           have hw491_4 := hx491_4
           have hw491_3 := hx491_3
           have hw491_2 := hx491_2
           have hw491_1 := hx491_1
           have hw491_0 := hx491_0
           obtain rfl : ad489 = ad491 := (by injection e491)
           replace hx491_0 := pc_ HB hx491_0
           replace hx491_1 := pc_ HB hx491_1
           replace hx491_2 := pc_ HB hx491_2
           replace hx491_3 := pc_ HB hx491_3
           replace hx491_4 := pc_ HB hx491_4
           replace hx491_5 := pc_ HB hx491_5
           replace hx491_6 := pc_ HB hx491_6
           have HR491_3 := am hi491_3
           have HC491_3 := am hl491_3
           clear hi491_3 hl491_3
           have HR491_6 := am hi491_6
           have HC491_6 := am hl491_6
           clear hi491_6 hl491_6
           replace p491 := eq_true p491
           replace q491 := eq_true q491
           refine start_ (n := 8) (S := fun w' => w'.cell? (ad489.add ((x5_1).toNat * 7)) = some (.int .i64 ((rd_T38 l0 x5_1).f0)) ∧ w'.cell? ⟨(ad489.add ((x5_1).toNat * 7)).block, (ad489.add ((x5_1).toNat * 7)).off + 1, none⟩ = some (.int .i64 ((rd_T38 l0 x5_1).f1)) ∧ w'.cell? ⟨(ad489.add ((x5_1).toNat * 7)).block, (ad489.add ((x5_1).toNat * 7)).off + 2, none⟩ = some (.string ((rd_T38 l0 x5_1).f2)) ∧ w'.cell? ⟨(ad489.add ((x5_1).toNat * 7)).block, (ad489.add ((x5_1).toNat * 7)).off + 3, none⟩ = some (.slice A491_3 ((rd_T38 l0 x5_1).f3).length c491_3) ∧ w'.cell? ⟨(ad489.add ((x5_1).toNat * 7)).block, (ad489.add ((x5_1).toNat * 7)).off + 4, none⟩ = some (.string ((rd_T38 l0 x5_1).f4)) ∧ w'.cell? ⟨(ad489.add ((x5_1).toNat * 7)).block, (ad489.add ((x5_1).toNat * 7)).off + 5, none⟩ = some (.int .i64 ((rd_T38 l0 x5_1).f5)) ∧ w'.cell? ⟨(ad489.add ((x5_1).toNat * 7)).block, (ad489.add ((x5_1).toNat * 7)).off + 6, none⟩ = some (.slice A491_6 ((rd_T38 l0 x5_1).f6).length c491_6)) (ds := []) #[false, false, false, false, false, false, false, false] (by kernel_rfl) rfl rfl ⟨(pc_ HB hw491_0 :), (pc_ HB hw491_1 :), (pc_ HB hw491_2 :), (pc_ HB hw491_3 :), (pc_ HB hw491_4 :), (pc_ HB hw491_5 :), (pc_ HB hw491_6 :)⟩ (fun hHeld => ?_); refine with_tabW laws_heldItemS.tab10 laws_heldItemS.bits10 (fun HT_ HW_ => ?_)
           generalize wr.drew = w24 at HB HR491_3 HR491_6 hx491_0 hx491_1 hx491_2 hx491_3 hx491_4 hx491_5 hx491_6 hHeld ⊢
           refine pa_ 0 30 HT_ ?_
           refine pa_ 1 31 HT_ ?_
           refine pa_ 2 32 HT_ ?_
           refine pa_ 3 33 HT_ ?_
           refine pa_ 5 35 HT_ ?_
           refine tk_ 4 34 HT_ HW_ hHeld ?_
           refine on_ 6 36 HT_ fun K hK => ?_
           refine goes_ Try.func56 (by kernel_rfl) rfl #[.int .i64 (wrap64 ((wrap64 (x1_1 + 1)) + 1))] (by rfl) rfl rfl ab5 ?_
           with_reducible refine (laws_markText.calls k1 (wrap64 ((wrap64 (x1_1 + 1)) + 1)) t492 _ A7.out).mono ?_
           rintro e w25 ⟨rfl, hb⟩
           refine ⟨_, rfl, ?_⟩
           replace HB := am (below_step ab1 hb)
           (try clear hb)
           (try clear hb2)
           (try clear hk)
           (try clear hi)
           refine hK.out _ _ ⟨(pc_ HB hw491_0 :), (pc_ HB hw491_1 :), (pc_ HB hw491_2 :), (pc_ HB hw491_3 :), (pc_ HB hw491_4 :), (pc_ HB hw491_5 :), (pc_ HB hw491_6 :)⟩ (fun hHeld => ?_)
           clear hK K
           refine nm_ ?_
           refine pa_ 7 37 HT_ ?_
           refine dn_ HT_ ?_
           (try clear hHeld)
           have p493 : 0 ≤ (x5_1 : Int) := of_decide_eq_true ab4
           have q493 : x5_1 < (l0.length : Int) := of_decide_eq_true ab4
           obtain ⟨ad493, A493_3, c493_3, A493_6, c493_6, e493, hx493_0, hx493_1, hx493_2, hx493_3, hx493_4, hx493_5, hx493_6, hl493_3, hi493_3, hl493_6, hi493_6⟩ := at_T38 HR0.out x5_1 p493 q493
           obtain rfl : ad489 = ad493 := (by injection e493)
           replace hx493_0 := pc_ HB hx493_0
           replace hx493_1 := pc_ HB hx493_1
           replace hx493_2 := pc_ HB hx493_2
           replace hx493_3 := pc_ HB hx493_3
           replace hx493_4 := pc_ HB hx493_4
           replace hx493_5 := pc_ HB hx493_5
           replace hx493_6 := pc_ HB hx493_6
           have HR493_3 := am hi493_3
           have HC493_3 := am hl493_3
           clear hi493_3 hl493_3
           have HR493_6 := am hi493_6
           have HC493_6 := am hl493_6
           clear hi493_6 hl493_6
           replace p493 := eq_true p493
           replace q493 := eq_true q493
           try go_wp2_with (first | ((with_reducible refine gf_ 57 ?_); refine gc_ Try.func57 (laws_heldAttrS.calls k1 _ _ ((rd_T38 l0 x5_1).f3) (wrap64 ((wrap64 ((wrap64 (x1_1 + 1)) + 1)) + 1)) t494 _ (sc_ HR493_3) HC493_3.out A9.out) ?_; rintro w26 hb; replace HB := am (below_step ab1 hb); (try clear hb); (try clear hb2); (try clear hk); (try clear hi)))
           replace HB := am (below_drew1 HB.out)
           have p495 : 0 ≤ (x5_1 : Int) := of_decide_eq_true ab4
           have q495 : x5_1 < (l0.length : Int) := of_decide_eq_true ab4
           obtain ⟨ad495, A495_3, c495_3, A495_6, c495_6, e495, hx495_0, hx495_1, hx495_2, hx495_3, hx495_4, hx495_5, hx495_6, hl495_3, hi495_3, hl495_6, hi495_6⟩ := at_T38 HR0.out x5_1 p495 q495
           have hw495_6 := hx495_6
           have hw495_5 := hx495_5
           have hw495_4 := hx495_4
           have hw495_3 := hx495_3
           have hw495_2 := hx495_2
           have hw495_1 := hx495_1
           have hw495_0 := hx495_0
           obtain rfl : ad489 = ad495 := (by injection e495)
           replace hx495_0 := pc_ HB hx495_0
           replace hx495_1 := pc_ HB hx495_1
           replace hx495_2 := pc_ HB hx495_2
           replace hx495_3 := pc_ HB hx495_3
           replace hx495_4 := pc_ HB hx495_4
           replace hx495_5 := pc_ HB hx495_5
           replace hx495_6 := pc_ HB hx495_6
           have HR495_3 := am hi495_3
           have HC495_3 := am hl495_3
           clear hi495_3 hl495_3
           have HR495_6 := am hi495_6
           have HC495_6 := am hl495_6
           clear hi495_6 hl495_6
           replace p495 := eq_true p495
           replace q495 := eq_true q495
           refine start_ (n := 8) (S := fun w' => w'.cell? (ad489.add ((x5_1).toNat * 7)) = some (.int .i64 ((rd_T38 l0 x5_1).f0)) ∧ w'.cell? ⟨(ad489.add ((x5_1).toNat * 7)).block, (ad489.add ((x5_1).toNat * 7)).off + 1, none⟩ = some (.int .i64 ((rd_T38 l0 x5_1).f1)) ∧ w'.cell? ⟨(ad489.add ((x5_1).toNat * 7)).block, (ad489.add ((x5_1).toNat * 7)).off + 2, none⟩ = some (.string ((rd_T38 l0 x5_1).f2)) ∧ w'.cell? ⟨(ad489.add ((x5_1).toNat * 7)).block, (ad489.add ((x5_1).toNat * 7)).off + 3, none⟩ = some (.slice A495_3 ((rd_T38 l0 x5_1).f3).length c495_3) ∧ w'.cell? ⟨(ad489.add ((x5_1).toNat * 7)).block, (ad489.add ((x5_1).toNat * 7)).off + 4, none⟩ = some (.string ((rd_T38 l0 x5_1).f4)) ∧ w'.cell? ⟨(ad489.add ((x5_1).toNat * 7)).block, (ad489.add ((x5_1).toNat * 7)).off + 5, none⟩ = some (.int .i64 ((rd_T38 l0 x5_1).f5)) ∧ w'.cell? ⟨(ad489.add ((x5_1).toNat * 7)).block, (ad489.add ((x5_1).toNat * 7)).off + 6, none⟩ = some (.slice A495_6 ((rd_T38 l0 x5_1).f6).length c495_6)) (ds := []) #[false, false, false, false, false, false, false, false] (by kernel_rfl) rfl rfl ⟨(pc_ HB hw495_0 :), (pc_ HB hw495_1 :), (pc_ HB hw495_2 :), (pc_ HB hw495_3 :), (pc_ HB hw495_4 :), (pc_ HB hw495_5 :), (pc_ HB hw495_6 :)⟩ (fun hHeld => ?_); refine with_tabW laws_heldItemS.tab16 laws_heldItemS.bits16 (fun HT_ HW_ => ?_)
           generalize w26.drew = w27 at HB HR495_3 HR495_6 hx495_0 hx495_1 hx495_2 hx495_3 hx495_4 hx495_5 hx495_6 hHeld ⊢
           refine pa_ 0 49 HT_ ?_
           refine pa_ 1 50 HT_ ?_
           refine pa_ 2 51 HT_ ?_
           refine pa_ 3 52 HT_ ?_
           refine pa_ 5 54 HT_ ?_
           refine tk_ 4 53 HT_ HW_ hHeld ?_
           refine on_ 6 55 HT_ fun K hK => ?_
           refine goes_ Try.func56 (by kernel_rfl) rfl #[.int .i64 t494] (by rfl) rfl rfl ab5 ?_
           with_reducible refine (laws_markText.calls k1 t494 t496 _ A14.out).mono ?_
           rintro e w28 ⟨rfl, hb⟩
           refine ⟨_, rfl, ?_⟩
           replace HB := am (below_step ab1 hb)
           (try clear hb)
           (try clear hb2)
           (try clear hk)
           (try clear hi)
           refine hK.out _ _ ⟨(pc_ HB hw495_0 :), (pc_ HB hw495_1 :), (pc_ HB hw495_2 :), (pc_ HB hw495_3 :), (pc_ HB hw495_4 :), (pc_ HB hw495_5 :), (pc_ HB hw495_6 :)⟩ (fun hHeld => ?_)
           clear hK K
           refine nm_ ?_
           refine pa_ 7 56 HT_ ?_
           refine dn_ HT_ ?_
           (try clear hHeld)
           have p497 : 0 ≤ (x5_1 : Int) := of_decide_eq_true ab4
           have q497 : x5_1 < (l0.length : Int) := of_decide_eq_true ab4
           obtain ⟨ad497, A497_3, c497_3, A497_6, c497_6, e497, hx497_0, hx497_1, hx497_2, hx497_3, hx497_4, hx497_5, hx497_6, hl497_3, hi497_3, hl497_6, hi497_6⟩ := at_T38 HR0.out x5_1 p497 q497
           obtain rfl : ad489 = ad497 := (by injection e497)
           replace hx497_0 := pc_ HB hx497_0
           replace hx497_1 := pc_ HB hx497_1
           replace hx497_2 := pc_ HB hx497_2
           replace hx497_3 := pc_ HB hx497_3
           replace hx497_4 := pc_ HB hx497_4
           replace hx497_5 := pc_ HB hx497_5
           replace hx497_6 := pc_ HB hx497_6
           have HR497_3 := am hi497_3
           have HC497_3 := am hl497_3
           clear hi497_3 hl497_3
           have HR497_6 := am hi497_6
           have HC497_6 := am hl497_6
           clear hi497_6 hl497_6
           replace p497 := eq_true p497
           replace q497 := eq_true q497
           have p498 : 0 ≤ (x5_1 : Int) := of_decide_eq_true ab4
           have q498 : x5_1 < (l0.length : Int) := of_decide_eq_true ab4
           obtain ⟨ad498, A498_3, c498_3, A498_6, c498_6, e498, hx498_0, hx498_1, hx498_2, hx498_3, hx498_4, hx498_5, hx498_6, hl498_3, hi498_3, hl498_6, hi498_6⟩ := at_T38 HR0.out x5_1 p498 q498
           obtain rfl : ad489 = ad498 := (by injection e498)
           replace hx498_0 := pc_ HB hx498_0
           replace hx498_1 := pc_ HB hx498_1
           replace hx498_2 := pc_ HB hx498_2
           replace hx498_3 := pc_ HB hx498_3
           replace hx498_4 := pc_ HB hx498_4
           replace hx498_5 := pc_ HB hx498_5
           replace hx498_6 := pc_ HB hx498_6
           have HR498_3 := am hi498_3
           have HC498_3 := am hl498_3
           clear hi498_3 hl498_3
           have HR498_6 := am hi498_6
           have HC498_6 := am hl498_6
           clear hi498_6 hl498_6
           replace p498 := eq_true p498
           replace q498 := eq_true q498
           have ea_ := Option.some.inj (hx497_3.symm.trans hx498_3)
           injection ea_ with ea_ en_ ec_
           subst ea_
           subst ec_
           clear en_
           have ea_ := Option.some.inj (hx497_6.symm.trans hx498_6)
           injection ea_ with ea_ en_ ec_
           subst ea_
           subst ec_
           clear en_
           try go_wp2_with (first | ((with_reducible refine gf_ 35 ?_); refine gc_ Try.func35 (laws_heldIntS.calls k1 _ _ ((rd_T38 l0 x5_1).f6) (wrap64 ((wrap64 (t494 + 1)) + 1)) t499 _ (sc_ HR498_6) HC498_6.out A17.out) ?_; rintro w' ⟨nd, rfl⟩))
           go_roundg k1
           case measure => have := HK1.out; omega
           case rel => exact ⟨(t499), (wrap64 (x5_1 + 1)), ab6, ab6, H', ⟨by have := HK1.out; omega⟩, ⟨ab1⟩⟩
         ·obtain rfl := Option.some.inj H
          have p489 : 0 ≤ (x5_1 : Int) := of_decide_eq_true ab4
          have q489 : x5_1 < (l0.length : Int) := of_decide_eq_true ab4
          obtain ⟨ad489, A489_3, c489_3, A489_6, c489_6, e489, hx489_0, hx489_1, hx489_2, hx489_3, hx489_4, hx489_5, hx489_6, hl489_3, hi489_3, hl489_6, hi489_6⟩ := at_T38 HR0.out x5_1 p489 q489
          cases e489
          replace hx489_0 := pc_ HB hx489_0
          replace hx489_1 := pc_ HB hx489_1
          replace hx489_2 := pc_ HB hx489_2
          replace hx489_3 := pc_ HB hx489_3
          replace hx489_4 := pc_ HB hx489_4
          replace hx489_5 := pc_ HB hx489_5
          replace hx489_6 := pc_ HB hx489_6
          have HR489_3 := am hi489_3
          have HC489_3 := am hl489_3
          clear hi489_3 hl489_3
          have HR489_6 := am hi489_6
          have HC489_6 := am hl489_6
          clear hi489_6 hl489_6
          replace p489 := eq_true p489
          replace q489 := eq_true q489
          have p490 : 0 ≤ (x5_1 : Int) := of_decide_eq_true ab4
          have q490 : x5_1 < (l0.length : Int) := of_decide_eq_true ab4
          obtain ⟨ad490, A490_3, c490_3, A490_6, c490_6, e490, hx490_0, hx490_1, hx490_2, hx490_3, hx490_4, hx490_5, hx490_6, hl490_3, hi490_3, hl490_6, hi490_6⟩ := at_T38 HR0.out x5_1 p490 q490
          obtain rfl : ad489 = ad490 := (by injection e490)
          replace hx490_0 := pc_ HB hx490_0
          replace hx490_1 := pc_ HB hx490_1
          replace hx490_2 := pc_ HB hx490_2
          replace hx490_3 := pc_ HB hx490_3
          replace hx490_4 := pc_ HB hx490_4
          replace hx490_5 := pc_ HB hx490_5
          replace hx490_6 := pc_ HB hx490_6
          have HR490_3 := am hi490_3
          have HC490_3 := am hl490_3
          clear hi490_3 hl490_3
          have HR490_6 := am hi490_6
          have HC490_6 := am hl490_6
          clear hi490_6 hl490_6
          replace p490 := eq_true p490
          replace q490 := eq_true q490
          have ea_ := Option.some.inj (hx489_3.symm.trans hx490_3)
          injection ea_ with ea_ en_ ec_
          subst ea_
          subst ec_
          clear en_
          have ea_ := Option.some.inj (hx489_6.symm.trans hx490_6)
          injection ea_ with ea_ en_ ec_
          subst ea_
          subst ec_
          clear en_
          try go_wp2
          replace HB := am (below_drew1 HB.out)
          have p491 : 0 ≤ (x5_1 : Int) := of_decide_eq_true ab4
          have q491 : x5_1 < (l0.length : Int) := of_decide_eq_true ab4
          obtain ⟨ad491, A491_3, c491_3, A491_6, c491_6, e491, hx491_0, hx491_1, hx491_2, hx491_3, hx491_4, hx491_5, hx491_6, hl491_3, hi491_3, hl491_6, hi491_6⟩ := at_T38 HR0.out x5_1 p491 q491
          have hw491_6 := hx491_6
          have hw491_5 := hx491_5
          have hw491_4 := hx491_4
          have hw491_3 := hx491_3
          have hw491_2 := hx491_2
          have hw491_1 := hx491_1
          have hw491_0 := hx491_0
          obtain rfl : ad489 = ad491 := (by injection e491)
          replace hx491_0 := pc_ HB hx491_0
          replace hx491_1 := pc_ HB hx491_1
          replace hx491_2 := pc_ HB hx491_2
          replace hx491_3 := pc_ HB hx491_3
          replace hx491_4 := pc_ HB hx491_4
          replace hx491_5 := pc_ HB hx491_5
          replace hx491_6 := pc_ HB hx491_6
          have HR491_3 := am hi491_3
          have HC491_3 := am hl491_3
          clear hi491_3 hl491_3
          have HR491_6 := am hi491_6
          have HC491_6 := am hl491_6
          clear hi491_6 hl491_6
          replace p491 := eq_true p491
          replace q491 := eq_true q491
          refine start_ (n := 8) (S := fun w' => w'.cell? (ad489.add ((x5_1).toNat * 7)) = some (.int .i64 ((rd_T38 l0 x5_1).f0)) ∧ w'.cell? ⟨(ad489.add ((x5_1).toNat * 7)).block, (ad489.add ((x5_1).toNat * 7)).off + 1, none⟩ = some (.int .i64 ((rd_T38 l0 x5_1).f1)) ∧ w'.cell? ⟨(ad489.add ((x5_1).toNat * 7)).block, (ad489.add ((x5_1).toNat * 7)).off + 2, none⟩ = some (.string ((rd_T38 l0 x5_1).f2)) ∧ w'.cell? ⟨(ad489.add ((x5_1).toNat * 7)).block, (ad489.add ((x5_1).toNat * 7)).off + 3, none⟩ = some (.slice A491_3 ((rd_T38 l0 x5_1).f3).length c491_3) ∧ w'.cell? ⟨(ad489.add ((x5_1).toNat * 7)).block, (ad489.add ((x5_1).toNat * 7)).off + 4, none⟩ = some (.string ((rd_T38 l0 x5_1).f4)) ∧ w'.cell? ⟨(ad489.add ((x5_1).toNat * 7)).block, (ad489.add ((x5_1).toNat * 7)).off + 5, none⟩ = some (.int .i64 ((rd_T38 l0 x5_1).f5)) ∧ w'.cell? ⟨(ad489.add ((x5_1).toNat * 7)).block, (ad489.add ((x5_1).toNat * 7)).off + 6, none⟩ = some (.slice A491_6 ((rd_T38 l0 x5_1).f6).length c491_6)) (ds := []) #[false, false, false, false, false, false, false, false] (by kernel_rfl) rfl rfl ⟨(pc_ HB hw491_0 :), (pc_ HB hw491_1 :), (pc_ HB hw491_2 :), (pc_ HB hw491_3 :), (pc_ HB hw491_4 :), (pc_ HB hw491_5 :), (pc_ HB hw491_6 :)⟩ (fun hHeld => ?_); refine with_tabW laws_heldItemS.tab10 laws_heldItemS.bits10 (fun HT_ HW_ => ?_)
          generalize wr.drew = w29 at HB HR491_3 HR491_6 hx491_0 hx491_1 hx491_2 hx491_3 hx491_4 hx491_5 hx491_6 hHeld ⊢
          refine pa_ 0 30 HT_ ?_
          refine pa_ 1 31 HT_ ?_
          refine pa_ 2 32 HT_ ?_
          refine pa_ 3 33 HT_ ?_
          refine pa_ 5 35 HT_ ?_
          refine tk_ 4 34 HT_ HW_ hHeld ?_
          refine on_ 6 36 HT_ fun K hK => ?_
          refine goes_ Try.func56 (by kernel_rfl) rfl #[.int .i64 (wrap64 ((wrap64 (x1_1 + 1)) + 1))] (by rfl) rfl rfl ab5 ?_
          with_reducible refine (laws_markText.calls k1 (wrap64 ((wrap64 (x1_1 + 1)) + 1)) t492 _ A7.out).mono ?_
          rintro e w30 ⟨rfl, hb⟩
          refine ⟨_, rfl, ?_⟩
          replace HB := am (below_step ab1 hb)
          (try clear hb)
          (try clear hb2)
          (try clear hk)
          (try clear hi)
          refine hK.out _ _ ⟨(pc_ HB hw491_0 :), (pc_ HB hw491_1 :), (pc_ HB hw491_2 :), (pc_ HB hw491_3 :), (pc_ HB hw491_4 :), (pc_ HB hw491_5 :), (pc_ HB hw491_6 :)⟩ (fun hHeld => ?_)
          clear hK K
          refine nm_ ?_
          refine pa_ 7 37 HT_ ?_
          refine dn_ HT_ ?_
          (try clear hHeld)
          have p493 : 0 ≤ (x5_1 : Int) := of_decide_eq_true ab4
          have q493 : x5_1 < (l0.length : Int) := of_decide_eq_true ab4
          obtain ⟨ad493, A493_3, c493_3, A493_6, c493_6, e493, hx493_0, hx493_1, hx493_2, hx493_3, hx493_4, hx493_5, hx493_6, hl493_3, hi493_3, hl493_6, hi493_6⟩ := at_T38 HR0.out x5_1 p493 q493
          obtain rfl : ad489 = ad493 := (by injection e493)
          replace hx493_0 := pc_ HB hx493_0
          replace hx493_1 := pc_ HB hx493_1
          replace hx493_2 := pc_ HB hx493_2
          replace hx493_3 := pc_ HB hx493_3
          replace hx493_4 := pc_ HB hx493_4
          replace hx493_5 := pc_ HB hx493_5
          replace hx493_6 := pc_ HB hx493_6
          have HR493_3 := am hi493_3
          have HC493_3 := am hl493_3
          clear hi493_3 hl493_3
          have HR493_6 := am hi493_6
          have HC493_6 := am hl493_6
          clear hi493_6 hl493_6
          replace p493 := eq_true p493
          replace q493 := eq_true q493
          try go_wp2_with (first | ((with_reducible refine gf_ 57 ?_); refine gc_ Try.func57 (laws_heldAttrS.calls k1 _ _ ((rd_T38 l0 x5_1).f3) (wrap64 ((wrap64 ((wrap64 (x1_1 + 1)) + 1)) + 1)) t494 _ (sc_ HR493_3) HC493_3.out A9.out) ?_; rintro w31 hb; replace HB := am (below_step ab1 hb); (try clear hb); (try clear hb2); (try clear hk); (try clear hi)))
          replace HB := am (below_drew1 HB.out)
          have p495 : 0 ≤ (x5_1 : Int) := of_decide_eq_true ab4
          have q495 : x5_1 < (l0.length : Int) := of_decide_eq_true ab4
          obtain ⟨ad495, A495_3, c495_3, A495_6, c495_6, e495, hx495_0, hx495_1, hx495_2, hx495_3, hx495_4, hx495_5, hx495_6, hl495_3, hi495_3, hl495_6, hi495_6⟩ := at_T38 HR0.out x5_1 p495 q495
          have hw495_6 := hx495_6
          have hw495_5 := hx495_5
          have hw495_4 := hx495_4
          have hw495_3 := hx495_3
          have hw495_2 := hx495_2
          have hw495_1 := hx495_1
          have hw495_0 := hx495_0
          obtain rfl : ad489 = ad495 := (by injection e495)
          replace hx495_0 := pc_ HB hx495_0
          replace hx495_1 := pc_ HB hx495_1
          replace hx495_2 := pc_ HB hx495_2
          replace hx495_3 := pc_ HB hx495_3
          replace hx495_4 := pc_ HB hx495_4
          replace hx495_5 := pc_ HB hx495_5
          replace hx495_6 := pc_ HB hx495_6
          have HR495_3 := am hi495_3
          have HC495_3 := am hl495_3
          clear hi495_3 hl495_3
          have HR495_6 := am hi495_6
          have HC495_6 := am hl495_6
          clear hi495_6 hl495_6
          replace p495 := eq_true p495
          replace q495 := eq_true q495
          refine start_ (n := 8) (S := fun w' => w'.cell? (ad489.add ((x5_1).toNat * 7)) = some (.int .i64 ((rd_T38 l0 x5_1).f0)) ∧ w'.cell? ⟨(ad489.add ((x5_1).toNat * 7)).block, (ad489.add ((x5_1).toNat * 7)).off + 1, none⟩ = some (.int .i64 ((rd_T38 l0 x5_1).f1)) ∧ w'.cell? ⟨(ad489.add ((x5_1).toNat * 7)).block, (ad489.add ((x5_1).toNat * 7)).off + 2, none⟩ = some (.string ((rd_T38 l0 x5_1).f2)) ∧ w'.cell? ⟨(ad489.add ((x5_1).toNat * 7)).block, (ad489.add ((x5_1).toNat * 7)).off + 3, none⟩ = some (.slice A495_3 ((rd_T38 l0 x5_1).f3).length c495_3) ∧ w'.cell? ⟨(ad489.add ((x5_1).toNat * 7)).block, (ad489.add ((x5_1).toNat * 7)).off + 4, none⟩ = some (.string ((rd_T38 l0 x5_1).f4)) ∧ w'.cell? ⟨(ad489.add ((x5_1).toNat * 7)).block, (ad489.add ((x5_1).toNat * 7)).off + 5, none⟩ = some (.int .i64 ((rd_T38 l0 x5_1).f5)) ∧ w'.cell? ⟨(ad489.add ((x5_1).toNat * 7)).block, (ad489.add ((x5_1).toNat * 7)).off + 6, none⟩ = some (.slice A495_6 ((rd_T38 l0 x5_1).f6).length c495_6)) (ds := []) #[false, false, false, false, false, false, false, false] (by kernel_rfl) rfl rfl ⟨(pc_ HB hw495_0 :), (pc_ HB hw495_1 :), (pc_ HB hw495_2 :), (pc_ HB hw495_3 :), (pc_ HB hw495_4 :), (pc_ HB hw495_5 :), (pc_ HB hw495_6 :)⟩ (fun hHeld => ?_); refine with_tabW laws_heldItemS.tab16 laws_heldItemS.bits16 (fun HT_ HW_ => ?_)
          generalize w31.drew = w32 at HB HR495_3 HR495_6 hx495_0 hx495_1 hx495_2 hx495_3 hx495_4 hx495_5 hx495_6 hHeld ⊢
          refine pa_ 0 49 HT_ ?_
          refine pa_ 1 50 HT_ ?_
          refine pa_ 2 51 HT_ ?_
          refine pa_ 3 52 HT_ ?_
          refine pa_ 5 54 HT_ ?_
          refine tk_ 4 53 HT_ HW_ hHeld ?_
          refine on_ 6 55 HT_ fun K hK => ?_
          refine goes_ Try.func56 (by kernel_rfl) rfl #[.int .i64 t494] (by rfl) rfl rfl ab5 ?_
          with_reducible refine (laws_markText.calls k1 t494 t496 _ A14.out).mono ?_
          rintro e w33 ⟨rfl, hb⟩
          refine ⟨_, rfl, ?_⟩
          replace HB := am (below_step ab1 hb)
          (try clear hb)
          (try clear hb2)
          (try clear hk)
          (try clear hi)
          refine hK.out _ _ ⟨(pc_ HB hw495_0 :), (pc_ HB hw495_1 :), (pc_ HB hw495_2 :), (pc_ HB hw495_3 :), (pc_ HB hw495_4 :), (pc_ HB hw495_5 :), (pc_ HB hw495_6 :)⟩ (fun hHeld => ?_)
          clear hK K
          refine nm_ ?_
          refine pa_ 7 56 HT_ ?_
          refine dn_ HT_ ?_
          (try clear hHeld)
          have p497 : 0 ≤ (x5_1 : Int) := of_decide_eq_true ab4
          have q497 : x5_1 < (l0.length : Int) := of_decide_eq_true ab4
          obtain ⟨ad497, A497_3, c497_3, A497_6, c497_6, e497, hx497_0, hx497_1, hx497_2, hx497_3, hx497_4, hx497_5, hx497_6, hl497_3, hi497_3, hl497_6, hi497_6⟩ := at_T38 HR0.out x5_1 p497 q497
          obtain rfl : ad489 = ad497 := (by injection e497)
          replace hx497_0 := pc_ HB hx497_0
          replace hx497_1 := pc_ HB hx497_1
          replace hx497_2 := pc_ HB hx497_2
          replace hx497_3 := pc_ HB hx497_3
          replace hx497_4 := pc_ HB hx497_4
          replace hx497_5 := pc_ HB hx497_5
          replace hx497_6 := pc_ HB hx497_6
          have HR497_3 := am hi497_3
          have HC497_3 := am hl497_3
          clear hi497_3 hl497_3
          have HR497_6 := am hi497_6
          have HC497_6 := am hl497_6
          clear hi497_6 hl497_6
          replace p497 := eq_true p497
          replace q497 := eq_true q497
          try go_wp2
          go_ret
          exact ⟨ab7, ab1⟩
        ·obtain rfl := Option.some.inj H
         have p489 : 0 ≤ (x5_1 : Int) := of_decide_eq_true ab4
         have q489 : x5_1 < (l0.length : Int) := of_decide_eq_true ab4
         obtain ⟨ad489, A489_3, c489_3, A489_6, c489_6, e489, hx489_0, hx489_1, hx489_2, hx489_3, hx489_4, hx489_5, hx489_6, hl489_3, hi489_3, hl489_6, hi489_6⟩ := at_T38 HR0.out x5_1 p489 q489
         cases e489
         replace hx489_0 := pc_ HB hx489_0
         replace hx489_1 := pc_ HB hx489_1
         replace hx489_2 := pc_ HB hx489_2
         replace hx489_3 := pc_ HB hx489_3
         replace hx489_4 := pc_ HB hx489_4
         replace hx489_5 := pc_ HB hx489_5
         replace hx489_6 := pc_ HB hx489_6
         have HR489_3 := am hi489_3
         have HC489_3 := am hl489_3
         clear hi489_3 hl489_3
         have HR489_6 := am hi489_6
         have HC489_6 := am hl489_6
         clear hi489_6 hl489_6
         replace p489 := eq_true p489
         replace q489 := eq_true q489
         have p490 : 0 ≤ (x5_1 : Int) := of_decide_eq_true ab4
         have q490 : x5_1 < (l0.length : Int) := of_decide_eq_true ab4
         obtain ⟨ad490, A490_3, c490_3, A490_6, c490_6, e490, hx490_0, hx490_1, hx490_2, hx490_3, hx490_4, hx490_5, hx490_6, hl490_3, hi490_3, hl490_6, hi490_6⟩ := at_T38 HR0.out x5_1 p490 q490
         obtain rfl : ad489 = ad490 := (by injection e490)
         replace hx490_0 := pc_ HB hx490_0
         replace hx490_1 := pc_ HB hx490_1
         replace hx490_2 := pc_ HB hx490_2
         replace hx490_3 := pc_ HB hx490_3
         replace hx490_4 := pc_ HB hx490_4
         replace hx490_5 := pc_ HB hx490_5
         replace hx490_6 := pc_ HB hx490_6
         have HR490_3 := am hi490_3
         have HC490_3 := am hl490_3
         clear hi490_3 hl490_3
         have HR490_6 := am hi490_6
         have HC490_6 := am hl490_6
         clear hi490_6 hl490_6
         replace p490 := eq_true p490
         replace q490 := eq_true q490
         have ea_ := Option.some.inj (hx489_3.symm.trans hx490_3)
         injection ea_ with ea_ en_ ec_
         subst ea_
         subst ec_
         clear en_
         have ea_ := Option.some.inj (hx489_6.symm.trans hx490_6)
         injection ea_ with ea_ en_ ec_
         subst ea_
         subst ec_
         clear en_
         try go_wp2
         replace HB := am (below_drew1 HB.out)
         have p491 : 0 ≤ (x5_1 : Int) := of_decide_eq_true ab4
         have q491 : x5_1 < (l0.length : Int) := of_decide_eq_true ab4
         obtain ⟨ad491, A491_3, c491_3, A491_6, c491_6, e491, hx491_0, hx491_1, hx491_2, hx491_3, hx491_4, hx491_5, hx491_6, hl491_3, hi491_3, hl491_6, hi491_6⟩ := at_T38 HR0.out x5_1 p491 q491
         have hw491_6 := hx491_6
         have hw491_5 := hx491_5
         have hw491_4 := hx491_4
         have hw491_3 := hx491_3
         have hw491_2 := hx491_2
         have hw491_1 := hx491_1
         have hw491_0 := hx491_0
         obtain rfl : ad489 = ad491 := (by injection e491)
         replace hx491_0 := pc_ HB hx491_0
         replace hx491_1 := pc_ HB hx491_1
         replace hx491_2 := pc_ HB hx491_2
         replace hx491_3 := pc_ HB hx491_3
         replace hx491_4 := pc_ HB hx491_4
         replace hx491_5 := pc_ HB hx491_5
         replace hx491_6 := pc_ HB hx491_6
         have HR491_3 := am hi491_3
         have HC491_3 := am hl491_3
         clear hi491_3 hl491_3
         have HR491_6 := am hi491_6
         have HC491_6 := am hl491_6
         clear hi491_6 hl491_6
         replace p491 := eq_true p491
         replace q491 := eq_true q491
         refine start_ (n := 8) (S := fun w' => w'.cell? (ad489.add ((x5_1).toNat * 7)) = some (.int .i64 ((rd_T38 l0 x5_1).f0)) ∧ w'.cell? ⟨(ad489.add ((x5_1).toNat * 7)).block, (ad489.add ((x5_1).toNat * 7)).off + 1, none⟩ = some (.int .i64 ((rd_T38 l0 x5_1).f1)) ∧ w'.cell? ⟨(ad489.add ((x5_1).toNat * 7)).block, (ad489.add ((x5_1).toNat * 7)).off + 2, none⟩ = some (.string ((rd_T38 l0 x5_1).f2)) ∧ w'.cell? ⟨(ad489.add ((x5_1).toNat * 7)).block, (ad489.add ((x5_1).toNat * 7)).off + 3, none⟩ = some (.slice A491_3 ((rd_T38 l0 x5_1).f3).length c491_3) ∧ w'.cell? ⟨(ad489.add ((x5_1).toNat * 7)).block, (ad489.add ((x5_1).toNat * 7)).off + 4, none⟩ = some (.string ((rd_T38 l0 x5_1).f4)) ∧ w'.cell? ⟨(ad489.add ((x5_1).toNat * 7)).block, (ad489.add ((x5_1).toNat * 7)).off + 5, none⟩ = some (.int .i64 ((rd_T38 l0 x5_1).f5)) ∧ w'.cell? ⟨(ad489.add ((x5_1).toNat * 7)).block, (ad489.add ((x5_1).toNat * 7)).off + 6, none⟩ = some (.slice A491_6 ((rd_T38 l0 x5_1).f6).length c491_6)) (ds := []) #[false, false, false, false, false, false, false, false] (by kernel_rfl) rfl rfl ⟨(pc_ HB hw491_0 :), (pc_ HB hw491_1 :), (pc_ HB hw491_2 :), (pc_ HB hw491_3 :), (pc_ HB hw491_4 :), (pc_ HB hw491_5 :), (pc_ HB hw491_6 :)⟩ (fun hHeld => ?_); refine with_tabW laws_heldItemS.tab10 laws_heldItemS.bits10 (fun HT_ HW_ => ?_)
         generalize wr.drew = w34 at HB HR491_3 HR491_6 hx491_0 hx491_1 hx491_2 hx491_3 hx491_4 hx491_5 hx491_6 hHeld ⊢
         refine pa_ 0 30 HT_ ?_
         refine pa_ 1 31 HT_ ?_
         refine pa_ 2 32 HT_ ?_
         refine pa_ 3 33 HT_ ?_
         refine pa_ 5 35 HT_ ?_
         refine tk_ 4 34 HT_ HW_ hHeld ?_
         refine on_ 6 36 HT_ fun K hK => ?_
         refine goes_ Try.func56 (by kernel_rfl) rfl #[.int .i64 (wrap64 ((wrap64 (x1_1 + 1)) + 1))] (by rfl) rfl rfl ab5 ?_
         with_reducible refine (laws_markText.calls k1 (wrap64 ((wrap64 (x1_1 + 1)) + 1)) t492 _ A7.out).mono ?_
         rintro e w35 ⟨rfl, hb⟩
         refine ⟨_, rfl, ?_⟩
         replace HB := am (below_step ab1 hb)
         (try clear hb)
         (try clear hb2)
         (try clear hk)
         (try clear hi)
         refine hK.out _ _ ⟨(pc_ HB hw491_0 :), (pc_ HB hw491_1 :), (pc_ HB hw491_2 :), (pc_ HB hw491_3 :), (pc_ HB hw491_4 :), (pc_ HB hw491_5 :), (pc_ HB hw491_6 :)⟩ (fun hHeld => ?_)
         clear hK K
         refine nm_ ?_
         refine pa_ 7 37 HT_ ?_
         refine dn_ HT_ ?_
         (try clear hHeld)
         have p493 : 0 ≤ (x5_1 : Int) := of_decide_eq_true ab4
         have q493 : x5_1 < (l0.length : Int) := of_decide_eq_true ab4
         obtain ⟨ad493, A493_3, c493_3, A493_6, c493_6, e493, hx493_0, hx493_1, hx493_2, hx493_3, hx493_4, hx493_5, hx493_6, hl493_3, hi493_3, hl493_6, hi493_6⟩ := at_T38 HR0.out x5_1 p493 q493
         obtain rfl : ad489 = ad493 := (by injection e493)
         replace hx493_0 := pc_ HB hx493_0
         replace hx493_1 := pc_ HB hx493_1
         replace hx493_2 := pc_ HB hx493_2
         replace hx493_3 := pc_ HB hx493_3
         replace hx493_4 := pc_ HB hx493_4
         replace hx493_5 := pc_ HB hx493_5
         replace hx493_6 := pc_ HB hx493_6
         have HR493_3 := am hi493_3
         have HC493_3 := am hl493_3
         clear hi493_3 hl493_3
         have HR493_6 := am hi493_6
         have HC493_6 := am hl493_6
         clear hi493_6 hl493_6
         replace p493 := eq_true p493
         replace q493 := eq_true q493
         try go_wp2_with (first | ((with_reducible refine gf_ 57 ?_); refine gc_ Try.func57 (laws_heldAttrS.calls k1 _ _ ((rd_T38 l0 x5_1).f3) (wrap64 ((wrap64 ((wrap64 (x1_1 + 1)) + 1)) + 1)) t494 _ (sc_ HR493_3) HC493_3.out A9.out) ?_; rintro w36 hb; replace HB := am (below_step ab1 hb); (try clear hb); (try clear hb2); (try clear hk); (try clear hi)))
         replace HB := am (below_drew1 HB.out)
         have p495 : 0 ≤ (x5_1 : Int) := of_decide_eq_true ab4
         have q495 : x5_1 < (l0.length : Int) := of_decide_eq_true ab4
         obtain ⟨ad495, A495_3, c495_3, A495_6, c495_6, e495, hx495_0, hx495_1, hx495_2, hx495_3, hx495_4, hx495_5, hx495_6, hl495_3, hi495_3, hl495_6, hi495_6⟩ := at_T38 HR0.out x5_1 p495 q495
         have hw495_6 := hx495_6
         have hw495_5 := hx495_5
         have hw495_4 := hx495_4
         have hw495_3 := hx495_3
         have hw495_2 := hx495_2
         have hw495_1 := hx495_1
         have hw495_0 := hx495_0
         obtain rfl : ad489 = ad495 := (by injection e495)
         replace hx495_0 := pc_ HB hx495_0
         replace hx495_1 := pc_ HB hx495_1
         replace hx495_2 := pc_ HB hx495_2
         replace hx495_3 := pc_ HB hx495_3
         replace hx495_4 := pc_ HB hx495_4
         replace hx495_5 := pc_ HB hx495_5
         replace hx495_6 := pc_ HB hx495_6
         have HR495_3 := am hi495_3
         have HC495_3 := am hl495_3
         clear hi495_3 hl495_3
         have HR495_6 := am hi495_6
         have HC495_6 := am hl495_6
         clear hi495_6 hl495_6
         replace p495 := eq_true p495
         replace q495 := eq_true q495
         refine start_ (n := 8) (S := fun w' => w'.cell? (ad489.add ((x5_1).toNat * 7)) = some (.int .i64 ((rd_T38 l0 x5_1).f0)) ∧ w'.cell? ⟨(ad489.add ((x5_1).toNat * 7)).block, (ad489.add ((x5_1).toNat * 7)).off + 1, none⟩ = some (.int .i64 ((rd_T38 l0 x5_1).f1)) ∧ w'.cell? ⟨(ad489.add ((x5_1).toNat * 7)).block, (ad489.add ((x5_1).toNat * 7)).off + 2, none⟩ = some (.string ((rd_T38 l0 x5_1).f2)) ∧ w'.cell? ⟨(ad489.add ((x5_1).toNat * 7)).block, (ad489.add ((x5_1).toNat * 7)).off + 3, none⟩ = some (.slice A495_3 ((rd_T38 l0 x5_1).f3).length c495_3) ∧ w'.cell? ⟨(ad489.add ((x5_1).toNat * 7)).block, (ad489.add ((x5_1).toNat * 7)).off + 4, none⟩ = some (.string ((rd_T38 l0 x5_1).f4)) ∧ w'.cell? ⟨(ad489.add ((x5_1).toNat * 7)).block, (ad489.add ((x5_1).toNat * 7)).off + 5, none⟩ = some (.int .i64 ((rd_T38 l0 x5_1).f5)) ∧ w'.cell? ⟨(ad489.add ((x5_1).toNat * 7)).block, (ad489.add ((x5_1).toNat * 7)).off + 6, none⟩ = some (.slice A495_6 ((rd_T38 l0 x5_1).f6).length c495_6)) (ds := []) #[false, false, false, false, false, false, false, false] (by kernel_rfl) rfl rfl ⟨(pc_ HB hw495_0 :), (pc_ HB hw495_1 :), (pc_ HB hw495_2 :), (pc_ HB hw495_3 :), (pc_ HB hw495_4 :), (pc_ HB hw495_5 :), (pc_ HB hw495_6 :)⟩ (fun hHeld => ?_); refine with_tabW laws_heldItemS.tab16 laws_heldItemS.bits16 (fun HT_ HW_ => ?_)
         generalize w36.drew = w37 at HB HR495_3 HR495_6 hx495_0 hx495_1 hx495_2 hx495_3 hx495_4 hx495_5 hx495_6 hHeld ⊢
         refine pa_ 0 49 HT_ ?_
         refine pa_ 1 50 HT_ ?_
         refine pa_ 2 51 HT_ ?_
         refine pa_ 3 52 HT_ ?_
         refine pa_ 5 54 HT_ ?_
         refine tk_ 4 53 HT_ HW_ hHeld ?_
         refine on_ 6 55 HT_ fun K hK => ?_
         refine goes_ Try.func56 (by kernel_rfl) rfl #[.int .i64 t494] (by rfl) rfl rfl ab5 ?_
         with_reducible refine (laws_markText.calls k1 t494 t496 _ A14.out).mono ?_
         rintro e w38 ⟨rfl, hb⟩
         refine ⟨_, rfl, ?_⟩
         replace HB := am (below_step ab1 hb)
         (try clear hb)
         (try clear hb2)
         (try clear hk)
         (try clear hi)
         refine hK.out _ _ ⟨(pc_ HB hw495_0 :), (pc_ HB hw495_1 :), (pc_ HB hw495_2 :), (pc_ HB hw495_3 :), (pc_ HB hw495_4 :), (pc_ HB hw495_5 :), (pc_ HB hw495_6 :)⟩ (fun hHeld => ?_)
         clear hK K
         refine nm_ ?_
         refine pa_ 7 56 HT_ ?_
         refine dn_ HT_ ?_
         (try clear hHeld)
         try go_wp2
         go_ret
         exact ⟨ab7, ab1⟩
      ·obtain rfl := Option.some.inj H
       have p489 : 0 ≤ (x5_1 : Int) := of_decide_eq_true ab4
       have q489 : x5_1 < (l0.length : Int) := of_decide_eq_true ab4
       obtain ⟨ad489, A489_3, c489_3, A489_6, c489_6, e489, hx489_0, hx489_1, hx489_2, hx489_3, hx489_4, hx489_5, hx489_6, hl489_3, hi489_3, hl489_6, hi489_6⟩ := at_T38 HR0.out x5_1 p489 q489
       cases e489
       replace hx489_0 := pc_ HB hx489_0
       replace hx489_1 := pc_ HB hx489_1
       replace hx489_2 := pc_ HB hx489_2
       replace hx489_3 := pc_ HB hx489_3
       replace hx489_4 := pc_ HB hx489_4
       replace hx489_5 := pc_ HB hx489_5
       replace hx489_6 := pc_ HB hx489_6
       have HR489_3 := am hi489_3
       have HC489_3 := am hl489_3
       clear hi489_3 hl489_3
       have HR489_6 := am hi489_6
       have HC489_6 := am hl489_6
       clear hi489_6 hl489_6
       replace p489 := eq_true p489
       replace q489 := eq_true q489
       have p490 : 0 ≤ (x5_1 : Int) := of_decide_eq_true ab4
       have q490 : x5_1 < (l0.length : Int) := of_decide_eq_true ab4
       obtain ⟨ad490, A490_3, c490_3, A490_6, c490_6, e490, hx490_0, hx490_1, hx490_2, hx490_3, hx490_4, hx490_5, hx490_6, hl490_3, hi490_3, hl490_6, hi490_6⟩ := at_T38 HR0.out x5_1 p490 q490
       obtain rfl : ad489 = ad490 := (by injection e490)
       replace hx490_0 := pc_ HB hx490_0
       replace hx490_1 := pc_ HB hx490_1
       replace hx490_2 := pc_ HB hx490_2
       replace hx490_3 := pc_ HB hx490_3
       replace hx490_4 := pc_ HB hx490_4
       replace hx490_5 := pc_ HB hx490_5
       replace hx490_6 := pc_ HB hx490_6
       have HR490_3 := am hi490_3
       have HC490_3 := am hl490_3
       clear hi490_3 hl490_3
       have HR490_6 := am hi490_6
       have HC490_6 := am hl490_6
       clear hi490_6 hl490_6
       replace p490 := eq_true p490
       replace q490 := eq_true q490
       have ea_ := Option.some.inj (hx489_3.symm.trans hx490_3)
       injection ea_ with ea_ en_ ec_
       subst ea_
       subst ec_
       clear en_
       have ea_ := Option.some.inj (hx489_6.symm.trans hx490_6)
       injection ea_ with ea_ en_ ec_
       subst ea_
       subst ec_
       clear en_
       try go_wp2
       replace HB := am (below_drew1 HB.out)
       have p491 : 0 ≤ (x5_1 : Int) := of_decide_eq_true ab4
       have q491 : x5_1 < (l0.length : Int) := of_decide_eq_true ab4
       obtain ⟨ad491, A491_3, c491_3, A491_6, c491_6, e491, hx491_0, hx491_1, hx491_2, hx491_3, hx491_4, hx491_5, hx491_6, hl491_3, hi491_3, hl491_6, hi491_6⟩ := at_T38 HR0.out x5_1 p491 q491
       have hw491_6 := hx491_6
       have hw491_5 := hx491_5
       have hw491_4 := hx491_4
       have hw491_3 := hx491_3
       have hw491_2 := hx491_2
       have hw491_1 := hx491_1
       have hw491_0 := hx491_0
       obtain rfl : ad489 = ad491 := (by injection e491)
       replace hx491_0 := pc_ HB hx491_0
       replace hx491_1 := pc_ HB hx491_1
       replace hx491_2 := pc_ HB hx491_2
       replace hx491_3 := pc_ HB hx491_3
       replace hx491_4 := pc_ HB hx491_4
       replace hx491_5 := pc_ HB hx491_5
       replace hx491_6 := pc_ HB hx491_6
       have HR491_3 := am hi491_3
       have HC491_3 := am hl491_3
       clear hi491_3 hl491_3
       have HR491_6 := am hi491_6
       have HC491_6 := am hl491_6
       clear hi491_6 hl491_6
       replace p491 := eq_true p491
       replace q491 := eq_true q491
       refine start_ (n := 8) (S := fun w' => w'.cell? (ad489.add ((x5_1).toNat * 7)) = some (.int .i64 ((rd_T38 l0 x5_1).f0)) ∧ w'.cell? ⟨(ad489.add ((x5_1).toNat * 7)).block, (ad489.add ((x5_1).toNat * 7)).off + 1, none⟩ = some (.int .i64 ((rd_T38 l0 x5_1).f1)) ∧ w'.cell? ⟨(ad489.add ((x5_1).toNat * 7)).block, (ad489.add ((x5_1).toNat * 7)).off + 2, none⟩ = some (.string ((rd_T38 l0 x5_1).f2)) ∧ w'.cell? ⟨(ad489.add ((x5_1).toNat * 7)).block, (ad489.add ((x5_1).toNat * 7)).off + 3, none⟩ = some (.slice A491_3 ((rd_T38 l0 x5_1).f3).length c491_3) ∧ w'.cell? ⟨(ad489.add ((x5_1).toNat * 7)).block, (ad489.add ((x5_1).toNat * 7)).off + 4, none⟩ = some (.string ((rd_T38 l0 x5_1).f4)) ∧ w'.cell? ⟨(ad489.add ((x5_1).toNat * 7)).block, (ad489.add ((x5_1).toNat * 7)).off + 5, none⟩ = some (.int .i64 ((rd_T38 l0 x5_1).f5)) ∧ w'.cell? ⟨(ad489.add ((x5_1).toNat * 7)).block, (ad489.add ((x5_1).toNat * 7)).off + 6, none⟩ = some (.slice A491_6 ((rd_T38 l0 x5_1).f6).length c491_6)) (ds := []) #[false, false, false, false, false, false, false, false] (by kernel_rfl) rfl rfl ⟨(pc_ HB hw491_0 :), (pc_ HB hw491_1 :), (pc_ HB hw491_2 :), (pc_ HB hw491_3 :), (pc_ HB hw491_4 :), (pc_ HB hw491_5 :), (pc_ HB hw491_6 :)⟩ (fun hHeld => ?_); refine with_tabW laws_heldItemS.tab10 laws_heldItemS.bits10 (fun HT_ HW_ => ?_)
       generalize wr.drew = w39 at HB HR491_3 HR491_6 hx491_0 hx491_1 hx491_2 hx491_3 hx491_4 hx491_5 hx491_6 hHeld ⊢
       refine pa_ 0 30 HT_ ?_
       refine pa_ 1 31 HT_ ?_
       refine pa_ 2 32 HT_ ?_
       refine pa_ 3 33 HT_ ?_
       refine pa_ 5 35 HT_ ?_
       refine tk_ 4 34 HT_ HW_ hHeld ?_
       refine on_ 6 36 HT_ fun K hK => ?_
       refine goes_ Try.func56 (by kernel_rfl) rfl #[.int .i64 (wrap64 ((wrap64 (x1_1 + 1)) + 1))] (by rfl) rfl rfl ab5 ?_
       with_reducible refine (laws_markText.calls k1 (wrap64 ((wrap64 (x1_1 + 1)) + 1)) t492 _ A7.out).mono ?_
       rintro e w40 ⟨rfl, hb⟩
       refine ⟨_, rfl, ?_⟩
       replace HB := am (below_step ab1 hb)
       (try clear hb)
       (try clear hb2)
       (try clear hk)
       (try clear hi)
       refine hK.out _ _ ⟨(pc_ HB hw491_0 :), (pc_ HB hw491_1 :), (pc_ HB hw491_2 :), (pc_ HB hw491_3 :), (pc_ HB hw491_4 :), (pc_ HB hw491_5 :), (pc_ HB hw491_6 :)⟩ (fun hHeld => ?_)
       clear hK K
       refine nm_ ?_
       refine pa_ 7 37 HT_ ?_
       refine dn_ HT_ ?_
       (try clear hHeld)
       try go_wp2
       go_ret
       exact ⟨ab7, ab1⟩
     ·obtain rfl := Option.some.inj H
      have p489 : 0 ≤ (x5_1 : Int) := of_decide_eq_true ab4
      have q489 : x5_1 < (l0.length : Int) := of_decide_eq_true ab4
      obtain ⟨ad489, A489_3, c489_3, A489_6, c489_6, e489, hx489_0, hx489_1, hx489_2, hx489_3, hx489_4, hx489_5, hx489_6, hl489_3, hi489_3, hl489_6, hi489_6⟩ := at_T38 HR0.out x5_1 p489 q489
      cases e489
      replace hx489_0 := pc_ HB hx489_0
      replace hx489_1 := pc_ HB hx489_1
      replace hx489_2 := pc_ HB hx489_2
      replace hx489_3 := pc_ HB hx489_3
      replace hx489_4 := pc_ HB hx489_4
      replace hx489_5 := pc_ HB hx489_5
      replace hx489_6 := pc_ HB hx489_6
      have HR489_3 := am hi489_3
      have HC489_3 := am hl489_3
      clear hi489_3 hl489_3
      have HR489_6 := am hi489_6
      have HC489_6 := am hl489_6
      clear hi489_6 hl489_6
      replace p489 := eq_true p489
      replace q489 := eq_true q489
      have p490 : 0 ≤ (x5_1 : Int) := of_decide_eq_true ab4
      have q490 : x5_1 < (l0.length : Int) := of_decide_eq_true ab4
      obtain ⟨ad490, A490_3, c490_3, A490_6, c490_6, e490, hx490_0, hx490_1, hx490_2, hx490_3, hx490_4, hx490_5, hx490_6, hl490_3, hi490_3, hl490_6, hi490_6⟩ := at_T38 HR0.out x5_1 p490 q490
      obtain rfl : ad489 = ad490 := (by injection e490)
      replace hx490_0 := pc_ HB hx490_0
      replace hx490_1 := pc_ HB hx490_1
      replace hx490_2 := pc_ HB hx490_2
      replace hx490_3 := pc_ HB hx490_3
      replace hx490_4 := pc_ HB hx490_4
      replace hx490_5 := pc_ HB hx490_5
      replace hx490_6 := pc_ HB hx490_6
      have HR490_3 := am hi490_3
      have HC490_3 := am hl490_3
      clear hi490_3 hl490_3
      have HR490_6 := am hi490_6
      have HC490_6 := am hl490_6
      clear hi490_6 hl490_6
      replace p490 := eq_true p490
      replace q490 := eq_true q490
      have ea_ := Option.some.inj (hx489_3.symm.trans hx490_3)
      injection ea_ with ea_ en_ ec_
      subst ea_
      subst ec_
      clear en_
      have ea_ := Option.some.inj (hx489_6.symm.trans hx490_6)
      injection ea_ with ea_ en_ ec_
      subst ea_
      subst ec_
      clear en_
      go_wp2
      go_ret
      exact ⟨ab7, ab1⟩
    ·obtain rfl := Option.some.inj H
     have p489 : 0 ≤ (x5_1 : Int) := of_decide_eq_true ab4
     have q489 : x5_1 < (l0.length : Int) := of_decide_eq_true ab4
     obtain ⟨ad489, A489_3, c489_3, A489_6, c489_6, e489, hx489_0, hx489_1, hx489_2, hx489_3, hx489_4, hx489_5, hx489_6, hl489_3, hi489_3, hl489_6, hi489_6⟩ := at_T38 HR0.out x5_1 p489 q489
     cases e489
     replace hx489_0 := pc_ HB hx489_0
     replace hx489_1 := pc_ HB hx489_1
     replace hx489_2 := pc_ HB hx489_2
     replace hx489_3 := pc_ HB hx489_3
     replace hx489_4 := pc_ HB hx489_4
     replace hx489_5 := pc_ HB hx489_5
     replace hx489_6 := pc_ HB hx489_6
     have HR489_3 := am hi489_3
     have HC489_3 := am hl489_3
     clear hi489_3 hl489_3
     have HR489_6 := am hi489_6
     have HC489_6 := am hl489_6
     clear hi489_6 hl489_6
     replace p489 := eq_true p489
     replace q489 := eq_true q489
     go_wp2
     go_ret
     exact ⟨ab7, ab1⟩
   ·obtain rfl := Option.some.inj H
    go_wp2
    go_ret
    exact ⟨ab7, ab1⟩
def laws_heldPage.f (k : Nat) (l0_0 : List (S38)) (l0_1 : List Int) (l0_2 : List Int) (a0_3 : Int) (a0_4 : Int) (a1 : Int) : Option (Int) := (laws_heldItemS.f k l0_0 a1).bind fun t501 => (if t501 < 0 then (some (-1)) else ((laws_heldIntS.f k l0_1 t501).bind fun t502 => (if t502 < 0 then (some (-1)) else ((laws_heldIntS.f k l0_2 t502).bind fun t503 => (if t503 < 0 then (some (-1)) else (some t503))))))
theorem laws_heldPage.calls (k : Nat) (A0_0 : Option Addr) (c0_0 : Nat) (l0_0 : List (S38)) (A0_1 : Option Addr) (c0_1 : Nat) (l0_1 : List Int) (A0_2 : Option Addr) (c0_2 : Nat) (l0_2 : List Int) (a0_3 : Int) (a0_4 : Int) (a1 : Int) (r : Int) (w : World) (hr0_0 : Kd.C k38 w A0_0 l0_0.length l0_0) (hc0_0 : l0_0.length ≤ c0_0) (hr0_1 : Kd.C (Kd.int .i64) w A0_1 l0_1.length l0_1) (hc0_1 : l0_1.length ≤ c0_1) (hr0_2 : Kd.C (Kd.int .i64) w A0_2 l0_2.length l0_2) (hc0_2 : l0_2.length ≤ c0_2) (h : laws_heldPage.f k l0_0 l0_1 l0_2 a0_3 a0_4 a1 = some r) :
  Calls Try.prog 14 #[.agg #[.slice A0_0 l0_0.length c0_0, .slice A0_1 l0_1.length c0_1, .slice A0_2 l0_2.length c0_2, .int .i64 a0_3, .int .i64 a0_4], .int .i64 a1] w fun e w' => e = .returned (.int .i64 r) ∧ Below w.heap.size w w' := by
 have hu33 := Try.underlying33
 have HR0_0 := am hr0_0
 have HC0_0 := am hc0_0
 clear hr0_0 hc0_0
 have HR0_1 := am hr0_1
 have HC0_1 := am hc0_1
 clear hr0_1 hc0_1
 have HR0_2 := am hr0_2
 have HC0_2 := am hc0_2
 clear hr0_2 hc0_2
 have HB := am (Below.refl w.heap.size w)
 have H : ((laws_heldItemS.f k l0_0 a1).bind fun t501 => (if t501 < 0 then (some (-1)) else ((laws_heldIntS.f k l0_1 t501).bind fun t502 => (if t502 < 0 then (some (-1)) else ((laws_heldIntS.f k l0_2 t502).bind fun t503 => (if t503 < 0 then (some (-1)) else (some t503))))))) = some r := h
 clear h
 replace H := bi_ H; obtain ⟨t501, A3, H⟩ := H
 replace H := ir_ H; rcases H with ⟨c4b0, H⟩ | ⟨c4b0, H⟩
 ·obtain rfl := Option.some.inj H
  go_enter Try.func14, Try.ntmps14
  go_wp2_with (first | ((with_reducible refine gd_ 2 ?_); refine bx_ 2 (cs := #[.slice A0_0 l0_0.length c0_0, .slice A0_1 l0_1.length c0_1, .slice A0_2 l0_2.length c0_2, .int .i64 a0_3, .int .i64 a0_4]) 33 ?_; intro gb500 hg w5 hbox hb; have BK500 := am hbox; have GW500 := ge_ (w := w) hg; have GE500 := ge_ (w := w) hg; replace HB := am (below_step ab1 hb); clear hb hbox hg; obtain ⟨⟨_, _, _, _, _⟩, _, _, _, _, _⟩ := Op.cells5 BK500.out) | ((with_reducible refine gf_ 34 ?_); refine gc_ Try.func34 (laws_heldItemS.calls k _ _ l0_0 a1 t501 _ (sc_ HR0_0) HC0_0.out A3.out) ?_; rintro w7 hb; replace BK500 := bl_ BK500 hb; replace HB := am (below_step (ab2 GE500) hb); (try clear hb); (try clear hb2); (try clear hk); (try clear hi)))
  go_ret
  exact ⟨ab7, ab2 GE500⟩
 ·replace H := bi_ H; obtain ⟨t502, A8, H⟩ := H
  replace H := ir_ H; rcases H with ⟨c9b0, H⟩ | ⟨c9b0, H⟩
  ·obtain rfl := Option.some.inj H
   go_enter Try.func14, Try.ntmps14
   go_wp2_with (first | ((with_reducible refine gd_ 2 ?_); refine bx_ 2 (cs := #[.slice A0_0 l0_0.length c0_0, .slice A0_1 l0_1.length c0_1, .slice A0_2 l0_2.length c0_2, .int .i64 a0_3, .int .i64 a0_4]) 33 ?_; intro gb500 hg w10 hbox hb; have BK500 := am hbox; have GW500 := ge_ (w := w) hg; have GE500 := ge_ (w := w) hg; replace HB := am (below_step ab1 hb); clear hb hbox hg; obtain ⟨⟨_, _, _, _, _⟩, _, _, _, _, _⟩ := Op.cells5 BK500.out) | ((with_reducible refine gf_ 34 ?_); refine gc_ Try.func34 (laws_heldItemS.calls k _ _ l0_0 a1 t501 _ (sc_ HR0_0) HC0_0.out A3.out) ?_; rintro w12 hb; replace BK500 := bl_ BK500 hb; replace HB := am (below_step (ab2 GE500) hb); (try clear hb); (try clear hb2); (try clear hk); (try clear hi); obtain ⟨⟨_, _, _, _, _⟩, _, _, _, _, _⟩ := Op.cells5 BK500.out) | ((with_reducible refine gf_ 35 ?_); refine gc_ Try.func35 (laws_heldIntS.calls k _ _ l0_1 t501 t502 _ (sc_ HR0_1) HC0_1.out A8.out) ?_; rintro w' ⟨nd, rfl⟩))
   go_ret
   exact ⟨ab7, ab2 GE500⟩
  ·replace H := bi_ H; obtain ⟨t503, A14, H⟩ := H
   replace H := ir_ H; rcases H with ⟨c15b0, H⟩ | ⟨c15b0, H⟩
   ·obtain rfl := Option.some.inj H
    go_enter Try.func14, Try.ntmps14
    go_wp2_with (first | ((with_reducible refine gd_ 2 ?_); refine bx_ 2 (cs := #[.slice A0_0 l0_0.length c0_0, .slice A0_1 l0_1.length c0_1, .slice A0_2 l0_2.length c0_2, .int .i64 a0_3, .int .i64 a0_4]) 33 ?_; intro gb500 hg w16 hbox hb; have BK500 := am hbox; have GW500 := ge_ (w := w) hg; have GE500 := ge_ (w := w) hg; replace HB := am (below_step ab1 hb); clear hb hbox hg; obtain ⟨⟨_, _, _, _, _⟩, _, _, _, _, _⟩ := Op.cells5 BK500.out) | ((with_reducible refine gf_ 34 ?_); refine gc_ Try.func34 (laws_heldItemS.calls k _ _ l0_0 a1 t501 _ (sc_ HR0_0) HC0_0.out A3.out) ?_; rintro w18 hb; replace BK500 := bl_ BK500 hb; replace HB := am (below_step (ab2 GE500) hb); (try clear hb); (try clear hb2); (try clear hk); (try clear hi); obtain ⟨⟨_, _, _, _, _⟩, _, _, _, _, _⟩ := Op.cells5 BK500.out) | ((with_reducible refine gf_ 35 ?_); refine gc_ Try.func35 (laws_heldIntS.calls k _ _ l0_1 t501 t502 _ (sc_ HR0_1) HC0_1.out A8.out) ?_; rintro w' ⟨nd, rfl⟩) | ((with_reducible refine gf_ 35 ?_); refine gc_ Try.func35 (laws_heldIntS.calls k _ _ l0_2 t502 t503 _ ?side1 HC0_2.out A14.out) ?_; (case side1 => exact (by repeat (first | exact (Kd.C_below HR0_2.out (ab2 GE500)) | (with_reducible refine Kd.C_alloc ?_ _) | (with_reducible refine Kd.C_drewN ?_ _) | (with_reducible refine Kd.C_drew ?_)))); rintro w' ⟨nd, rfl⟩))
    go_ret
    exact ⟨ab7, ab2 GE500⟩
   ·obtain rfl := Option.some.inj H
    go_enter Try.func14, Try.ntmps14
    go_wp2_with (first | ((with_reducible refine gd_ 2 ?_); refine bx_ 2 (cs := #[.slice A0_0 l0_0.length c0_0, .slice A0_1 l0_1.length c0_1, .slice A0_2 l0_2.length c0_2, .int .i64 a0_3, .int .i64 a0_4]) 33 ?_; intro gb500 hg w20 hbox hb; have BK500 := am hbox; have GW500 := ge_ (w := w) hg; have GE500 := ge_ (w := w) hg; replace HB := am (below_step ab1 hb); clear hb hbox hg; obtain ⟨⟨_, _, _, _, _⟩, _, _, _, _, _⟩ := Op.cells5 BK500.out) | ((with_reducible refine gf_ 34 ?_); refine gc_ Try.func34 (laws_heldItemS.calls k _ _ l0_0 a1 t501 _ (sc_ HR0_0) HC0_0.out A3.out) ?_; rintro w22 hb; replace BK500 := bl_ BK500 hb; replace HB := am (below_step (ab2 GE500) hb); (try clear hb); (try clear hb2); (try clear hk); (try clear hi); obtain ⟨⟨_, _, _, _, _⟩, _, _, _, _, _⟩ := Op.cells5 BK500.out) | ((with_reducible refine gf_ 35 ?_); refine gc_ Try.func35 (laws_heldIntS.calls k _ _ l0_1 t501 t502 _ (sc_ HR0_1) HC0_1.out A8.out) ?_; rintro w' ⟨nd, rfl⟩) | ((with_reducible refine gf_ 35 ?_); refine gc_ Try.func35 (laws_heldIntS.calls k _ _ l0_2 t502 t503 _ ?side1 HC0_2.out A14.out) ?_; (case side1 => exact (by repeat (first | exact (Kd.C_below HR0_2.out (ab2 GE500)) | (with_reducible refine Kd.C_alloc ?_ _) | (with_reducible refine Kd.C_drewN ?_ _) | (with_reducible refine Kd.C_drew ?_)))); rintro w' ⟨nd, rfl⟩))
    go_ret
    exact ⟨ab7, ab2 GE500⟩
end Go.Proofs.Ytekkalnafngfeaa.P
