-- WRITTEN BY hprint.py
import Derived.Test.YthpdpnpojgegiaaGreatDoorPw0
import Derived.Test.YthpdpnpojgegiaaGreatDoorPw1
import Derived.Test.YthpdpnpojgegiaaGreatDoorPw10
import Derived.Test.YthpdpnpojgegiaaGreatDoorPw43
import Derived.Test.YthpdpnpojgegiaaGreatDoorPw45
import Derived.Test.YthpdpnpojgegiaaGreatDoorPw46
namespace Go.Proofs.YthpdpnpojgegiaaGreatDoor.P
open Go.RowKit Go.Proofs.YthpdpnpojgegiaaGreatDoorW.PrintWords Go.Proofs.YthpdpnpojgegiaaGreatDoorW.PrintLast Go.Proofs.YthpdpnpojgegiaaGreatDoorW.PrintMore
attribute [local go_sem] max2_int min2_int max_two min_two max_three min_three max_four min_four
set_option linter.unusedVariables false
set_option linter.unusedSimpArgs false
set_option maxHeartbeats 8000000
set_option maxRecDepth 100000
theorem z47_0 {q0 p : Prop} (g0 : Aside0 q0) (h : Aside0 q0 → p := by intro g0_; repeat (first | exact (Kd.R_reads' g0_.out).2.2 | (with_reducible refine Kd.C_alloc ?_ _) | (with_reducible refine Kd.C_drewN ?_ _) | (with_reducible refine Kd.C_drew ?_))) : p := h g0

/-! ### laws_FnExactWrite: function 4 -/
def laws_FnExactWrite.f (k : Nat) (l0 : List (S25)) : Option (Bool) := (laws_szElS.f k l0 1048576).bind fun t481 => (if t481 < 0 then (some true) else ((laws_toElS.f k l0).bind fun t482 => ((spec_Write.f k t482).bind fun t485 => ((laws_toElS.f k l0).bind fun t486 => ((impl_Write.f k t486).bind fun t489 => (if t489.toList = t485.toList then ((laws_toElS.f k l0).bind fun t490 => ((laws_eqElS.f k t486 t490).bind fun t493 => (if t493 = true then (some true) else (some false)))) else (some false)))))))
theorem laws_FnExactWrite.mono : ∀ a0 k, LeO (laws_FnExactWrite.f k a0) (laws_FnExactWrite.f (k + 1) a0) := by
 intro a0 k
 unfold laws_FnExactWrite.f
 repeat' with_reducible first | exact impl_Write.mono _ _ | exact laws_eqElS.mono _ _ _ | exact laws_szElS.mono _ _ _ | exact laws_toElS.mono _ _ | exact spec_Write.mono _ _ | exact LeO.refl _ | exact LeO.none _ | refine LeO.ite ?_ ?_ | refine LeO.bind ?_ fun _ => ?_
theorem laws_FnExactWrite.calls (k : Nat) (A0 : Option Addr) (c0 : Nat) (l0 : List (S25)) (w : World) (hr0 : Kd.C k25 w A0 l0.length l0) (hc0 : l0.length ≤ c0) (M_ : Int) (hm_ : w.cell? ⟨0, 0, none⟩ = some (.int .i64 M_)) (h : laws_FnExactWrite.f k l0 = some true) :
  Calls Tryz.prog 4 #[.slice A0 l0.length c0] w fun e w' => e = .returned (.bool true) ∧ Below w.heap.size w w' := by
 have HR0 := am hr0
 have HC0 := am hc0
 clear hr0 hc0
 have HB := am (Below.refl w.heap.size w)
 have HM_ := am hm_
 clear hm_
 have H : ((laws_szElS.f k l0 1048576).bind fun t481 => (if t481 < 0 then (some true) else ((laws_toElS.f k l0).bind fun t482 => ((spec_Write.f k t482).bind fun t485 => ((laws_toElS.f k l0).bind fun t486 => ((impl_Write.f k t486).bind fun t489 => (if t489.toList = t485.toList then ((laws_toElS.f k l0).bind fun t490 => ((laws_eqElS.f k t486 t490).bind fun t493 => (if t493 = true then (some true) else (some false)))) else (some false)))))))) = some true := h
 clear h
 replace H := bi_ H; obtain ⟨t481, A2, H⟩ := H
 replace H := ir_ H; rcases H with ⟨c3b0, H⟩ | ⟨c3b0, H⟩
 ·clear H
  go_enter Tryz.func4, Tryz.ntmps4
  go_wp2_with (first | ((with_reducible refine gate_callee (f := 10) rfl ?_); refine goesL_ (some 9) rfl rfl Tryz.func10 (by kernel_rfl) rfl #[.slice A0 l0.length c0, .int .i64 1048576] rfl ab5 ?_; (with_reducible refine (laws_szElS.calls k _ _ l0 1048576 t481 _ ?side1 HC0.out A2.out).mono ?_); (case side1 => exact (by repeat (first | exact HR0.out | (with_reducible refine Kd.C_alloc ?_ _) | (with_reducible refine Kd.C_drewN ?_ _) | (with_reducible refine Kd.C_drew ?_)))); rintro e w4 ⟨rfl, hb⟩; refine ⟨_, rfl, ?_⟩; replace HB := am (below_step ab1 hb); (try clear hb); (try clear hb2); (try clear hk); (try clear hi)))
  go_ret
  exact ⟨ab7, ab1⟩
 ·replace H := bi_ H; obtain ⟨t482, A5, H⟩ := H
  replace H := bi_ H; obtain ⟨t485, A6, H⟩ := H
  replace H := bi_ H; obtain ⟨t486, A7, H⟩ := H
  replace H := bi_ H; obtain ⟨t489, A8, H⟩ := H
  replace H := ie_ H; rcases H with ⟨c9b0, c9b1, H⟩ | ⟨c9, c9b0, c9b1, H⟩
  ·replace H := bi_ H; obtain ⟨t490, A10, H⟩ := H
   replace H := bi_ H; obtain ⟨t493, A11, H⟩ := H
   by_cases c12 : t493 = true
   ·subst c12
    have H1 : (some true) = some true := by rw [if_pos rfl] at H; first | exact H | done
    clear H
    have H := H1
    clear H1
    clear H
    go_enter Tryz.func4, Tryz.ntmps4
    go_wp2_with (first | ((with_reducible refine gate_callee (f := 10) rfl ?_); refine goesL_ (some 9) rfl rfl Tryz.func10 (by kernel_rfl) rfl #[.slice A0 l0.length c0, .int .i64 1048576] rfl ab5 ?_; (with_reducible refine (laws_szElS.calls k _ _ l0 1048576 t481 _ ?side1 HC0.out A2.out).mono ?_); (case side1 => exact (by repeat (first | exact HR0.out | (with_reducible refine Kd.C_alloc ?_ _) | (with_reducible refine Kd.C_drewN ?_ _) | (with_reducible refine Kd.C_drew ?_)))); rintro e w13 ⟨rfl, hb⟩; refine ⟨_, rfl, ?_⟩; replace HB := am (below_step ab1 hb); (try clear hb); (try clear hb2); (try clear hk); (try clear hi)) | ((with_reducible refine gate_callee (f := 12) rfl ?_); refine goesL_ (some 13) rfl rfl Tryz.func12 (by kernel_rfl) rfl #[.slice A0 l0.length c0] rfl ab5 ?_; (with_reducible refine (laws_toElS.calls k _ _ l0 t482 _ (sc_ HR0) HC0.out A5.out).mono ?_); rintro e w14 ⟨v483, rfl, ho0, hb⟩; refine ⟨_, rfl, ?_⟩; have HO484 := am (Kd.R_lower ho0 (below_size ab1)); replace HB := am (below_step ab1 hb); (try clear hb); (try clear hb2); (try clear hk); (try clear hi); (try clear ho0); obtain ⟨Ao15, co15, eo15⟩ := Kd.R_slice HO484.out; subst eo15) | ((with_reducible refine gate_callee (f := 11) rfl ?_); refine goesL_ (some 14) rfl rfl Tryz.func11 (by kernel_rfl) rfl #[.slice Ao15 t482.length co15] rfl ab5 ?_; (with_reducible refine (spec_Write.calls k _ _ t482 t485 _ ?side1 ((Kd.R_reads' HO484.out).2.1) A6.out).mono ?_); (case side1 => exact (z47_0 HO484)); rintro e w16 ⟨rfl, hb⟩; refine ⟨_, rfl, ?_⟩; replace HO484 := am (Kd.R_below (ab8 HO484) hb); replace HB := am (below_step ab1 hb); (try clear hb); (try clear hb2); (try clear hk); (try clear hi)) | ((with_reducible refine gate_callee (f := 12) rfl ?_); refine goesL_ (some 16) rfl rfl Tryz.func12 (by kernel_rfl) rfl #[.slice A0 l0.length c0] rfl ab5 ?_; (with_reducible refine (laws_toElS.calls k _ _ l0 t486 _ (sc_ HR0) HC0.out A7.out).mono ?_); rintro e w17 ⟨v487, rfl, ho0, hb⟩; refine ⟨_, rfl, ?_⟩; have HO488 := am (Kd.R_lower (Kd.R_new' ho0 (Kd.R_lt (ab8 HO484))) (below_size ab1)); replace HO484 := am (Kd.R_elder' (ab8 HO484) (Kd.R_base ho0) hb); replace HB := am (below_step ab1 hb); (try clear hb); (try clear hb2); (try clear hk); (try clear hi); (try clear ho0); obtain ⟨Ao18, co18, eo18⟩ := Kd.R_slice HO488.out; subst eo18) | ((with_reducible refine gate_callee (f := 13) rfl ?_); refine goesL_ (some 18) rfl rfl Tryz.func13 (by kernel_rfl) rfl #[.slice Ao18 t486.length co18] rfl ab5 ?_; (with_reducible refine (impl_Write.calls k _ _ t486 t489 _ ?side1 ((Kd.R_reads' HO488.out).2.1) M_ (pw_cell_below ab1 HM_.out) A8.out).mono ?_); (case side1 => exact (z47_0 HO488)); rintro e w19 ⟨rfl, hb⟩; refine ⟨_, rfl, ?_⟩; replace HO484 := am (Kd.R_below (ab8 HO484) hb); replace HO488 := am (Kd.R_below (ab8 HO488) hb); replace HB := am (below_step ab1 hb); (try clear hb); (try clear hb2); (try clear hk); (try clear hi)) | ((with_reducible refine gate_callee (f := 12) rfl ?_); refine goesL_ (some 24) rfl rfl Tryz.func12 (by kernel_rfl) rfl #[.slice A0 l0.length c0] rfl ab5 ?_; (with_reducible refine (laws_toElS.calls k _ _ l0 t490 _ (sc_ HR0) HC0.out A10.out).mono ?_); rintro e w20 ⟨v491, rfl, ho0, hb⟩; refine ⟨_, rfl, ?_⟩; have HO492 := am (Kd.R_lower (Kd.R_new' (Kd.R_new' ho0 (Kd.R_lt (ab8 HO484))) (Kd.R_lt (ab8 HO488))) (below_size ab1)); replace HO484 := am (Kd.R_elder' (ab8 HO484) (Kd.R_base ho0) hb); replace HO488 := am (Kd.R_elder' (ab8 HO488) (Kd.R_base ho0) hb); replace HB := am (below_step ab1 hb); (try clear hb); (try clear hb2); (try clear hk); (try clear hi); (try clear ho0); obtain ⟨Ao21, co21, eo21⟩ := Kd.R_slice HO492.out; subst eo21) | ((with_reducible refine gate_callee (f := 14) rfl ?_); refine goesL_ (some 25) rfl rfl Tryz.func14 (by kernel_rfl) rfl #[.slice Ao18 t486.length co18, .slice Ao21 t490.length co21] rfl ab5 ?_; (with_reducible refine (laws_eqElS.calls k _ _ t486 _ _ t490 true _ ?side1 ((Kd.R_reads' HO488.out).2.1) ?side3 ((Kd.R_reads' HO492.out).2.1) A11.out).mono ?_); (case side1 => exact (z47_0 HO488)); (case side3 => exact (z47_0 HO492)); rintro e w22 ⟨rfl, hb⟩; refine ⟨_, rfl, ?_⟩; replace HO484 := am (Kd.R_below (ab8 HO484) hb); replace HO488 := am (Kd.R_below (ab8 HO488) hb); replace HO492 := am (Kd.R_below (ab8 HO492) hb); replace HB := am (below_step ab1 hb); (try clear hb); (try clear hb2); (try clear hk); (try clear hi)))
    go_ret
    exact ⟨ab7, ab1⟩
   ·replace c12 := Bool.eq_false_iff.mpr c12
    subst c12
    have H1 : (some false) = some true := by replace H := jf_ H; first | exact H | done
    clear H
    have H := H1
    clear H1
    exact absurd H (by simp)
  ·exact absurd H (by simp)

/-- THE ONE PURE STATEMENT of laws_FnExactWrite. -/
def laws_FnExactWrite.Pure : Prop := ∀ (n0 : Nat) (l0 : List (S25)), (l0.length ≤ maxLen ∧ (∀ y_ ∈ l0, G25 maxLen n0 y_)) → ∃ k, laws_FnExactWrite.f k l0 = some true

end Go.Proofs.YthpdpnpojgegiaaGreatDoor.P
