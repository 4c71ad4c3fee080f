-- WRITTEN BY hprint.py, this session's own program, over the kit's printer: not typed by hand; Lean checks it
import Derived.Test.YtfjheckgigppiaaPg0
import Derived.Test.YtfjheckgigppiaaPg1
import Derived.Test.YtfjheckgigppiaaPg2
import Derived.Test.YtfjheckgigppiaaPg3
import Derived.Test.YtfjheckgigppiaaPg6
import Derived.Test.YtfjheckgigppiaaPg11
import Derived.Test.YtfjheckgigppiaaPg12
import Derived.Test.YtfjheckgigppiaaPg13
namespace Go.Proofs.Ytfjheckgigppiaa.P
open Go.RowKit Go.Proofs.YtfjheckgigppiaaW.PrintWords Go.Proofs.YtfjheckgigppiaaW.PrintLast Go.Proofs.YtfjheckgigppiaaW.PrintMore
attribute [local go_sem] max2_int min2_int max_two min_two max_three min_three max_four min_four   -- for this text's walks alone
set_option linter.unusedVariables false
set_option linter.unusedSimpArgs false

/-! ### laws_heldIntS: function 31 -/
def laws_heldIntS.l0 : Nat → List Int → Int → Int → Option (Int)
 | 0, _, _, _ => none
 | k + 1, x0, x1, x5 => if x5 < (x0.length : Int) then (if 0 ≤ x5 then (if (rd x0 x5) = x1 then (laws_heldIntS.l0 k x0 (wrap64 (x1 + 1)) (wrap64 (x5 + 1))) else (some (-1))) else (none)) else (some x1)
def laws_heldIntS.f (k : Nat) (l0 : List Int) (a1 : Int) : Option (Int) := laws_heldIntS.l0 k l0 a1 0
theorem laws_heldIntS.mono_l : ∀ k, (∀ y0 y1 y2, LeO (laws_heldIntS.l0 k y0 y1 y2) (laws_heldIntS.l0 (k + 1) y0 y1 y2))
 | 0 => fun _ _ _ r h => by simp [laws_heldIntS.l0] at h
 | k + 1 => by
  have ih0 := laws_heldIntS.mono_l k
  ·intro y0 y1 y2
   unfold laws_heldIntS.l0
   repeat' first
   | (with_reducible exact ih0 _ _ _)
   | (with_reducible exact LeO.refl _)
   | (with_reducible exact LeO.none _)
   | (with_reducible refine LeO.ite ?_ ?_)
   | (with_reducible refine LeO.bind ?_ (fun _ => ?_))
theorem laws_heldIntS.mono : ∀ a0 a1 k, LeO (laws_heldIntS.f k a0 a1) (laws_heldIntS.f (k + 1) a0 a1) := by
 intro a0 a1 k
 have ih0 := laws_heldIntS.mono_l k
 unfold laws_heldIntS.f
 repeat' first
   | (with_reducible exact ih0 _ _ _)
   | (with_reducible exact LeO.refl _)
   | (with_reducible exact LeO.none _)
   | (with_reducible refine LeO.ite ?_ ?_)
   | (with_reducible refine LeO.bind ?_ (fun _ => ?_))
set_option maxHeartbeats 8000000 in
set_option maxRecDepth 100000 in
theorem laws_heldIntS.calls (k : Nat) (A0 : Option Addr) (c0 : Nat) (l0 : List Int) (a1 : Int) (r : Int) (w : World) (hr0 : Kd.C (Kd.int .i64) w A0 l0.length l0) (hc0 : l0.length ≤ c0) (h : laws_heldIntS.f k l0 a1 = some r) :
  Calls Try.prog 31 #[.slice A0 l0.length c0, .int .i64 a1] w fun e w' => e = .returned (.int .i64 r) ∧ Drawn0 w w' := by
 have HR0 := Aside0.mk hr0
 have HC0 := Aside0.mk hc0
 clear hr0 hc0
 have H : (laws_heldIntS.l0 k l0 a1 0) = some r := h
 clear h
 have H' := Aside0.mk H
 clear H
 go_enter Try.func31, Try.ntmps31
 go_wp2
 go_loopg [1, 5] k (fun kq v1 v5 w' => ∃ (x1_1 : Int) (x5_1 : Int), v1 = .int .i64 x1_1 ∧ v5 = .int .i64 x5_1 ∧ Aside0 (laws_heldIntS.l0 kq l0 x1_1 x5_1 = some r) ∧ Aside0 (kq ≤ k) ∧ Drawn0 w w')
 case atStart => exact ⟨(a1), (0), ab6, ab6, H', ⟨Nat.le_refl _⟩, by repeat (first | exact Drawn0.refl _ | apply Drawn0.step)⟩
 case round =>
  clear H'
  try clear p2
  obtain ⟨x1_1, x5_1, rfl, rfl, HA, HK1, ⟨m1, rfl⟩⟩ := hrel
  cases gk with
  | zero => exact absurd HA.out (by simp [laws_heldIntS.l0])
  | succ k1 =>
   have H := HA.out
   clear HA
   simp only [laws_heldIntS.l0] at H
   by_cases c3 : x5_1 < (l0.length : Int)
   ·rw [if_pos c3] at H
    have c3b0 := decide_eq_true c3
    clear c3
    by_cases c4 : 0 ≤ x5_1
    case neg => rw [if_neg c4] at H; exact absurd H (by simp)
    rw [if_pos c4] at H
    have c4b0 := decide_eq_true c4
    clear c4
    by_cases c5 : (rd l0 x5_1) = x1_1
    ·rw [if_pos c5] at H
     have c5b0 : ((rd l0 x5_1) == x1_1) = true := beq_iff_eq.mpr c5
     have c5b1 : ((rd l0 x5_1) != x1_1) = false := bne_eq_false_iff_eq.mpr c5
     clear c5
     have H' := Aside0.mk H
     clear H
     have p306 : 0 ≤ (x5_1 : Int) := of_decide_eq_true ab4
     have q306 : x5_1 < (l0.length : Int) := of_decide_eq_true ab4
     obtain ⟨ad306, e306, hx306_0⟩ := Kd.at_int HR0.out x5_1 p306 q306
     cases e306
     replace p306 := eq_true p306
     replace q306 := eq_true q306
     go_wp2
     go_roundg k1
     case measure => have := HK1.out; omega
     case rel => exact ⟨(wrap64 (x1_1 + 1)), (wrap64 (x5_1 + 1)), ab6, ab6, H', ⟨by have := HK1.out; omega⟩, by repeat (first | exact Drawn0.refl _ | apply Drawn0.step)⟩
    ·rw [if_neg c5] at H
     have c5b0 : ((rd l0 x5_1) == x1_1) = false := beq_eq_false_iff_ne.mpr c5
     have c5b1 : ((rd l0 x5_1) != x1_1) = true := bne_iff_ne.mpr c5
     obtain rfl := Option.some.inj H
     have p306 : 0 ≤ (x5_1 : Int) := of_decide_eq_true ab4
     have q306 : x5_1 < (l0.length : Int) := of_decide_eq_true ab4
     obtain ⟨ad306, e306, hx306_0⟩ := Kd.at_int HR0.out x5_1 p306 q306
     cases e306
     replace p306 := eq_true p306
     replace q306 := eq_true q306
     go_wp2
     go_ret
     exact ⟨ab6, by repeat (first | exact Drawn0.refl _ | apply Drawn0.step)⟩
   ·rw [if_neg c3] at H
    have c3b0 := decide_eq_false c3
    clear c3
    obtain rfl := Option.some.inj H
    go_wp2
    go_ret
    exact ⟨ab6, by repeat (first | exact Drawn0.refl _ | apply Drawn0.step)⟩

/-! ### laws_FnExactTags: function 7 -/
def laws_FnExactTags.j0 : Nat → List (S66) → ByteArray → List Int → List Int → Bool → Option (Bool)
 | 0, _, _, _, _, _ => none
 | k + 1, x0, x1, x6, x8, x49 => if x49 = true then (some false) else ((laws_markIntS.f k x8 1).bind fun bt327 => ((laws_heldIntS.f k bt327.2 1).bind fun t329 => (if t329 < 0 then (some false) else (if t329 = bt327.1 then ((laws_toItemS.f k x0).bind fun t330 => ((impl_Tags.f k t330 x1).bind fun t333 => ((laws_eqIntS.f k t333 x6).bind fun t336 => (if t336 = true then ((laws_heldIntS.f k bt327.2 1).bind fun t337 => (if t337 < 0 then (some false) else (if t337 = bt327.1 then (some true) else (some false)))) else (some false))))) else (some false)))))
def laws_FnExactTags.f (k : Nat) (l0 : List (S66)) (a1 : ByteArray) : Option (Bool) := if (a1.size : Int) > 1048576 then (some true) else ((laws_szItemS.f k l0 1048576).bind fun t307 => (if t307 < 0 then (some true) else ((laws_toItemS.f k l0).bind fun t308 => ((spec_Tags.f k t308 a1).bind fun t311 => ((laws_toItemS.f k l0).bind fun t314 => ((impl_Tags.f k t314 a1).bind fun t317 => ((laws_eqIntS.f k t317 t311).bind fun t320 => (if t320 = true then ((laws_toItemS.f k l0).bind fun t321 => ((laws_eqItemS.f k t314 t321).bind fun t324 => (if t324 = true then ((laws_markItemS.f k t314 1).bind fun t325 => (if t325 < 0 then (laws_FnExactTags.j0 k l0 a1 t311 t317 true) else ((laws_eqIntS.f k t317 t311).bind fun t326 => (laws_FnExactTags.j0 k l0 a1 t311 t317 (!t326))))) else (some false)))) else (some false)))))))))
theorem laws_FnExactTags.mono_l : ∀ k, (∀ y0 y1 y2 y3 y4, LeO (laws_FnExactTags.j0 k y0 y1 y2 y3 y4) (laws_FnExactTags.j0 (k + 1) y0 y1 y2 y3 y4))
 | 0 => fun _ _ _ _ _ r h => by simp [laws_FnExactTags.j0] at h
 | k + 1 => by
  have ih0 := laws_FnExactTags.mono_l k
  ·intro y0 y1 y2 y3 y4
   unfold laws_FnExactTags.j0
   repeat' first
   | (with_reducible exact ih0 _ _ _ _ _)
   | (with_reducible exact impl_Tags.mono _ _ _)
   | (with_reducible exact laws_eqIntS.mono _ _ _)
   | (with_reducible exact laws_eqItemS.mono _ _ _)
   | (with_reducible exact laws_heldIntS.mono _ _ _)
   | (with_reducible exact laws_markIntS.mono _ _ _)
   | (with_reducible exact laws_markItemS.mono _ _ _)
   | (with_reducible exact laws_szItemS.mono _ _ _)
   | (with_reducible exact laws_toItemS.mono _ _)
   | (with_reducible exact spec_Tags.mono _ _ _)
   | (with_reducible exact LeO.refl _)
   | (with_reducible exact LeO.none _)
   | (with_reducible refine LeO.ite ?_ ?_)
   | (with_reducible refine LeO.bind ?_ (fun _ => ?_))
theorem laws_FnExactTags.mono : ∀ a0 a1 k, LeO (laws_FnExactTags.f k a0 a1) (laws_FnExactTags.f (k + 1) a0 a1) := by
 intro a0 a1 k
 have ih0 := laws_FnExactTags.mono_l k
 unfold laws_FnExactTags.f
 repeat' first
   | (with_reducible exact ih0 _ _ _ _ _)
   | (with_reducible exact impl_Tags.mono _ _ _)
   | (with_reducible exact laws_eqIntS.mono _ _ _)
   | (with_reducible exact laws_eqItemS.mono _ _ _)
   | (with_reducible exact laws_heldIntS.mono _ _ _)
   | (with_reducible exact laws_markIntS.mono _ _ _)
   | (with_reducible exact laws_markItemS.mono _ _ _)
   | (with_reducible exact laws_szItemS.mono _ _ _)
   | (with_reducible exact laws_toItemS.mono _ _)
   | (with_reducible exact spec_Tags.mono _ _ _)
   | (with_reducible exact LeO.refl _)
   | (with_reducible exact LeO.none _)
   | (with_reducible refine LeO.ite ?_ ?_)
   | (with_reducible refine LeO.bind ?_ (fun _ => ?_))
set_option maxHeartbeats 8000000 in
set_option maxRecDepth 100000 in
theorem laws_FnExactTags.calls (k : Nat) (A0 : Option Addr) (c0 : Nat) (l0 : List (S66)) (a1 : ByteArray) (w : World) (hr0 : Kd.C k66 w A0 l0.length l0) (hc0 : l0.length ≤ c0) (h : laws_FnExactTags.f k l0 a1 = some true) :
  Calls Try.prog 7 #[.slice A0 l0.length c0, .string a1] w fun e w' => e = .returned (.bool true) ∧ Below w.heap.size w w' := by
 have HR0 := Aside0.mk hr0
 have HC0 := Aside0.mk hc0
 clear hr0 hc0
 have HB := Aside0.mk (Below.refl w.heap.size w)
 have H : (if (a1.size : Int) > 1048576 then (some true) else ((laws_szItemS.f k l0 1048576).bind fun t307 => (if t307 < 0 then (some true) else ((laws_toItemS.f k l0).bind fun t308 => ((spec_Tags.f k t308 a1).bind fun t311 => ((laws_toItemS.f k l0).bind fun t314 => ((impl_Tags.f k t314 a1).bind fun t317 => ((laws_eqIntS.f k t317 t311).bind fun t320 => (if t320 = true then ((laws_toItemS.f k l0).bind fun t321 => ((laws_eqItemS.f k t314 t321).bind fun t324 => (if t324 = true then ((laws_markItemS.f k t314 1).bind fun t325 => (if t325 < 0 then (laws_FnExactTags.j0 k l0 a1 t311 t317 true) else ((laws_eqIntS.f k t317 t311).bind fun t326 => (laws_FnExactTags.j0 k l0 a1 t311 t317 (!t326))))) else (some false)))) else (some false)))))))))) = some true := h
 clear h
 by_cases c3 : (a1.size : Int) > 1048576
 ·rw [if_pos c3] at H
  have c3b0 : decide (1048576 < (a1.size : Int)) = true := decide_eq_true c3
  have c3b1 : decide (1048576 < a1.size) = true := decide_eq_true (by omega)
  clear c3
  clear H
  go_enter Try.func7, Try.ntmps7
  go_wp2
  go_ret
  exact ⟨ab7, ab1⟩
 ·rw [if_neg c3] at H
  have c3b0 : decide (1048576 < (a1.size : Int)) = false := decide_eq_false c3
  have c3b1 : decide (1048576 < a1.size) = false := decide_eq_false (by omega)
  clear c3
  replace H := Option.bind_eq_some_iff.mp H
  obtain ⟨t307, A40, H⟩ := H
  try dsimp only at H
  have A4 := Aside0.mk A40
  clear A40
  by_cases c5 : t307 < 0
  ·rw [if_pos c5] at H
   have c5b0 := decide_eq_true c5
   clear c5
   clear H
   go_enter Try.func7, Try.ntmps7
   go_wp2_with (first | ((with_reducible refine gate_callee (f := 19) rfl ?_); refine goesL_ (some 18) rfl rfl Try.func19 (by kernel_rfl) rfl #[.slice A0 l0.length c0, .int .i64 1048576] rfl ab5 ?_; (with_reducible refine (laws_szItemS.calls k _ _ l0 1048576 t307 _ ?side1 ?side2 A4.out).mono ?_); (case side1 => repeat (first | exact HR0.out | (with_reducible refine Kd.C_alloc ?_ _) | (with_reducible refine Kd.C_drewN ?_ _) | (with_reducible refine Kd.C_drew ?_))); (case side2 => exact HC0.out); rintro e w6 ⟨rfl, hb⟩; refine ⟨_, rfl, ?_⟩; have n0_ := Aside0.mk (below_step ab1 hb); clear HB; have HB := n0_; clear n0_; (try clear hb); (try clear hb2); (try clear hk); (try clear hi)))
   go_ret
   exact ⟨ab7, ab1⟩
  ·rw [if_neg c5] at H
   have c5b0 := decide_eq_false c5
   clear c5
   replace H := Option.bind_eq_some_iff.mp H
   obtain ⟨t308, A70, H⟩ := H
   try dsimp only at H
   have A7 := Aside0.mk A70
   clear A70
   replace H := Option.bind_eq_some_iff.mp H
   obtain ⟨t311, A80, H⟩ := H
   try dsimp only at H
   have A8 := Aside0.mk A80
   clear A80
   replace H := Option.bind_eq_some_iff.mp H
   obtain ⟨t314, A90, H⟩ := H
   try dsimp only at H
   have A9 := Aside0.mk A90
   clear A90
   replace H := Option.bind_eq_some_iff.mp H
   obtain ⟨t317, A100, H⟩ := H
   try dsimp only at H
   have A10 := Aside0.mk A100
   clear A100
   replace H := Option.bind_eq_some_iff.mp H
   obtain ⟨t320, A110, H⟩ := H
   try dsimp only at H
   have A11 := Aside0.mk A110
   clear A110
   by_cases c12 : t320 = true
   ·subst c12
    have H1 : ((laws_toItemS.f k l0).bind fun t321 => ((laws_eqItemS.f k t314 t321).bind fun t324 => (if t324 = true then ((laws_markItemS.f k t314 1).bind fun t325 => (if t325 < 0 then (laws_FnExactTags.j0 k l0 a1 t311 t317 true) else ((laws_eqIntS.f k t317 t311).bind fun t326 => (laws_FnExactTags.j0 k l0 a1 t311 t317 (!t326))))) else (some false)))) = some true := by rw [if_pos rfl] at H; first | exact H | done
    clear H
    have H := H1
    clear H1
    replace H := Option.bind_eq_some_iff.mp H
    obtain ⟨t321, A130, H⟩ := H
    try dsimp only at H
    have A13 := Aside0.mk A130
    clear A130
    replace H := Option.bind_eq_some_iff.mp H
    obtain ⟨t324, A140, H⟩ := H
    try dsimp only at H
    have A14 := Aside0.mk A140
    clear A140
    by_cases c15 : t324 = true
    ·subst c15
     have H1 : ((laws_markItemS.f k t314 1).bind fun t325 => (if t325 < 0 then (laws_FnExactTags.j0 k l0 a1 t311 t317 true) else ((laws_eqIntS.f k t317 t311).bind fun t326 => (laws_FnExactTags.j0 k l0 a1 t311 t317 (!t326))))) = some true := by rw [if_pos rfl] at H; first | exact H | done
     clear H
     have H := H1
     clear H1
     replace H := Option.bind_eq_some_iff.mp H
     obtain ⟨t325, A160, H⟩ := H
     try dsimp only at H
     have A16 := Aside0.mk A160
     clear A160
     have HC17 := Aside0.mk H
     clear H
     go_enter Try.func7, Try.ntmps7
     go_upto_region 16 with (first | ((with_reducible refine gate_callee (f := 19) rfl ?_); refine goesL_ (some 18) rfl rfl Try.func19 (by kernel_rfl) rfl #[.slice A0 l0.length c0, .int .i64 1048576] rfl ab5 ?_; (with_reducible refine (laws_szItemS.calls k _ _ l0 1048576 t307 _ ?side1 ?side2 A4.out).mono ?_); (case side1 => repeat (first | exact HR0.out | (with_reducible refine Kd.C_alloc ?_ _) | (with_reducible refine Kd.C_drewN ?_ _) | (with_reducible refine Kd.C_drew ?_))); (case side2 => exact HC0.out); rintro e w18 ⟨rfl, hb⟩; refine ⟨_, rfl, ?_⟩; have n0_ := Aside0.mk (below_step ab1 hb); clear HB; have HB := n0_; clear n0_; (try clear hb); (try clear hb2); (try clear hk); (try clear hi)) | ((with_reducible refine gate_callee (f := 21) rfl ?_); refine goesL_ (some 22) rfl rfl Try.func21 (by kernel_rfl) rfl #[.slice A0 l0.length c0] rfl ab5 ?_; (with_reducible refine (laws_toItemS.calls k _ _ l0 t308 _ ?side1 ?side2 A7.out).mono ?_); (case side1 => repeat (first | exact (Kd.C_below HR0.out HB.out) | (with_reducible refine Kd.C_alloc ?_ _) | (with_reducible refine Kd.C_drewN ?_ _) | (with_reducible refine Kd.C_drew ?_))); (case side2 => exact HC0.out); rintro e w19 ⟨v309, rfl, ho0, hb⟩; refine ⟨_, rfl, ?_⟩; obtain ⟨lo310, hi310, ho1_, hlo_, hhi_⟩ := S_in ho0; clear ho0; have ho0 := ho1_; clear ho1_; have HH310 := Aside0.mk hhi_; clear hlo_ hhi_; have HB310 := Aside0.mk (Below.refl w19.heap.size w19); have n0_ := Aside0.mk (Kd.S_lower ho0 (below_size ab1)); have n1_ := Aside0.mk (below_step ab1 hb); clear HB; have HO310 := n0_; have HB := n1_; clear n0_ n1_; (try clear hb); (try clear hb2); (try clear hk); (try clear hi); (try clear ho0); obtain ⟨Ao20, co20, eo20⟩ := Kd.S_slice HO310.out; subst eo20) | ((with_reducible refine gate_callee (f := 26) rfl ?_); refine goesL_ (some 24) rfl rfl Try.func26 (by kernel_rfl) rfl #[.slice Ao20 t308.length co20, .string a1] rfl ab5 ?_; (with_reducible refine (spec_Tags.calls k _ _ t308 a1 t311 _ ?side1 ?side2 A8.out).mono ?_); (case side1 => repeat (first | exact (Kd.S_reads' HO310.out).2.2 | (with_reducible refine Kd.C_alloc ?_ _) | (with_reducible refine Kd.C_drewN ?_ _) | (with_reducible refine Kd.C_drew ?_))); (case side2 => exact (Kd.S_reads' HO310.out).2.1); rintro e w21 ⟨v312, rfl, ho0, hb⟩; refine ⟨_, rfl, ?_⟩; obtain ⟨lo313, hi313, ho1_, hlo_, hhi_⟩ := R_in ho0; clear ho0; have ho0 := ho1_; clear ho1_; have HQ310_313 := Aside0.mk (Nat.le_trans HH310.out (Nat.le_trans (below_size (by repeat (first | (with_reducible first | exact HB310.out | apply below_alloc | apply pw_below_drewN | apply below_drew1) | exact HB310.out))) hlo_)); have HH313 := Aside0.mk hhi_; clear hlo_ hhi_; have nb_ := Aside0.mk (below_step (by repeat (first | (with_reducible first | exact HB310.out | apply below_alloc | apply pw_below_drewN | apply below_drew1) | exact HB310.out)) hb); clear HB310; have HB310 := nb_; clear nb_; have HB313 := Aside0.mk (Below.refl w21.heap.size w21); have n0_ := Aside0.mk (Kd.S_elder' (by (with_reducible repeat (first | apply Kd.S_alloc | apply Kd.S_drewN | apply Kd.S_drew)); exact HO310.out) (Kd.R_base ho0) hb); have n1_ := Aside0.mk (Kd.R_lower ho0 (below_size ab1)); have n2_ := Aside0.mk (below_step ab1 hb); clear HO310; clear HB; have HO310 := n0_; have HO313 := n1_; have HB := n2_; clear n0_ n1_ n2_; (try clear hb); (try clear hb2); (try clear hk); (try clear hi); (try clear ho0)) | ((with_reducible refine gate_callee (f := 21) rfl ?_); refine goesL_ (some 26) rfl rfl Try.func21 (by kernel_rfl) rfl #[.slice A0 l0.length c0] rfl ab5 ?_; (with_reducible refine (laws_toItemS.calls k _ _ l0 t314 _ ?side1 ?side2 A9.out).mono ?_); (case side1 => repeat (first | exact (Kd.C_below HR0.out HB.out) | (with_reducible refine Kd.C_alloc ?_ _) | (with_reducible refine Kd.C_drewN ?_ _) | (with_reducible refine Kd.C_drew ?_))); (case side2 => exact HC0.out); rintro e w22 ⟨v315, rfl, ho0, hb⟩; refine ⟨_, rfl, ?_⟩; obtain ⟨lo316, hi316, ho1_, hlo_, hhi_⟩ := S_in ho0; clear ho0; have ho0 := ho1_; clear ho1_; have HQ310_316 := Aside0.mk (Nat.le_trans HH310.out (Nat.le_trans (below_size (by repeat (first | (with_reducible first | exact HB310.out | apply below_alloc | apply pw_below_drewN | apply below_drew1) | exact HB310.out))) hlo_)); have HQ313_316 := Aside0.mk (Nat.le_trans HH313.out (Nat.le_trans (below_size (by repeat (first | (with_reducible first | exact HB313.out | apply below_alloc | apply pw_below_drewN | apply below_drew1) | exact HB313.out))) hlo_)); have HH316 := Aside0.mk hhi_; clear hlo_ hhi_; have nb_ := Aside0.mk (below_step (by repeat (first | (with_reducible first | exact HB310.out | apply below_alloc | apply pw_below_drewN | apply below_drew1) | exact HB310.out)) hb); clear HB310; have HB310 := nb_; clear nb_; have nb_ := Aside0.mk (below_step (by repeat (first | (with_reducible first | exact HB313.out | apply below_alloc | apply pw_below_drewN | apply below_drew1) | exact HB313.out)) hb); clear HB313; have HB313 := nb_; clear nb_; have HB316 := Aside0.mk (Below.refl w22.heap.size w22); have n0_ := Aside0.mk (Kd.S_elder' (by (with_reducible repeat (first | apply Kd.S_alloc | apply Kd.S_drewN | apply Kd.S_drew)); exact HO310.out) (Kd.S_base ho0) hb); have n1_ := Aside0.mk (Kd.R_below (ab8 HO313) hb); have n2_ := Aside0.mk (Kd.S_lower (Kd.S_new' (Kd.S_new' ho0 (Kd.S_lt (by (with_reducible repeat (first | apply Kd.S_alloc | apply Kd.S_drewN | apply Kd.S_drew)); exact HO310.out))) (Kd.R_lt (ab8 HO313))) (below_size ab1)); have n3_ := Aside0.mk (below_step ab1 hb); clear HO310; clear HO313; clear HB; have HO310 := n0_; have HO313 := n1_; have HO316 := n2_; have HB := n3_; clear n0_ n1_ n2_ n3_; (try clear hb); (try clear hb2); (try clear hk); (try clear hi); (try clear ho0); obtain ⟨Ao23, co23, eo23⟩ := Kd.S_slice HO316.out; subst eo23) | ((with_reducible refine gate_callee (f := 27) rfl ?_); refine goesL_ (some 29) rfl rfl Try.func27 (by kernel_rfl) rfl #[.slice Ao23 t314.length co23, .string a1] rfl ab5 ?_; (with_reducible refine (impl_Tags.calls k _ _ t314 a1 t317 _ ?side1 ?side2 A10.out).mono ?_); (case side1 => repeat (first | exact (Kd.S_reads' HO316.out).2.2 | (with_reducible refine Kd.C_alloc ?_ _) | (with_reducible refine Kd.C_drewN ?_ _) | (with_reducible refine Kd.C_drew ?_))); (case side2 => exact (Kd.S_reads' HO316.out).2.1); rintro e w24 ⟨v318, rfl, ho0, hb⟩; refine ⟨_, rfl, ?_⟩; obtain ⟨lo319, hi319, ho1_, hlo_, hhi_⟩ := R_in ho0; clear ho0; have ho0 := ho1_; clear ho1_; have HQ310_319 := Aside0.mk (Nat.le_trans HH310.out (Nat.le_trans (below_size (by repeat (first | (with_reducible first | exact HB310.out | apply below_alloc | apply pw_below_drewN | apply below_drew1) | exact HB310.out))) hlo_)); have HQ313_319 := Aside0.mk (Nat.le_trans HH313.out (Nat.le_trans (below_size (by repeat (first | (with_reducible first | exact HB313.out | apply below_alloc | apply pw_below_drewN | apply below_drew1) | exact HB313.out))) hlo_)); have HQ316_319 := Aside0.mk (Nat.le_trans HH316.out (Nat.le_trans (below_size (by repeat (first | (with_reducible first | exact HB316.out | apply below_alloc | apply pw_below_drewN | apply below_drew1) | exact HB316.out))) hlo_)); have HH319 := Aside0.mk hhi_; clear hlo_ hhi_; have nb_ := Aside0.mk (below_step (by repeat (first | (with_reducible first | exact HB310.out | apply below_alloc | apply pw_below_drewN | apply below_drew1) | exact HB310.out)) hb); clear HB310; have HB310 := nb_; clear nb_; have nb_ := Aside0.mk (below_step (by repeat (first | (with_reducible first | exact HB313.out | apply below_alloc | apply pw_below_drewN | apply below_drew1) | exact HB313.out)) hb); clear HB313; have HB313 := nb_; clear nb_; have nb_ := Aside0.mk (below_step (by repeat (first | (with_reducible first | exact HB316.out | apply below_alloc | apply pw_below_drewN | apply below_drew1) | exact HB316.out)) hb); clear HB316; have HB316 := nb_; clear nb_; have HB319 := Aside0.mk (Below.refl w24.heap.size w24); have n0_ := Aside0.mk (Kd.S_elder' (by (with_reducible repeat (first | apply Kd.S_alloc | apply Kd.S_drewN | apply Kd.S_drew)); exact HO310.out) (Kd.R_base ho0) hb); have n1_ := Aside0.mk (Kd.R_elder' (ab8 HO313) (Kd.R_base ho0) hb); have n2_ := Aside0.mk (Kd.S_elder' (by (with_reducible repeat (first | apply Kd.S_alloc | apply Kd.S_drewN | apply Kd.S_drew)); exact HO316.out) (Kd.R_base ho0) hb); have n3_ := Aside0.mk (Kd.R_lower (Kd.R_new' ho0 (Kd.R_lt (ab8 HO313))) (below_size ab1)); have n4_ := Aside0.mk (below_step ab1 hb); clear HO310; clear HO313; clear HO316; clear HB; have HO310 := n0_; have HO313 := n1_; have HO316 := n2_; have HO319 := n3_; have HB := n4_; clear n0_ n1_ n2_ n3_ n4_; (try clear hb); (try clear hb2); (try clear hk); (try clear hi); (try clear ho0); obtain ⟨Ao25, co25, eo25⟩ := Kd.R_slice HO319.out; subst eo25; obtain ⟨Ao26, co26, eo26⟩ := Kd.R_slice HO313.out; subst eo26) | ((with_reducible refine gate_callee (f := 28) rfl ?_); refine goesL_ (some 32) rfl rfl Try.func28 (by kernel_rfl) rfl #[.slice Ao25 t317.length co25, .slice Ao26 t311.length co26] rfl ab5 ?_; (with_reducible refine (laws_eqIntS.calls k _ _ t317 _ _ t311 true _ ?side1 ?side2 ?side3 ?side4 A11.out).mono ?_); (case side1 => repeat (first | exact (Kd.R_reads' HO319.out).2.2 | (with_reducible refine Kd.C_alloc ?_ _) | (with_reducible refine Kd.C_drewN ?_ _) | (with_reducible refine Kd.C_drew ?_))); (case side2 => exact (Kd.R_reads' HO319.out).2.1); (case side3 => repeat (first | exact (Kd.R_reads' HO313.out).2.2 | (with_reducible refine Kd.C_alloc ?_ _) | (with_reducible refine Kd.C_drewN ?_ _) | (with_reducible refine Kd.C_drew ?_))); (case side4 => exact (Kd.R_reads' HO313.out).2.1); rintro e w' ⟨rfl, ⟨nd, rfl⟩⟩; refine ⟨_, rfl, ?_⟩) | ((with_reducible refine gate_callee (f := 21) rfl ?_); refine goesL_ (some 36) rfl rfl Try.func21 (by kernel_rfl) rfl #[.slice A0 l0.length c0] rfl ab5 ?_; (with_reducible refine (laws_toItemS.calls k _ _ l0 t321 _ ?side1 ?side2 A13.out).mono ?_); (case side1 => repeat (first | exact (Kd.C_below HR0.out ab1) | (with_reducible refine Kd.C_alloc ?_ _) | (with_reducible refine Kd.C_drewN ?_ _) | (with_reducible refine Kd.C_drew ?_))); (case side2 => exact HC0.out); rintro e w27 ⟨v322, rfl, ho0, hb⟩; refine ⟨_, rfl, ?_⟩; obtain ⟨lo323, hi323, ho1_, hlo_, hhi_⟩ := S_in ho0; clear ho0; have ho0 := ho1_; clear ho1_; have HQ310_323 := Aside0.mk (Nat.le_trans HH310.out (Nat.le_trans (below_size (by repeat (first | (with_reducible first | exact HB310.out | apply below_alloc | apply pw_below_drewN | apply below_drew1) | exact HB310.out))) hlo_)); have HQ313_323 := Aside0.mk (Nat.le_trans HH313.out (Nat.le_trans (below_size (by repeat (first | (with_reducible first | exact HB313.out | apply below_alloc | apply pw_below_drewN | apply below_drew1) | exact HB313.out))) hlo_)); have HQ316_323 := Aside0.mk (Nat.le_trans HH316.out (Nat.le_trans (below_size (by repeat (first | (with_reducible first | exact HB316.out | apply below_alloc | apply pw_below_drewN | apply below_drew1) | exact HB316.out))) hlo_)); have HQ319_323 := Aside0.mk (Nat.le_trans HH319.out (Nat.le_trans (below_size (by repeat (first | (with_reducible first | exact HB319.out | apply below_alloc | apply pw_below_drewN | apply below_drew1) | exact HB319.out))) hlo_)); have HH323 := Aside0.mk hhi_; clear hlo_ hhi_; have nb_ := Aside0.mk (below_step (by repeat (first | (with_reducible first | exact HB310.out | apply below_alloc | apply pw_below_drewN | apply below_drew1) | exact HB310.out)) hb); clear HB310; have HB310 := nb_; clear nb_; have nb_ := Aside0.mk (below_step (by repeat (first | (with_reducible first | exact HB313.out | apply below_alloc | apply pw_below_drewN | apply below_drew1) | exact HB313.out)) hb); clear HB313; have HB313 := nb_; clear nb_; have nb_ := Aside0.mk (below_step (by repeat (first | (with_reducible first | exact HB316.out | apply below_alloc | apply pw_below_drewN | apply below_drew1) | exact HB316.out)) hb); clear HB316; have HB316 := nb_; clear nb_; have nb_ := Aside0.mk (below_step (by repeat (first | (with_reducible first | exact HB319.out | apply below_alloc | apply pw_below_drewN | apply below_drew1) | exact HB319.out)) hb); clear HB319; have HB319 := nb_; clear nb_; have HB323 := Aside0.mk (Below.refl w27.heap.size w27); have n0_ := Aside0.mk (Kd.S_elder' (by (with_reducible repeat (first | apply Kd.S_alloc | apply Kd.S_drewN | apply Kd.S_drew)); exact HO310.out) (Kd.S_base ho0) hb); have n1_ := Aside0.mk (Kd.R_below (ab8 HO313) hb); have n2_ := Aside0.mk (Kd.S_elder' (by (with_reducible repeat (first | apply Kd.S_alloc | apply Kd.S_drewN | apply Kd.S_drew)); exact HO316.out) (Kd.S_base ho0) hb); have n3_ := Aside0.mk (Kd.R_below (ab8 HO319) hb); have n4_ := Aside0.mk (Kd.S_lower (Kd.S_new' (Kd.S_new' (Kd.S_new' (Kd.S_new' ho0 (Kd.S_lt (by (with_reducible repeat (first | apply Kd.S_alloc | apply Kd.S_drewN | apply Kd.S_drew)); exact HO310.out))) (Kd.R_lt (ab8 HO313))) (Kd.S_lt (by (with_reducible repeat (first | apply Kd.S_alloc | apply Kd.S_drewN | apply Kd.S_drew)); exact HO316.out))) (Kd.R_lt (ab8 HO319))) (below_size ab1)); have n5_ := Aside0.mk (below_step ab1 hb); clear HO310; clear HO313; clear HO316; clear HO319; clear HB; have HO310 := n0_; have HO313 := n1_; have HO316 := n2_; have HO319 := n3_; have HO323 := n4_; have HB := n5_; clear n0_ n1_ n2_ n3_ n4_ n5_; (try clear hb); (try clear hb2); (try clear hk); (try clear hi); (try clear ho0); obtain ⟨Ao28, co28, eo28⟩ := Kd.S_slice HO323.out; subst eo28) | ((with_reducible refine gate_callee (f := 23) rfl ?_); refine goesL_ (some 37) rfl rfl Try.func23 (by kernel_rfl) rfl #[.slice Ao23 t314.length co23, .slice Ao28 t321.length co28] rfl ab5 ?_; (with_reducible refine (laws_eqItemS.calls k _ _ t314 _ _ t321 true _ ?side1 ?side2 ?side3 ?side4 A14.out).mono ?_); (case side1 => repeat (first | exact (Kd.S_reads' HO316.out).2.2 | (with_reducible refine Kd.C_alloc ?_ _) | (with_reducible refine Kd.C_drewN ?_ _) | (with_reducible refine Kd.C_drew ?_))); (case side2 => exact (Kd.S_reads' HO316.out).2.1); (case side3 => repeat (first | exact (Kd.S_reads' HO323.out).2.2 | (with_reducible refine Kd.C_alloc ?_ _) | (with_reducible refine Kd.C_drewN ?_ _) | (with_reducible refine Kd.C_drew ?_))); (case side4 => exact (Kd.S_reads' HO323.out).2.1); rintro e w29 ⟨rfl, hb⟩; refine ⟨_, rfl, ?_⟩; have nb_ := Aside0.mk (below_step (by repeat (first | (with_reducible first | exact HB310.out | apply below_alloc | apply pw_below_drewN | apply below_drew1) | exact HB310.out)) hb); clear HB310; have HB310 := nb_; clear nb_; have nb_ := Aside0.mk (below_step (by repeat (first | (with_reducible first | exact HB313.out | apply below_alloc | apply pw_below_drewN | apply below_drew1) | exact HB313.out)) hb); clear HB313; have HB313 := nb_; clear nb_; have nb_ := Aside0.mk (below_step (by repeat (first | (with_reducible first | exact HB316.out | apply below_alloc | apply pw_below_drewN | apply below_drew1) | exact HB316.out)) hb); clear HB316; have HB316 := nb_; clear nb_; have nb_ := Aside0.mk (below_step (by repeat (first | (with_reducible first | exact HB319.out | apply below_alloc | apply pw_below_drewN | apply below_drew1) | exact HB319.out)) hb); clear HB319; have HB319 := nb_; clear nb_; have nb_ := Aside0.mk (below_step (by repeat (first | (with_reducible first | exact HB323.out | apply below_alloc | apply pw_below_drewN | apply below_drew1) | exact HB323.out)) hb); clear HB323; have HB323 := nb_; clear nb_; have n0_ := Aside0.mk (Kd.S_below (by (with_reducible repeat (first | apply Kd.S_alloc | apply Kd.S_drewN | apply Kd.S_drew)); exact HO310.out) hb); have n1_ := Aside0.mk (Kd.R_below (ab8 HO313) hb); have n2_ := Aside0.mk (Kd.S_below (by (with_reducible repeat (first | apply Kd.S_alloc | apply Kd.S_drewN | apply Kd.S_drew)); exact HO316.out) hb); have n3_ := Aside0.mk (Kd.R_below (ab8 HO319) hb); have n4_ := Aside0.mk (Kd.S_below (by (with_reducible repeat (first | apply Kd.S_alloc | apply Kd.S_drewN | apply Kd.S_drew)); exact HO323.out) hb); have n5_ := Aside0.mk (below_step ab1 hb); clear HO310; clear HO313; clear HO316; clear HO319; clear HO323; clear HB; have HO310 := n0_; have HO313 := n1_; have HO316 := n2_; have HO319 := n3_; have HO323 := n4_; have HB := n5_; clear n0_ n1_ n2_ n3_ n4_ n5_; (try clear hb); (try clear hb2); (try clear hk); (try clear hi)) | ((with_reducible refine gate_callee (f := 29) rfl ?_); refine goesL_ (some 41) rfl rfl Try.func29 (by kernel_rfl) rfl #[.slice Ao23 t314.length co23, .int .i64 1] rfl ab5 ?_; (with_reducible refine (laws_markItemS.calls k (fun k => lo316 ≤ k ∧ k < hi316) _ t314 1 t325 w _ ?side1 ?side2 A16.out).mono ?_); (case side1 => repeat (first | (with_reducible first | exact HB.out | apply below_alloc | apply pw_below_drewN | apply below_drew1) | exact HB.out)); (case side2 => exact Kd.S_mono (HO316.out) (fun k hk => by first | exact hk.1.1.1.1.1 | exact hk.1.1.1.1 | exact hk.1.1.1 | exact hk.1.1 | exact hk.1 | exact hk | omega)); rintro e w30 ⟨rfl, ⟨r2_, hy_⟩, hb, hkp⟩; refine ⟨_, rfl, ?_⟩; have n0_ := Aside0.mk (Kd.S_kept (HO310.out) hkp (fun k hk hs => by have q_ := HQ310_316.out; omega)); have n1_ := Aside0.mk (Kd.R_kept (HO313.out) hkp (fun k hk hs => by have q_ := HQ313_316.out; omega)); have n2_ := Aside0.mk hy_; have n3_ := Aside0.mk (Kd.R_kept (HO319.out) hkp (fun k hk hs => by have q_ := HQ316_319.out; omega)); have n4_ := Aside0.mk (Kd.S_kept (HO323.out) hkp (fun k hk hs => by have q_ := HQ316_323.out; omega)); have n5_ := Aside0.mk hb; clear HO310; clear HO313; clear HO316; clear HO319; clear HO323; clear HB; have HO310 := n0_; have HO313 := n1_; have HO316 := n2_; have HO319 := n3_; have HO323 := n4_; have HB := n5_; clear n0_ n1_ n2_ n3_ n4_ n5_; (try clear hb); (try clear hb2); (try clear hk); (try clear hi)))
     (try simp only [Act.put, List.setIfInBounds_toArray, List.set_cons_zero, List.set_cons_succ])
     go_cut [49] (fun v49 wc => ∃ (kq : Nat) (x49_16 : Bool), v49 = .bool x49_16 ∧ Aside0 (laws_FnExactTags.j0 kq l0 a1 t311 t317 x49_16 = some true) ∧ Aside0 (kq ≤ k) ∧ Aside0 (Kd.R (Kd.int .i64) 3 wc w.heap.size (fun k_ => some k_ ≠ ((.slice Ao25 t317.length co25) : Value).ownBlock) (.slice Ao26 t311.length co26) t311) ∧ Aside0 (Kd.R (Kd.int .i64) 3 wc w.heap.size (fun k_ => some k_ ≠ ((.slice Ao26 t311.length co26) : Value).ownBlock) (.slice Ao25 t317.length co25) t317) ∧ Aside0 (Below w.heap.size w wc))
     case first =>
      have H := HC17.out
      clear HC17
      by_cases c31 : t325 < 0
      ·rw [if_pos c31] at H
       have c31b0 := decide_eq_true c31
       clear c31
       (first | rw [c31b0] | (simp only [i64_w, i32_w]; rw [c31b0]) | skip)
       (try (generalize hgzc31 : decide (t325 < 0) = bqc31 at *; subst c31b0; have c31b0 := hgzc31; clear hgzc31))
       have H' := Aside0.mk H
       clear H
       go_wp2
       go_meet
       case rel => exact ⟨_, (true), ab6, (by first | exact H' | (have h_ := H'.out; rw [c31b0] at h_; exact ⟨h_⟩)), ⟨by first | omega | exact Nat.le_refl _⟩, ⟨by (with_reducible repeat (first | apply Kd.R_alloc | apply Kd.R_drewN | apply Kd.R_drew)); exact Kd.R_mono HO313.out (fun _ hk => hk.2)⟩, ⟨by (with_reducible repeat (first | apply Kd.R_alloc | apply Kd.R_drewN | apply Kd.R_drew)); exact Kd.R_mono HO319.out (fun _ hk => hk.2)⟩, ⟨ab1⟩⟩
      ·rw [if_neg c31] at H
       have c31b0 := decide_eq_false c31
       clear c31
       (first | rw [c31b0] | (simp only [i64_w, i32_w]; rw [c31b0]) | skip)
       (try (generalize hgzc31 : decide (t325 < 0) = bqc31 at *; subst c31b0; have c31b0 := hgzc31; clear hgzc31))
       replace H := Option.bind_eq_some_iff.mp H
       obtain ⟨t326, A320, H⟩ := H
       replace H : (laws_FnExactTags.j0 k l0 a1 t311 t317 (!t326)) = some true := by first | exact H | (rw [c31b0]; exact H)
       have A32 := Aside0.mk A320
       clear A320
       have H' := Aside0.mk H
       clear H
       go_wp2_with (first | (go_at_call 28; (with_reducible refine (laws_eqIntS.calls k _ _ t317 _ _ t311 t326 _ ?side1 ?side2 ?side3 ?side4 A32.out).mono ?_); (case side1 => repeat (first | exact (Kd.R_reads' HO319.out).2.2 | (with_reducible refine Kd.C_alloc ?_ _) | (with_reducible refine Kd.C_drewN ?_ _) | (with_reducible refine Kd.C_drew ?_))); (case side2 => exact (Kd.R_reads' HO319.out).2.1); (case side3 => repeat (first | exact (Kd.R_reads' HO313.out).2.2 | (with_reducible refine Kd.C_alloc ?_ _) | (with_reducible refine Kd.C_drewN ?_ _) | (with_reducible refine Kd.C_drew ?_))); (case side4 => exact (Kd.R_reads' HO313.out).2.1); rintro e w' ⟨rfl, ⟨nd, rfl⟩⟩))
       go_meet
       case rel => exact ⟨_, (!t326), ab6, (by first | exact H' | (have h_ := H'.out; rw [c31b0] at h_; exact ⟨h_⟩)), ⟨by first | omega | exact Nat.le_refl _⟩, ⟨by (with_reducible repeat (first | apply Kd.R_alloc | apply Kd.R_drewN | apply Kd.R_drew)); exact Kd.R_mono HO313.out (fun _ hk => hk.2)⟩, ⟨by (with_reducible repeat (first | apply Kd.R_alloc | apply Kd.R_drewN | apply Kd.R_drew)); exact Kd.R_mono HO319.out (fun _ hk => hk.2)⟩, ⟨ab1⟩⟩
     case rest =>
      clear HC17
      (try clear c1); (try clear c2); (try clear p2); (try clear c3); (try clear c3b0); (try clear c3b1); (try clear c5); (try clear c5b0); (try clear c7); (try clear c12); (try clear c15); (try clear c19); (try clear c21); (try clear c23); (try clear c26); (try clear c27); (try clear c28); (try clear c29); (try clear c31); (try clear c31b0)
      obtain ⟨kq, x49_16, rfl, HA, HJ16, HO_6, HO_8, HB⟩ := hcut
      cases kq with
      | zero => exact absurd HA.out (by simp [laws_FnExactTags.j0])
      | succ kj16 =>
       have H := HA.out
       clear HA
       simp only [laws_FnExactTags.j0] at H
       by_cases c33 : x49_16 = true
       ·subst c33
        have H1 : (some false) = some true := by rw [if_pos rfl] at H; first | exact H | done
        clear H
        have H := H1
        clear H1
        exact absurd H (by simp)
       ·replace c33 := Bool.eq_false_iff.mpr c33
        subst c33
        have H1 : ((laws_markIntS.f kj16 t317 1).bind fun bt327 => ((laws_heldIntS.f kj16 bt327.2 1).bind fun t329 => (if t329 < 0 then (some false) else (if t329 = bt327.1 then ((laws_toItemS.f kj16 l0).bind fun t330 => ((impl_Tags.f kj16 t330 a1).bind fun t333 => ((laws_eqIntS.f kj16 t333 t311).bind fun t336 => (if t336 = true then ((laws_heldIntS.f kj16 bt327.2 1).bind fun t337 => (if t337 < 0 then (some false) else (if t337 = bt327.1 then (some true) else (some false)))) else (some false))))) else (some false))))) = some true := by rw [if_neg (show ¬ (false = true) by decide)] at H; first | exact H | done
        clear H
        have H := H1
        clear H1
        replace H := Option.bind_eq_some_iff.mp H
        obtain ⟨⟨t327, t328⟩, A340, H⟩ := H
        try dsimp only at H
        have A34 := Aside0.mk A340
        clear A340
        replace H := Option.bind_eq_some_iff.mp H
        obtain ⟨t329, A350, H⟩ := H
        try dsimp only at H
        have A35 := Aside0.mk A350
        clear A350
        by_cases c36 : t329 < 0
        ·rw [if_pos c36] at H
         have c36b0 := decide_eq_true c36
         clear c36
         exact absurd H (by simp)
        ·rw [if_neg c36] at H
         have c36b0 := decide_eq_false c36
         clear c36
         by_cases c37 : t329 = t327
         ·rw [if_pos c37] at H
          have c37b0 : (t329 == t327) = true := beq_iff_eq.mpr c37
          have c37b1 : (t329 != t327) = false := bne_eq_false_iff_eq.mpr c37
          clear c37
          replace H := Option.bind_eq_some_iff.mp H
          obtain ⟨t330, A380, H⟩ := H
          try dsimp only at H
          have A38 := Aside0.mk A380
          clear A380
          replace H := Option.bind_eq_some_iff.mp H
          obtain ⟨t333, A390, H⟩ := H
          try dsimp only at H
          have A39 := Aside0.mk A390
          clear A390
          replace H := Option.bind_eq_some_iff.mp H
          obtain ⟨t336, A400, H⟩ := H
          try dsimp only at H
          have A40 := Aside0.mk A400
          clear A400
          by_cases c41 : t336 = true
          ·subst c41
           have H1 : ((laws_heldIntS.f kj16 t328 1).bind fun t337 => (if t337 < 0 then (some false) else (if t337 = t327 then (some true) else (some false)))) = some true := by rw [if_pos rfl] at H; first | exact H | done
           clear H
           have H := H1
           clear H1
           replace H := Option.bind_eq_some_iff.mp H
           obtain ⟨t337, A420, H⟩ := H
           try dsimp only at H
           have A42 := Aside0.mk A420
           clear A420
           by_cases c43 : t337 < 0
           ·rw [if_pos c43] at H
            have c43b0 := decide_eq_true c43
            clear c43
            exact absurd H (by simp)
           ·rw [if_neg c43] at H
            have c43b0 := decide_eq_false c43
            clear c43
            by_cases c44 : t337 = t327
            ·rw [if_pos c44] at H
             have c44b0 : (t337 == t327) = true := beq_iff_eq.mpr c44
             have c44b1 : (t337 != t327) = false := bne_eq_false_iff_eq.mpr c44
             clear c44
             clear H
             go_wp2_with (first | ((with_reducible refine gate_callee (f := 30) rfl ?_); refine goesL_ (some 52) rfl rfl Try.func30 (by kernel_rfl) rfl #[.slice Ao25 t317.length co25, .int .i64 1] rfl ab5 ?_; (with_reducible refine (laws_markIntS.calls kj16 (fun k_ => some k_ = (.slice Ao25 t317.length co25 : Value).ownBlock) (.slice Ao25 t317.length co25) t317 1 t327 t328 w _ ?side1 ?side2 A34.out).mono ?_); (case side1 => repeat (first | (with_reducible first | exact HB.out | apply below_alloc | apply pw_below_drewN | apply below_drew1) | exact HB.out)); (case side2 => exact Kd.R_tight rfl HO_8.out); rintro e w45 ⟨rfl, hy0, hb, hkp⟩; refine ⟨_, rfl, ?_⟩; have n0_ := Aside0.mk (Kd.R_mono (ok' := fun k_ => some k_ ≠ (.slice Ao25 t317.length co25 : Value).ownBlock) (Kd.R_keptB (HO_6.out) hkp (fun k_ hk_ hs_ => (hk_) hs_)) (fun k_ hk_ => hk_.1)); have n1_ := Aside0.mk (Kd.R_reok rfl hy0 (fun k_ e_ => HO_8.out.1 k_ e_)); have n2_ := Aside0.mk (hb); clear HO_6; clear HO_8; clear HB; have HO_6 := n0_; have HO_8 := n1_; have HB := n2_; clear n0_ n1_ n2_; (try clear hb); (try clear hkp); (try clear hy0)) | ((with_reducible refine gate_callee (f := 31) rfl ?_); refine goesL_ (some 55) rfl rfl Try.func31 (by kernel_rfl) rfl #[.slice Ao25 t328.length co25, .int .i64 1] rfl (by (try simp only [List.map_toArray, List.map_cons, List.map_nil]); first | done | (rw [show t328.length = t317.length from (Kd.R_reads' HO_8.out).1.symm] <;> rfl) | rfl | (simp only [List.length_drop, List.length_take]; rfl)) ?_; (with_reducible refine (laws_heldIntS.calls kj16 _ _ t328 1 t329 _ ?side1 ?side2 A35.out).mono ?_); (case side1 => repeat (first | exact (Kd.R_reads' HO_8.out).2.2 | (with_reducible refine Kd.C_alloc ?_ _) | (with_reducible refine Kd.C_drewN ?_ _) | (with_reducible refine Kd.C_drew ?_))); (case side2 => rw [show t328.length = t317.length from (Kd.R_reads' HO_8.out).1.symm]; exact (Kd.R_reads' HO_8.out).2.1); rintro e w' ⟨rfl, ⟨nd, rfl⟩⟩; refine ⟨_, rfl, ?_⟩) | ((with_reducible refine gate_callee (f := 21) rfl ?_); refine goesL_ (some 62) rfl rfl Try.func21 (by kernel_rfl) rfl #[.slice A0 l0.length c0] rfl ab5 ?_; (with_reducible refine (laws_toItemS.calls kj16 _ _ l0 t330 _ ?side1 ?side2 A38.out).mono ?_); (case side1 => repeat (first | exact (Kd.C_below HR0.out ab1) | (with_reducible refine Kd.C_alloc ?_ _) | (with_reducible refine Kd.C_drewN ?_ _) | (with_reducible refine Kd.C_drew ?_))); (case side2 => exact HC0.out); rintro e w46 ⟨v331, rfl, ho0, hb⟩; refine ⟨_, rfl, ?_⟩; have n0_ := Aside0.mk (Kd.R_below (ab8 HO_6) hb); have n1_ := Aside0.mk (Kd.R_below (ab8 HO_8) hb); have n2_ := Aside0.mk (Kd.S_lower (Kd.S_new' (Kd.S_new' ho0 (Kd.R_lt (ab8 HO_6))) (Kd.R_lt (ab8 HO_8))) (below_size ab1)); have n3_ := Aside0.mk (below_step ab1 hb); clear HO_6; clear HO_8; clear HB; have HO_6 := n0_; have HO_8 := n1_; have HO332 := n2_; have HB := n3_; clear n0_ n1_ n2_ n3_; (try clear hb); (try clear hb2); (try clear hk); (try clear hi); (try clear ho0); obtain ⟨Ao47, co47, eo47⟩ := Kd.S_slice HO332.out; subst eo47) | ((with_reducible refine gate_callee (f := 27) rfl ?_); refine goesL_ (some 64) rfl rfl Try.func27 (by kernel_rfl) rfl #[.slice Ao47 t330.length co47, .string a1] rfl ab5 ?_; (with_reducible refine (impl_Tags.calls kj16 _ _ t330 a1 t333 _ ?side1 ?side2 A39.out).mono ?_); (case side1 => repeat (first | exact (Kd.S_reads' HO332.out).2.2 | (with_reducible refine Kd.C_alloc ?_ _) | (with_reducible refine Kd.C_drewN ?_ _) | (with_reducible refine Kd.C_drew ?_))); (case side2 => exact (Kd.S_reads' HO332.out).2.1); rintro e w48 ⟨v334, rfl, ho0, hb⟩; refine ⟨_, rfl, ?_⟩; have n0_ := Aside0.mk (Kd.R_elder' (ab8 HO_6) (Kd.R_base ho0) hb); have n1_ := Aside0.mk (Kd.R_elder' (ab8 HO_8) (Kd.R_base ho0) hb); have n2_ := Aside0.mk (Kd.S_elder' (by (with_reducible repeat (first | apply Kd.S_alloc | apply Kd.S_drewN | apply Kd.S_drew)); exact HO332.out) (Kd.R_base ho0) hb); have n3_ := Aside0.mk (Kd.R_lower (Kd.R_new' (Kd.R_new' ho0 (Kd.R_lt (ab8 HO_6))) (Kd.R_lt (ab8 HO_8))) (below_size ab1)); have n4_ := Aside0.mk (below_step ab1 hb); clear HO_6; clear HO_8; clear HO332; clear HB; have HO_6 := n0_; have HO_8 := n1_; have HO332 := n2_; have HO335 := n3_; have HB := n4_; clear n0_ n1_ n2_ n3_ n4_; (try clear hb); (try clear hb2); (try clear hk); (try clear hi); (try clear ho0); obtain ⟨Ao49, co49, eo49⟩ := Kd.R_slice HO335.out; subst eo49) | ((with_reducible refine gate_callee (f := 28) rfl ?_); refine goesL_ (some 67) rfl rfl Try.func28 (by kernel_rfl) rfl #[.slice Ao49 t333.length co49, .slice Ao26 t311.length co26] rfl ab5 ?_; (with_reducible refine (laws_eqIntS.calls kj16 _ _ t333 _ _ t311 true _ ?side1 ?side2 ?side3 ?side4 A40.out).mono ?_); (case side1 => repeat (first | exact (Kd.R_reads' HO335.out).2.2 | (with_reducible refine Kd.C_alloc ?_ _) | (with_reducible refine Kd.C_drewN ?_ _) | (with_reducible refine Kd.C_drew ?_))); (case side2 => exact (Kd.R_reads' HO335.out).2.1); (case side3 => repeat (first | exact (Kd.R_reads' HO_6.out).2.2 | (with_reducible refine Kd.C_alloc ?_ _) | (with_reducible refine Kd.C_drewN ?_ _) | (with_reducible refine Kd.C_drew ?_))); (case side4 => exact (Kd.R_reads' HO_6.out).2.1); rintro e w' ⟨rfl, ⟨nd, rfl⟩⟩; refine ⟨_, rfl, ?_⟩) | ((with_reducible refine gate_callee (f := 31) rfl ?_); refine goesL_ (some 71) rfl rfl Try.func31 (by kernel_rfl) rfl #[.slice Ao25 t328.length co25, .int .i64 1] rfl (by (try simp only [List.map_toArray, List.map_cons, List.map_nil]); first | done | (rw [show t328.length = t317.length from (Kd.R_reads' HO_8.out).1.symm] <;> rfl) | rfl | (simp only [List.length_drop, List.length_take]; rfl)) ?_; (with_reducible refine (laws_heldIntS.calls kj16 _ _ t328 1 t337 _ ?side1 ?side2 A42.out).mono ?_); (case side1 => repeat (first | exact (Kd.R_reads' HO_8.out).2.2 | (with_reducible refine Kd.C_alloc ?_ _) | (with_reducible refine Kd.C_drewN ?_ _) | (with_reducible refine Kd.C_drew ?_))); (case side2 => rw [show t328.length = t317.length from (Kd.R_reads' HO_8.out).1.symm]; exact (Kd.R_reads' HO_8.out).2.1); rintro e w' ⟨rfl, ⟨nd, rfl⟩⟩; refine ⟨_, rfl, ?_⟩))
             go_ret
             exact ⟨ab7, ab1⟩
            ·rw [if_neg c44] at H
             have c44b0 : (t337 == t327) = false := beq_eq_false_iff_ne.mpr c44
             have c44b1 : (t337 != t327) = true := bne_iff_ne.mpr c44
             exact absurd H (by simp)
          ·replace c41 := Bool.eq_false_iff.mpr c41
           subst c41
           have H1 : (some false) = some true := by rw [if_neg (show ¬ (false = true) by decide)] at H; first | exact H | done
           clear H
           have H := H1
           clear H1
           exact absurd H (by simp)
         ·rw [if_neg c37] at H
          have c37b0 : (t329 == t327) = false := beq_eq_false_iff_ne.mpr c37
          have c37b1 : (t329 != t327) = true := bne_iff_ne.mpr c37
          exact absurd H (by simp)
    ·replace c15 := Bool.eq_false_iff.mpr c15
     subst c15
     have H1 : (some false) = some true := by rw [if_neg (show ¬ (false = true) by decide)] at H; first | exact H | done
     clear H
     have H := H1
     clear H1
     exact absurd H (by simp)
   ·replace c12 := Bool.eq_false_iff.mpr c12
    subst c12
    have H1 : (some false) = some true := by rw [if_neg (show ¬ (false = true) by decide)] at H; first | exact H | done
    clear H
    have H := H1
    clear H1
    exact absurd H (by simp)

/-- THE ONE PURE STATEMENT of laws_FnExactTags. -/
def laws_FnExactTags.Pure : Prop := ∀ (n0 : Nat) (l0 : List (S66)) (a1 : ByteArray), (l0.length ≤ maxLen ∧ (∀ y_ ∈ l0, G66 maxLen n0 y_)) → a1.size ≤ 140737488351232 → ∃ k, laws_FnExactTags.f k l0 a1 = some true

end Go.Proofs.Ytfjheckgigppiaa.P
