-- WRITTEN BY hprint.py, this session's own program, over the kit's printer: not typed by hand; Lean checks it
import Derived.Test.YtfjheckgigppiaaPw0
import Derived.Test.YtfjheckgigppiaaPw1
import Derived.Test.YtfjheckgigppiaaPw2
import Derived.Test.YtfjheckgigppiaaPw3
import Derived.Test.YtfjheckgigppiaaPw4
import Derived.Test.YtfjheckgigppiaaPw5
import Derived.Test.YtfjheckgigppiaaPw8
import Derived.Test.YtfjheckgigppiaaPw13
namespace Go.Proofs.Ytfjheckgigppiaa.P
open Go.RowKit Go.Proofs.YtfjheckgigppiaaW.PrintWords Go.Proofs.YtfjheckgigppiaaW.PrintLast Go.Proofs.YtfjheckgigppiaaW.PrintMore
attribute [local go_sem] max2_int min2_int max_two min_two max_three min_three max_four min_four   -- for this text's walks alone
set_option linter.unusedVariables false
set_option linter.unusedSimpArgs false

/-! ### impl_Way: function 35 -/
mutual
def impl_Way.j0 : Nat → List (S70) → Int → Bool → Option (List Int)
 | 0, _, _, _ => none
 | k + 1, x0, x1, x16 => if x16 = true then (some ([] : List Int)) else (impl_Way.l0 k x0 x1 ([] : List Int))
def impl_Way.l0 : Nat → List (S70) → Int → List Int → Option (List Int)
 | 0, _, _, _ => none
 | k + 1, x0, x1, x5 => if x1 ≥ 0 then (if x5.length < 17592186044416 then (if 0 ≤ x1 then (if x1 < (x0.length : Int) then (impl_Way.l0 k x0 ((rd_T70 x0 x1).f5) (x5 ++ [x1])) else (none)) else (none)) else (none)) else ((slices_Reverse_int_int.f k x5).bind fun t293 => (some t293))
end
def impl_Way.f (k : Nat) (l0 : List (S70)) (a1 : Int) : Option (List Int) := (impl_inRange.f a1 0 (wrap64 ((l0.length : Int) - 1))).bind fun t287 => (if t287 = true then ((impl_TreeOk.f k l0).bind fun t288 => (impl_Way.j0 k l0 a1 (!t288))) else (impl_Way.j0 k l0 a1 true))
theorem impl_Way.mono_l : ∀ k, (∀ y0 y1 y2, LeO (impl_Way.j0 k y0 y1 y2) (impl_Way.j0 (k + 1) y0 y1 y2)) ∧ (∀ y0 y1 y2, LeO (impl_Way.l0 k y0 y1 y2) (impl_Way.l0 (k + 1) y0 y1 y2))
 | 0 => ⟨fun _ _ _ r h => by simp [impl_Way.j0] at h, fun _ _ _ r h => by simp [impl_Way.l0] at h⟩
 | k + 1 => by
  obtain ⟨ih0, ih1⟩ := impl_Way.mono_l k
  refine ⟨?_, ?_⟩
  ·intro y0 y1 y2
   unfold impl_Way.j0
   repeat' first
   | (with_reducible exact ih0 _ _ _)
   | (with_reducible exact ih1 _ _ _)
   | (with_reducible exact impl_TreeOk.mono _ _)
   | (with_reducible exact slices_Reverse_int_int.mono _ _)
   | (with_reducible exact LeO.refl _)
   | (with_reducible exact LeO.none _)
   | (with_reducible refine LeO.ite ?_ ?_)
   | (with_reducible refine LeO.bind ?_ (fun _ => ?_))
  ·intro y0 y1 y2
   unfold impl_Way.l0
   repeat' first
   | (with_reducible exact ih0 _ _ _)
   | (with_reducible exact ih1 _ _ _)
   | (with_reducible exact impl_TreeOk.mono _ _)
   | (with_reducible exact slices_Reverse_int_int.mono _ _)
   | (with_reducible exact LeO.refl _)
   | (with_reducible exact LeO.none _)
   | (with_reducible refine LeO.ite ?_ ?_)
   | (with_reducible refine LeO.bind ?_ (fun _ => ?_))
theorem impl_Way.mono : ∀ a0 a1 k, LeO (impl_Way.f k a0 a1) (impl_Way.f (k + 1) a0 a1) := by
 intro a0 a1 k
 obtain ⟨ih0, ih1⟩ := impl_Way.mono_l k
 unfold impl_Way.f
 repeat' first
   | (with_reducible exact ih0 _ _ _)
   | (with_reducible exact ih1 _ _ _)
   | (with_reducible exact impl_TreeOk.mono _ _)
   | (with_reducible exact slices_Reverse_int_int.mono _ _)
   | (with_reducible exact LeO.refl _)
   | (with_reducible exact LeO.none _)
   | (with_reducible refine LeO.ite ?_ ?_)
   | (with_reducible refine LeO.bind ?_ (fun _ => ?_))
set_option maxHeartbeats 8000000 in
set_option maxRecDepth 100000 in
theorem impl_Way.calls (k : Nat) (A0 : Option Addr) (c0 : Nat) (l0 : List (S70)) (a1 : Int) (r : List Int) (w : World) (hr0 : Kd.C k70 w A0 l0.length l0) (hc0 : l0.length ≤ c0) (h : impl_Way.f k l0 a1 = some r) :
  Calls Try.prog 35 #[.slice A0 l0.length c0, .int .i64 a1] w fun e w' => ∃ v0_ : Value, e = .returned (v0_) ∧ Kd.R (Kd.int .i64) 3 w' w.heap.size (fun _ => True) v0_ r ∧ Below w.heap.size w w' := by
 have HR0 := Aside0.mk hr0
 have HC0 := Aside0.mk hc0
 clear hr0 hc0
 have HB := Aside0.mk (Below.refl w.heap.size w)
 have H : ((impl_inRange.f a1 0 (wrap64 ((l0.length : Int) - 1))).bind fun t287 => (if t287 = true then ((impl_TreeOk.f k l0).bind fun t288 => (impl_Way.j0 k l0 a1 (!t288))) else (impl_Way.j0 k l0 a1 true))) = some r := h
 clear h
 have HC3 := Aside0.mk H
 clear H
 go_enter Try.func35, Try.ntmps35
 go_upto_region 1 with (fail)
 go_cut [16] (fun v16 wc => ∃ (kq : Nat) (x16_2 : Bool), v16 = .bool x16_2 ∧ Aside0 (impl_Way.j0 kq l0 a1 x16_2 = some r) ∧ Aside0 (kq ≤ k) ∧ Aside0 (Below w.heap.size w wc))
 case first =>
  have H := HC3.out
  clear HC3
  replace H := Option.bind_eq_some_iff.mp H
  obtain ⟨t287, A40, H⟩ := H
  try dsimp only at H
  have A4 := Aside0.mk A40
  clear A40
  by_cases c5 : t287 = true
  ·subst c5
   rw [if_pos rfl] at H
   replace H := Option.bind_eq_some_iff.mp H
   obtain ⟨t288, A60, H⟩ := H
   try dsimp only at H
   have A6 := Aside0.mk A60
   clear A60
   have H' := Aside0.mk H
   clear H
   go_wp2_with (first | ((with_reducible refine gate_callee (f := 67) rfl ?_); refine goesL_ (some 10) rfl rfl Try.func67 (by kernel_rfl) rfl #[.int .i64 a1, .int .i64 0, .int .i64 (wrap64 ((l0.length : Int) - 1))] rfl ab5 ?_; (with_reducible refine (impl_inRange.calls a1 0 (wrap64 ((l0.length : Int) - 1)) true _ A4.out).mono ?_); rintro e w' ⟨rfl, ⟨nd, rfl⟩⟩; refine ⟨_, rfl, ?_⟩) | (go_at_call 62; (with_reducible refine (impl_TreeOk.calls k _ _ l0 t288 _ ?side1 ?side2 A6.out).mono ?_); (case side1 => repeat (first | exact (Kd.C_below HR0.out ab1) | (with_reducible refine Kd.C_alloc ?_ _) | (with_reducible refine Kd.C_drewN ?_ _) | (with_reducible refine Kd.C_drew ?_))); (case side2 => exact HC0.out); rintro e w7 ⟨rfl, hb⟩; have n0_ := Aside0.mk (below_step ab1 hb); clear HB; have HB := n0_; clear n0_; (try clear hb); (try clear hb2); (try clear hk); (try clear hi)))
   go_meet
   case rel => exact ⟨_, (!t288), ab6, H', ⟨by first | omega | exact Nat.le_refl _⟩, ⟨ab1⟩⟩
  ·replace c5 := Bool.eq_false_iff.mpr c5
   subst c5
   rw [if_neg (show ¬ (false = true) by decide)] at H
   have H' := Aside0.mk H
   clear H
   go_wp2_with (first | ((with_reducible refine gate_callee (f := 67) rfl ?_); refine goesL_ (some 10) rfl rfl Try.func67 (by kernel_rfl) rfl #[.int .i64 a1, .int .i64 0, .int .i64 (wrap64 ((l0.length : Int) - 1))] rfl ab5 ?_; (with_reducible refine (impl_inRange.calls a1 0 (wrap64 ((l0.length : Int) - 1)) false _ A4.out).mono ?_); rintro e w' ⟨rfl, ⟨nd, rfl⟩⟩; refine ⟨_, rfl, ?_⟩))
   go_meet
   case rel => exact ⟨_, (true), ab6, H', ⟨by first | omega | exact Nat.le_refl _⟩, ⟨ab1⟩⟩
 case rest =>
  clear HC3
  (try clear p2); (try clear c3); (try clear c5); (try clear c6); (try clear p6)
  obtain ⟨kq, x16_2, rfl, HA, HJ2, HB⟩ := hcut
  cases kq with
  | zero => exact absurd HA.out (by simp [impl_Way.j0])
  | succ kj2 =>
   have H := HA.out
   clear HA
   simp only [impl_Way.j0] at H
   by_cases c8 : x16_2 = true
   ·subst c8
    rw [if_pos rfl] at H
    obtain rfl := Option.some.inj H
    go_wp2
    go_ret
    exact ⟨_, ab7, by first | exact Kd.R_nil _ _ _ _ _ | exact Kd.N_nil _ _ _ _ _ | exact Kd.V_nil _ _ _ _ _ | exact Kd.Q_nil _ _ _ _ _ | exact Kd.S_nil _ _ _ _ _, ab1⟩
   ·replace c8 := Bool.eq_false_iff.mpr c8
    subst c8
    rw [if_neg (show ¬ (false = true) by decide)] at H
    have H' := Aside0.mk H
    clear H
    go_wp2
    go_loopg [1, 5] kj2 (fun kq v1 v5 w' => ∃ (x1_2 : Int) (x5_2 : List Int), v1 = .int .i64 x1_2 ∧ Aside0 (impl_Way.l0 kq l0 x1_2 x5_2 = some r) ∧ Aside0 (kq ≤ kj2) ∧ Aside0 (Kd.R (Kd.int .i64) 3 w' w.heap.size (fun _ => True) v5 x5_2) ∧ Aside0 (Below w.heap.size w w'))
    case atStart => exact ⟨(a1), (([] : List Int)), ab6, H', ⟨Nat.le_refl _⟩, ⟨by first | exact Kd.R_nil _ _ _ _ _ | exact Kd.N_nil _ _ _ _ _ | exact Kd.V_nil _ _ _ _ _ | exact Kd.Q_nil _ _ _ _ _ | exact Kd.S_nil _ _ _ _ _⟩, ⟨ab1⟩⟩
    case round =>
     clear H'
     (try clear p2); (try clear c3); (try clear c5); (try clear c6); (try clear p6); (try clear c8); (try clear p2); (try clear p6)
     obtain ⟨x1_2, x5_2, rfl, HA, HK2, HO_5, HB⟩ := hrel
     cases gk with
     | zero => exact absurd HA.out (by simp [impl_Way.l0])
     | succ k2 =>
      have H := HA.out
      clear HA
      simp only [impl_Way.l0] at H
      by_cases c9 : x1_2 ≥ 0
      ·rw [if_pos c9] at H
       have c9b0 : decide (0 ≤ x1_2) = true := decide_eq_true c9
       clear c9
       by_cases c10 : x5_2.length < 17592186044416
       case neg => rw [if_neg c10] at H; exact absurd H (by simp)
       rw [if_pos c10] at H
       have LMc10 := Aside0.mk c10
       clear c10
       obtain ⟨y289, hy289⟩ : ∃ y_ : List Int, y_ = (x5_2 ++ [x1_2]) := ⟨_, rfl⟩
       replace H : (if 0 ≤ x1_2 then (if x1_2 < (l0.length : Int) then (impl_Way.l0 k2 l0 ((rd_T70 l0 x1_2).f5) y289) else (none)) else (none)) = some r := by first | (rw [hy289]; with_reducible exact H) | (have H2_ := (Option.bind_some _ _).symm.trans H; rw [hy289]; with_reducible exact H2_) | (have H2_ := (Option.bind_some _ _).symm.trans H; with_reducible exact H2_) | with_reducible exact H | (rw [hy289]; exact H) | exact H
       have Ny289 := Aside0.mk hy289
       clear hy289
       by_cases c11 : 0 ≤ x1_2
       case neg => rw [if_neg c11] at H; exact absurd H (by simp)
       rw [if_pos c11] at H
       have c11b0 := decide_eq_true c11
       clear c11
       by_cases c12 : x1_2 < (l0.length : Int)
       case neg => rw [if_neg c12] at H; exact absurd H (by simp)
       rw [if_pos c12] at H
       have c12b0 := decide_eq_true c12
       clear c12
       have H' := Aside0.mk H
       clear H
       go_wp2_with (first | ((with_reducible refine gate_builtin (b := .append) (xs := #[.tmp 24, .tmp 26]) rfl ?_); at_builtin; refine Kd.R_append (Kd.int .i64) (w0 := w) w.heap.size rfl (.tmp 24) (.tmp 26) 36 3 (.int .i64 0) 8 rfl Try.underlying36 info3 rfl (by decide) (by omega) u5 x5_2 x1_2 [.int .i64 x1_2] (fun _ => True) (fun _ => False) rfl rfl ?aP (fun _ hk => hk.elim) ?aF ?aO ?aB ?aS ?aL ?_; (case aP => exact rfl); (case aB => exact ab1); (case aF => exact (fun _ _ => trivial)); (case aO => exact (ab8 HO_5)); (case aS => exact (below_size ab1)); (case aL => have := LMc10.out; omega); intro v290 w13 ho hb hg hat; rw [← Ny289.out] at ho; have n0_ := Aside0.mk (hb); have n1_ := Aside0.mk (ho); clear HB; clear HO_5; have HB := n0_; have HO291 := n1_; clear n0_ n1_; clear ho hb hg hat; have p292 : 0 ≤ (x1_2 : Int) := of_decide_eq_true ab4; have q292 : x1_2 < (l0.length : Int) := of_decide_eq_true ab4; obtain ⟨ad292, A292_3, c292_3, A292_6, c292_6, e292, hx292_0, hx292_1, hx292_2, hx292_3, hx292_4, hx292_5, hx292_6, hl292_3, hi292_3, hl292_6, hi292_6⟩ := at_T70 HR0.out x1_2 p292 q292; cases e292; replace hx292_0 := pw_cell_below HB.out hx292_0; replace hx292_1 := pw_cell_below HB.out hx292_1; replace hx292_2 := pw_cell_below HB.out hx292_2; replace hx292_3 := pw_cell_below HB.out hx292_3; replace hx292_4 := pw_cell_below HB.out hx292_4; replace hx292_5 := pw_cell_below HB.out hx292_5; replace hx292_6 := pw_cell_below HB.out hx292_6; have HR292_3 := Aside0.mk hi292_3; have HC292_3 := Aside0.mk hl292_3; clear hi292_3 hl292_3; have HR292_6 := Aside0.mk hi292_6; have HC292_6 := Aside0.mk hl292_6; clear hi292_6 hl292_6; replace p292 := eq_true p292; replace q292 := eq_true q292))
       go_roundg k2
       case measure => have := HJ2.out; have := HK2.out; omega
       case rel => exact ⟨((rd_T70 l0 x1_2).f5), (y289), ab6, H', ⟨by have := HJ2.out; have := HK2.out; omega⟩, ⟨ab8 HO291⟩, ⟨ab1⟩⟩
      ·rw [if_neg c9] at H
       have c9b0 : decide (0 ≤ x1_2) = false := decide_eq_false c9
       clear c9
       replace H := Option.bind_eq_some_iff.mp H
       obtain ⟨t293, A140, H⟩ := H
       try dsimp only at H
       have A14 := Aside0.mk A140
       clear A140
       obtain rfl := Option.some.inj H
       obtain ⟨Ao15, co15, eo15⟩ := Kd.R_slice HO_5.out
       subst eo15
       go_wp2_with (first | ((with_reducible refine gate_callee (f := 77) rfl ?_); refine goesL_ (some 29) rfl rfl Try.func77 (by kernel_rfl) rfl #[.slice Ao15 x5_2.length co15] rfl ab5 ?_; (with_reducible refine (slices_Reverse_int_int.calls k2 (fun k_ => some k_ = (.slice Ao15 x5_2.length co15 : Value).ownBlock) (.slice Ao15 x5_2.length co15) x5_2 t293 w _ ?side1 ?side2 A14.out).mono ?_); (case side1 => repeat (first | (with_reducible first | exact HB.out | apply below_alloc | apply pw_below_drewN | apply below_drew1) | exact HB.out)); (case side2 => exact Kd.R_tight rfl HO_5.out); rintro e w16 ⟨rfl, hy0, hb, hkp⟩; refine ⟨_, rfl, ?_⟩; have n0_ := Aside0.mk (Kd.R_reok rfl hy0 (fun k_ e_ => HO_5.out.1 k_ e_)); have n1_ := Aside0.mk (hb); clear HO_5; clear HB; have HO_5 := n0_; have HB := n1_; clear n0_ n1_; (try clear hb); (try clear hkp); (try clear hy0)))
       go_ret
       exact ⟨_, ab7, ab8 HO_5, ab1⟩

/-! ### laws_FnExactWay: function 9 -/
def laws_FnExactWay.j0 : Nat → List (S66) → Int → List Int → List Int → Bool → Option (Bool)
 | 0, _, _, _, _, _ => none
 | k + 1, x0, x1, x6, x8, x46 => if x46 = true then (some false) else ((laws_markIntS.f k x8 1).bind fun bt314 => ((laws_heldIntS.f k bt314.2 1).bind fun t316 => (if t316 < 0 then (some false) else (if t316 = bt314.1 then ((laws_toItemS.f k x0).bind fun t317 => ((impl_Way.f k t317 x1).bind fun t320 => ((laws_eqIntS.f k t320 x6).bind fun t323 => (if t323 = true then ((laws_heldIntS.f k bt314.2 1).bind fun t324 => (if t324 < 0 then (some false) else (if t324 = bt314.1 then (some true) else (some false)))) else (some false))))) else (some false)))))
def laws_FnExactWay.f (k : Nat) (l0 : List (S66)) (a1 : Int) : Option (Bool) := (laws_szItemS.f k l0 1048576).bind fun t294 => (if t294 < 0 then (some true) else ((laws_toItemS.f k l0).bind fun t295 => ((spec_Way.f k t295 a1).bind fun t298 => ((laws_toItemS.f k l0).bind fun t301 => ((impl_Way.f k t301 a1).bind fun t304 => ((laws_eqIntS.f k t304 t298).bind fun t307 => (if t307 = true then ((laws_toItemS.f k l0).bind fun t308 => ((laws_eqItemS.f k t301 t308).bind fun t311 => (if t311 = true then ((laws_markItemS.f k t301 1).bind fun t312 => (if t312 < 0 then (laws_FnExactWay.j0 k l0 a1 t298 t304 true) else ((laws_eqIntS.f k t304 t298).bind fun t313 => (laws_FnExactWay.j0 k l0 a1 t298 t304 (!t313))))) else (some false)))) else (some false))))))))
theorem laws_FnExactWay.mono_l : ∀ k, (∀ y0 y1 y2 y3 y4, LeO (laws_FnExactWay.j0 k y0 y1 y2 y3 y4) (laws_FnExactWay.j0 (k + 1) y0 y1 y2 y3 y4))
 | 0 => fun _ _ _ _ _ r h => by simp [laws_FnExactWay.j0] at h
 | k + 1 => by
  have ih0 := laws_FnExactWay.mono_l k
  ·intro y0 y1 y2 y3 y4
   unfold laws_FnExactWay.j0
   repeat' first
   | (with_reducible exact ih0 _ _ _ _ _)
   | (with_reducible exact impl_Way.mono _ _ _)
   | (with_reducible exact laws_eqIntS.mono _ _ _)
   | (with_reducible exact laws_eqItemS.mono _ _ _)
   | (with_reducible exact laws_heldIntS.mono _ _ _)
   | (with_reducible exact laws_markIntS.mono _ _ _)
   | (with_reducible exact laws_markItemS.mono _ _ _)
   | (with_reducible exact laws_szItemS.mono _ _ _)
   | (with_reducible exact laws_toItemS.mono _ _)
   | (with_reducible exact spec_Way.mono _ _ _)
   | (with_reducible exact LeO.refl _)
   | (with_reducible exact LeO.none _)
   | (with_reducible refine LeO.ite ?_ ?_)
   | (with_reducible refine LeO.bind ?_ (fun _ => ?_))
theorem laws_FnExactWay.mono : ∀ a0 a1 k, LeO (laws_FnExactWay.f k a0 a1) (laws_FnExactWay.f (k + 1) a0 a1) := by
 intro a0 a1 k
 have ih0 := laws_FnExactWay.mono_l k
 unfold laws_FnExactWay.f
 repeat' first
   | (with_reducible exact ih0 _ _ _ _ _)
   | (with_reducible exact impl_Way.mono _ _ _)
   | (with_reducible exact laws_eqIntS.mono _ _ _)
   | (with_reducible exact laws_eqItemS.mono _ _ _)
   | (with_reducible exact laws_heldIntS.mono _ _ _)
   | (with_reducible exact laws_markIntS.mono _ _ _)
   | (with_reducible exact laws_markItemS.mono _ _ _)
   | (with_reducible exact laws_szItemS.mono _ _ _)
   | (with_reducible exact laws_toItemS.mono _ _)
   | (with_reducible exact spec_Way.mono _ _ _)
   | (with_reducible exact LeO.refl _)
   | (with_reducible exact LeO.none _)
   | (with_reducible refine LeO.ite ?_ ?_)
   | (with_reducible refine LeO.bind ?_ (fun _ => ?_))
set_option maxHeartbeats 8000000 in
set_option maxRecDepth 100000 in
theorem laws_FnExactWay.calls (k : Nat) (A0 : Option Addr) (c0 : Nat) (l0 : List (S66)) (a1 : Int) (w : World) (hr0 : Kd.C k66 w A0 l0.length l0) (hc0 : l0.length ≤ c0) (h : laws_FnExactWay.f k l0 a1 = some true) :
  Calls Try.prog 9 #[.slice A0 l0.length c0, .int .i64 a1] w fun e w' => e = .returned (.bool true) ∧ Below w.heap.size w w' := by
 have HR0 := Aside0.mk hr0
 have HC0 := Aside0.mk hc0
 clear hr0 hc0
 have HB := Aside0.mk (Below.refl w.heap.size w)
 have H : ((laws_szItemS.f k l0 1048576).bind fun t294 => (if t294 < 0 then (some true) else ((laws_toItemS.f k l0).bind fun t295 => ((spec_Way.f k t295 a1).bind fun t298 => ((laws_toItemS.f k l0).bind fun t301 => ((impl_Way.f k t301 a1).bind fun t304 => ((laws_eqIntS.f k t304 t298).bind fun t307 => (if t307 = true then ((laws_toItemS.f k l0).bind fun t308 => ((laws_eqItemS.f k t301 t308).bind fun t311 => (if t311 = true then ((laws_markItemS.f k t301 1).bind fun t312 => (if t312 < 0 then (laws_FnExactWay.j0 k l0 a1 t298 t304 true) else ((laws_eqIntS.f k t304 t298).bind fun t313 => (laws_FnExactWay.j0 k l0 a1 t298 t304 (!t313))))) else (some false)))) else (some false))))))))) = some true := h
 clear h
 replace H := Option.bind_eq_some_iff.mp H
 obtain ⟨t294, A30, H⟩ := H
 try dsimp only at H
 have A3 := Aside0.mk A30
 clear A30
 by_cases c4 : t294 < 0
 ·rw [if_pos c4] at H
  have c4b0 := decide_eq_true c4
  clear c4
  clear H
  go_enter Try.func9, Try.ntmps9
  go_wp2_with (first | ((with_reducible refine gate_callee (f := 19) rfl ?_); refine goesL_ (some 15) rfl rfl Try.func19 (by kernel_rfl) rfl #[.slice A0 l0.length c0, .int .i64 1048576] rfl ab5 ?_; (with_reducible refine (laws_szItemS.calls k _ _ l0 1048576 t294 _ ?side1 ?side2 A3.out).mono ?_); (case side1 => repeat (first | exact HR0.out | (with_reducible refine Kd.C_alloc ?_ _) | (with_reducible refine Kd.C_drewN ?_ _) | (with_reducible refine Kd.C_drew ?_))); (case side2 => exact HC0.out); rintro e w5 ⟨rfl, hb⟩; refine ⟨_, rfl, ?_⟩; have n0_ := Aside0.mk (below_step ab1 hb); clear HB; have HB := n0_; clear n0_; (try clear hb); (try clear hb2); (try clear hk); (try clear hi)))
  go_ret
  exact ⟨ab7, ab1⟩
 ·rw [if_neg c4] at H
  have c4b0 := decide_eq_false c4
  clear c4
  replace H := Option.bind_eq_some_iff.mp H
  obtain ⟨t295, A60, H⟩ := H
  try dsimp only at H
  have A6 := Aside0.mk A60
  clear A60
  replace H := Option.bind_eq_some_iff.mp H
  obtain ⟨t298, A70, H⟩ := H
  try dsimp only at H
  have A7 := Aside0.mk A70
  clear A70
  replace H := Option.bind_eq_some_iff.mp H
  obtain ⟨t301, A80, H⟩ := H
  try dsimp only at H
  have A8 := Aside0.mk A80
  clear A80
  replace H := Option.bind_eq_some_iff.mp H
  obtain ⟨t304, A90, H⟩ := H
  try dsimp only at H
  have A9 := Aside0.mk A90
  clear A90
  replace H := Option.bind_eq_some_iff.mp H
  obtain ⟨t307, A100, H⟩ := H
  try dsimp only at H
  have A10 := Aside0.mk A100
  clear A100
  by_cases c11 : t307 = true
  ·subst c11
   have H1 : ((laws_toItemS.f k l0).bind fun t308 => ((laws_eqItemS.f k t301 t308).bind fun t311 => (if t311 = true then ((laws_markItemS.f k t301 1).bind fun t312 => (if t312 < 0 then (laws_FnExactWay.j0 k l0 a1 t298 t304 true) else ((laws_eqIntS.f k t304 t298).bind fun t313 => (laws_FnExactWay.j0 k l0 a1 t298 t304 (!t313))))) else (some false)))) = some true := by rw [if_pos rfl] at H; first | exact H | done
   clear H
   have H := H1
   clear H1
   replace H := Option.bind_eq_some_iff.mp H
   obtain ⟨t308, A120, H⟩ := H
   try dsimp only at H
   have A12 := Aside0.mk A120
   clear A120
   replace H := Option.bind_eq_some_iff.mp H
   obtain ⟨t311, A130, H⟩ := H
   try dsimp only at H
   have A13 := Aside0.mk A130
   clear A130
   by_cases c14 : t311 = true
   ·subst c14
    have H1 : ((laws_markItemS.f k t301 1).bind fun t312 => (if t312 < 0 then (laws_FnExactWay.j0 k l0 a1 t298 t304 true) else ((laws_eqIntS.f k t304 t298).bind fun t313 => (laws_FnExactWay.j0 k l0 a1 t298 t304 (!t313))))) = some true := by rw [if_pos rfl] at H; first | exact H | done
    clear H
    have H := H1
    clear H1
    replace H := Option.bind_eq_some_iff.mp H
    obtain ⟨t312, A150, H⟩ := H
    try dsimp only at H
    have A15 := Aside0.mk A150
    clear A150
    have HC16 := Aside0.mk H
    clear H
    go_enter Try.func9, Try.ntmps9
    go_upto_region 14 with (first | ((with_reducible refine gate_callee (f := 19) rfl ?_); refine goesL_ (some 15) rfl rfl Try.func19 (by kernel_rfl) rfl #[.slice A0 l0.length c0, .int .i64 1048576] rfl ab5 ?_; (with_reducible refine (laws_szItemS.calls k _ _ l0 1048576 t294 _ ?side1 ?side2 A3.out).mono ?_); (case side1 => repeat (first | exact HR0.out | (with_reducible refine Kd.C_alloc ?_ _) | (with_reducible refine Kd.C_drewN ?_ _) | (with_reducible refine Kd.C_drew ?_))); (case side2 => exact HC0.out); rintro e w17 ⟨rfl, hb⟩; refine ⟨_, rfl, ?_⟩; have n0_ := Aside0.mk (below_step ab1 hb); clear HB; have HB := n0_; clear n0_; (try clear hb); (try clear hb2); (try clear hk); (try clear hi)) | ((with_reducible refine gate_callee (f := 21) rfl ?_); refine goesL_ (some 19) rfl rfl Try.func21 (by kernel_rfl) rfl #[.slice A0 l0.length c0] rfl ab5 ?_; (with_reducible refine (laws_toItemS.calls k _ _ l0 t295 _ ?side1 ?side2 A6.out).mono ?_); (case side1 => repeat (first | exact (Kd.C_below HR0.out HB.out) | (with_reducible refine Kd.C_alloc ?_ _) | (with_reducible refine Kd.C_drewN ?_ _) | (with_reducible refine Kd.C_drew ?_))); (case side2 => exact HC0.out); rintro e w18 ⟨v296, rfl, ho0, hb⟩; refine ⟨_, rfl, ?_⟩; obtain ⟨lo297, hi297, ho1_, hlo_, hhi_⟩ := S_in ho0; clear ho0; have ho0 := ho1_; clear ho1_; have HH297 := Aside0.mk hhi_; clear hlo_ hhi_; have HB297 := Aside0.mk (Below.refl w18.heap.size w18); have n0_ := Aside0.mk (Kd.S_lower ho0 (below_size ab1)); have n1_ := Aside0.mk (below_step ab1 hb); clear HB; have HO297 := n0_; have HB := n1_; clear n0_ n1_; (try clear hb); (try clear hb2); (try clear hk); (try clear hi); (try clear ho0); obtain ⟨Ao19, co19, eo19⟩ := Kd.S_slice HO297.out; subst eo19) | ((with_reducible refine gate_callee (f := 34) rfl ?_); refine goesL_ (some 21) rfl rfl Try.func34 (by kernel_rfl) rfl #[.slice Ao19 t295.length co19, .int .i64 a1] rfl ab5 ?_; (with_reducible refine (spec_Way.calls k _ _ t295 a1 t298 _ ?side1 ?side2 A7.out).mono ?_); (case side1 => repeat (first | exact (Kd.S_reads' HO297.out).2.2 | (with_reducible refine Kd.C_alloc ?_ _) | (with_reducible refine Kd.C_drewN ?_ _) | (with_reducible refine Kd.C_drew ?_))); (case side2 => exact (Kd.S_reads' HO297.out).2.1); rintro e w20 ⟨v299, rfl, ho0, hb⟩; refine ⟨_, rfl, ?_⟩; obtain ⟨lo300, hi300, ho1_, hlo_, hhi_⟩ := R_in ho0; clear ho0; have ho0 := ho1_; clear ho1_; have HQ297_300 := Aside0.mk (Nat.le_trans HH297.out (Nat.le_trans (below_size (by repeat (first | (with_reducible first | exact HB297.out | apply below_alloc | apply pw_below_drewN | apply below_drew1) | exact HB297.out))) hlo_)); have HH300 := Aside0.mk hhi_; clear hlo_ hhi_; have nb_ := Aside0.mk (below_step (by repeat (first | (with_reducible first | exact HB297.out | apply below_alloc | apply pw_below_drewN | apply below_drew1) | exact HB297.out)) hb); clear HB297; have HB297 := nb_; clear nb_; have HB300 := Aside0.mk (Below.refl w20.heap.size w20); have n0_ := Aside0.mk (Kd.S_elder' (by (with_reducible repeat (first | apply Kd.S_alloc | apply Kd.S_drewN | apply Kd.S_drew)); exact HO297.out) (Kd.R_base ho0) hb); have n1_ := Aside0.mk (Kd.R_lower ho0 (below_size ab1)); have n2_ := Aside0.mk (below_step ab1 hb); clear HO297; clear HB; have HO297 := n0_; have HO300 := n1_; have HB := n2_; clear n0_ n1_ n2_; (try clear hb); (try clear hb2); (try clear hk); (try clear hi); (try clear ho0)) | ((with_reducible refine gate_callee (f := 21) rfl ?_); refine goesL_ (some 23) rfl rfl Try.func21 (by kernel_rfl) rfl #[.slice A0 l0.length c0] rfl ab5 ?_; (with_reducible refine (laws_toItemS.calls k _ _ l0 t301 _ ?side1 ?side2 A8.out).mono ?_); (case side1 => repeat (first | exact (Kd.C_below HR0.out HB.out) | (with_reducible refine Kd.C_alloc ?_ _) | (with_reducible refine Kd.C_drewN ?_ _) | (with_reducible refine Kd.C_drew ?_))); (case side2 => exact HC0.out); rintro e w21 ⟨v302, rfl, ho0, hb⟩; refine ⟨_, rfl, ?_⟩; obtain ⟨lo303, hi303, ho1_, hlo_, hhi_⟩ := S_in ho0; clear ho0; have ho0 := ho1_; clear ho1_; have HQ297_303 := Aside0.mk (Nat.le_trans HH297.out (Nat.le_trans (below_size (by repeat (first | (with_reducible first | exact HB297.out | apply below_alloc | apply pw_below_drewN | apply below_drew1) | exact HB297.out))) hlo_)); have HQ300_303 := Aside0.mk (Nat.le_trans HH300.out (Nat.le_trans (below_size (by repeat (first | (with_reducible first | exact HB300.out | apply below_alloc | apply pw_below_drewN | apply below_drew1) | exact HB300.out))) hlo_)); have HH303 := Aside0.mk hhi_; clear hlo_ hhi_; have nb_ := Aside0.mk (below_step (by repeat (first | (with_reducible first | exact HB297.out | apply below_alloc | apply pw_below_drewN | apply below_drew1) | exact HB297.out)) hb); clear HB297; have HB297 := nb_; clear nb_; have nb_ := Aside0.mk (below_step (by repeat (first | (with_reducible first | exact HB300.out | apply below_alloc | apply pw_below_drewN | apply below_drew1) | exact HB300.out)) hb); clear HB300; have HB300 := nb_; clear nb_; have HB303 := Aside0.mk (Below.refl w21.heap.size w21); have n0_ := Aside0.mk (Kd.S_elder' (by (with_reducible repeat (first | apply Kd.S_alloc | apply Kd.S_drewN | apply Kd.S_drew)); exact HO297.out) (Kd.S_base ho0) hb); have n1_ := Aside0.mk (Kd.R_below (ab8 HO300) hb); have n2_ := Aside0.mk (Kd.S_lower (Kd.S_new' (Kd.S_new' ho0 (Kd.S_lt (by (with_reducible repeat (first | apply Kd.S_alloc | apply Kd.S_drewN | apply Kd.S_drew)); exact HO297.out))) (Kd.R_lt (ab8 HO300))) (below_size ab1)); have n3_ := Aside0.mk (below_step ab1 hb); clear HO297; clear HO300; clear HB; have HO297 := n0_; have HO300 := n1_; have HO303 := n2_; have HB := n3_; clear n0_ n1_ n2_ n3_; (try clear hb); (try clear hb2); (try clear hk); (try clear hi); (try clear ho0); obtain ⟨Ao22, co22, eo22⟩ := Kd.S_slice HO303.out; subst eo22) | ((with_reducible refine gate_callee (f := 35) rfl ?_); refine goesL_ (some 26) rfl rfl Try.func35 (by kernel_rfl) rfl #[.slice Ao22 t301.length co22, .int .i64 a1] rfl ab5 ?_; (with_reducible refine (impl_Way.calls k _ _ t301 a1 t304 _ ?side1 ?side2 A9.out).mono ?_); (case side1 => repeat (first | exact (Kd.S_reads' HO303.out).2.2 | (with_reducible refine Kd.C_alloc ?_ _) | (with_reducible refine Kd.C_drewN ?_ _) | (with_reducible refine Kd.C_drew ?_))); (case side2 => exact (Kd.S_reads' HO303.out).2.1); rintro e w23 ⟨v305, rfl, ho0, hb⟩; refine ⟨_, rfl, ?_⟩; obtain ⟨lo306, hi306, ho1_, hlo_, hhi_⟩ := R_in ho0; clear ho0; have ho0 := ho1_; clear ho1_; have HQ297_306 := Aside0.mk (Nat.le_trans HH297.out (Nat.le_trans (below_size (by repeat (first | (with_reducible first | exact HB297.out | apply below_alloc | apply pw_below_drewN | apply below_drew1) | exact HB297.out))) hlo_)); have HQ300_306 := Aside0.mk (Nat.le_trans HH300.out (Nat.le_trans (below_size (by repeat (first | (with_reducible first | exact HB300.out | apply below_alloc | apply pw_below_drewN | apply below_drew1) | exact HB300.out))) hlo_)); have HQ303_306 := Aside0.mk (Nat.le_trans HH303.out (Nat.le_trans (below_size (by repeat (first | (with_reducible first | exact HB303.out | apply below_alloc | apply pw_below_drewN | apply below_drew1) | exact HB303.out))) hlo_)); have HH306 := Aside0.mk hhi_; clear hlo_ hhi_; have nb_ := Aside0.mk (below_step (by repeat (first | (with_reducible first | exact HB297.out | apply below_alloc | apply pw_below_drewN | apply below_drew1) | exact HB297.out)) hb); clear HB297; have HB297 := nb_; clear nb_; have nb_ := Aside0.mk (below_step (by repeat (first | (with_reducible first | exact HB300.out | apply below_alloc | apply pw_below_drewN | apply below_drew1) | exact HB300.out)) hb); clear HB300; have HB300 := nb_; clear nb_; have nb_ := Aside0.mk (below_step (by repeat (first | (with_reducible first | exact HB303.out | apply below_alloc | apply pw_below_drewN | apply below_drew1) | exact HB303.out)) hb); clear HB303; have HB303 := nb_; clear nb_; have HB306 := Aside0.mk (Below.refl w23.heap.size w23); have n0_ := Aside0.mk (Kd.S_elder' (by (with_reducible repeat (first | apply Kd.S_alloc | apply Kd.S_drewN | apply Kd.S_drew)); exact HO297.out) (Kd.R_base ho0) hb); have n1_ := Aside0.mk (Kd.R_elder' (ab8 HO300) (Kd.R_base ho0) hb); have n2_ := Aside0.mk (Kd.S_elder' (by (with_reducible repeat (first | apply Kd.S_alloc | apply Kd.S_drewN | apply Kd.S_drew)); exact HO303.out) (Kd.R_base ho0) hb); have n3_ := Aside0.mk (Kd.R_lower (Kd.R_new' ho0 (Kd.R_lt (ab8 HO300))) (below_size ab1)); have n4_ := Aside0.mk (below_step ab1 hb); clear HO297; clear HO300; clear HO303; clear HB; have HO297 := n0_; have HO300 := n1_; have HO303 := n2_; have HO306 := n3_; have HB := n4_; clear n0_ n1_ n2_ n3_ n4_; (try clear hb); (try clear hb2); (try clear hk); (try clear hi); (try clear ho0); obtain ⟨Ao24, co24, eo24⟩ := Kd.R_slice HO306.out; subst eo24; obtain ⟨Ao25, co25, eo25⟩ := Kd.R_slice HO300.out; subst eo25) | ((with_reducible refine gate_callee (f := 28) rfl ?_); refine goesL_ (some 29) rfl rfl Try.func28 (by kernel_rfl) rfl #[.slice Ao24 t304.length co24, .slice Ao25 t298.length co25] rfl ab5 ?_; (with_reducible refine (laws_eqIntS.calls k _ _ t304 _ _ t298 true _ ?side1 ?side2 ?side3 ?side4 A10.out).mono ?_); (case side1 => repeat (first | exact (Kd.R_reads' HO306.out).2.2 | (with_reducible refine Kd.C_alloc ?_ _) | (with_reducible refine Kd.C_drewN ?_ _) | (with_reducible refine Kd.C_drew ?_))); (case side2 => exact (Kd.R_reads' HO306.out).2.1); (case side3 => repeat (first | exact (Kd.R_reads' HO300.out).2.2 | (with_reducible refine Kd.C_alloc ?_ _) | (with_reducible refine Kd.C_drewN ?_ _) | (with_reducible refine Kd.C_drew ?_))); (case side4 => exact (Kd.R_reads' HO300.out).2.1); rintro e w' ⟨rfl, ⟨nd, rfl⟩⟩; refine ⟨_, rfl, ?_⟩) | ((with_reducible refine gate_callee (f := 21) rfl ?_); refine goesL_ (some 33) rfl rfl Try.func21 (by kernel_rfl) rfl #[.slice A0 l0.length c0] rfl ab5 ?_; (with_reducible refine (laws_toItemS.calls k _ _ l0 t308 _ ?side1 ?side2 A12.out).mono ?_); (case side1 => repeat (first | exact (Kd.C_below HR0.out ab1) | (with_reducible refine Kd.C_alloc ?_ _) | (with_reducible refine Kd.C_drewN ?_ _) | (with_reducible refine Kd.C_drew ?_))); (case side2 => exact HC0.out); rintro e w26 ⟨v309, rfl, ho0, hb⟩; refine ⟨_, rfl, ?_⟩; obtain ⟨lo310, hi310, ho1_, hlo_, hhi_⟩ := S_in ho0; clear ho0; have ho0 := ho1_; clear ho1_; have HQ297_310 := Aside0.mk (Nat.le_trans HH297.out (Nat.le_trans (below_size (by repeat (first | (with_reducible first | exact HB297.out | apply below_alloc | apply pw_below_drewN | apply below_drew1) | exact HB297.out))) hlo_)); have HQ300_310 := Aside0.mk (Nat.le_trans HH300.out (Nat.le_trans (below_size (by repeat (first | (with_reducible first | exact HB300.out | apply below_alloc | apply pw_below_drewN | apply below_drew1) | exact HB300.out))) hlo_)); have HQ303_310 := Aside0.mk (Nat.le_trans HH303.out (Nat.le_trans (below_size (by repeat (first | (with_reducible first | exact HB303.out | apply below_alloc | apply pw_below_drewN | apply below_drew1) | exact HB303.out))) hlo_)); have HQ306_310 := Aside0.mk (Nat.le_trans HH306.out (Nat.le_trans (below_size (by repeat (first | (with_reducible first | exact HB306.out | apply below_alloc | apply pw_below_drewN | apply below_drew1) | exact HB306.out))) hlo_)); have HH310 := Aside0.mk hhi_; clear hlo_ hhi_; have nb_ := Aside0.mk (below_step (by repeat (first | (with_reducible first | exact HB297.out | apply below_alloc | apply pw_below_drewN | apply below_drew1) | exact HB297.out)) hb); clear HB297; have HB297 := nb_; clear nb_; have nb_ := Aside0.mk (below_step (by repeat (first | (with_reducible first | exact HB300.out | apply below_alloc | apply pw_below_drewN | apply below_drew1) | exact HB300.out)) hb); clear HB300; have HB300 := nb_; clear nb_; have nb_ := Aside0.mk (below_step (by repeat (first | (with_reducible first | exact HB303.out | apply below_alloc | apply pw_below_drewN | apply below_drew1) | exact HB303.out)) hb); clear HB303; have HB303 := nb_; clear nb_; have nb_ := Aside0.mk (below_step (by repeat (first | (with_reducible first | exact HB306.out | apply below_alloc | apply pw_below_drewN | apply below_drew1) | exact HB306.out)) hb); clear HB306; have HB306 := nb_; clear nb_; have HB310 := Aside0.mk (Below.refl w26.heap.size w26); have n0_ := Aside0.mk (Kd.S_elder' (by (with_reducible repeat (first | apply Kd.S_alloc | apply Kd.S_drewN | apply Kd.S_drew)); exact HO297.out) (Kd.S_base ho0) hb); have n1_ := Aside0.mk (Kd.R_below (ab8 HO300) hb); have n2_ := Aside0.mk (Kd.S_elder' (by (with_reducible repeat (first | apply Kd.S_alloc | apply Kd.S_drewN | apply Kd.S_drew)); exact HO303.out) (Kd.S_base ho0) hb); have n3_ := Aside0.mk (Kd.R_below (ab8 HO306) hb); have n4_ := Aside0.mk (Kd.S_lower (Kd.S_new' (Kd.S_new' (Kd.S_new' (Kd.S_new' ho0 (Kd.S_lt (by (with_reducible repeat (first | apply Kd.S_alloc | apply Kd.S_drewN | apply Kd.S_drew)); exact HO297.out))) (Kd.R_lt (ab8 HO300))) (Kd.S_lt (by (with_reducible repeat (first | apply Kd.S_alloc | apply Kd.S_drewN | apply Kd.S_drew)); exact HO303.out))) (Kd.R_lt (ab8 HO306))) (below_size ab1)); have n5_ := Aside0.mk (below_step ab1 hb); clear HO297; clear HO300; clear HO303; clear HO306; clear HB; have HO297 := n0_; have HO300 := n1_; have HO303 := n2_; have HO306 := n3_; have HO310 := n4_; have HB := n5_; clear n0_ n1_ n2_ n3_ n4_ n5_; (try clear hb); (try clear hb2); (try clear hk); (try clear hi); (try clear ho0); obtain ⟨Ao27, co27, eo27⟩ := Kd.S_slice HO310.out; subst eo27) | ((with_reducible refine gate_callee (f := 23) rfl ?_); refine goesL_ (some 34) rfl rfl Try.func23 (by kernel_rfl) rfl #[.slice Ao22 t301.length co22, .slice Ao27 t308.length co27] rfl ab5 ?_; (with_reducible refine (laws_eqItemS.calls k _ _ t301 _ _ t308 true _ ?side1 ?side2 ?side3 ?side4 A13.out).mono ?_); (case side1 => repeat (first | exact (Kd.S_reads' HO303.out).2.2 | (with_reducible refine Kd.C_alloc ?_ _) | (with_reducible refine Kd.C_drewN ?_ _) | (with_reducible refine Kd.C_drew ?_))); (case side2 => exact (Kd.S_reads' HO303.out).2.1); (case side3 => repeat (first | exact (Kd.S_reads' HO310.out).2.2 | (with_reducible refine Kd.C_alloc ?_ _) | (with_reducible refine Kd.C_drewN ?_ _) | (with_reducible refine Kd.C_drew ?_))); (case side4 => exact (Kd.S_reads' HO310.out).2.1); rintro e w28 ⟨rfl, hb⟩; refine ⟨_, rfl, ?_⟩; have nb_ := Aside0.mk (below_step (by repeat (first | (with_reducible first | exact HB297.out | apply below_alloc | apply pw_below_drewN | apply below_drew1) | exact HB297.out)) hb); clear HB297; have HB297 := nb_; clear nb_; have nb_ := Aside0.mk (below_step (by repeat (first | (with_reducible first | exact HB300.out | apply below_alloc | apply pw_below_drewN | apply below_drew1) | exact HB300.out)) hb); clear HB300; have HB300 := nb_; clear nb_; have nb_ := Aside0.mk (below_step (by repeat (first | (with_reducible first | exact HB303.out | apply below_alloc | apply pw_below_drewN | apply below_drew1) | exact HB303.out)) hb); clear HB303; have HB303 := nb_; clear nb_; have nb_ := Aside0.mk (below_step (by repeat (first | (with_reducible first | exact HB306.out | apply below_alloc | apply pw_below_drewN | apply below_drew1) | exact HB306.out)) hb); clear HB306; have HB306 := nb_; clear nb_; have nb_ := Aside0.mk (below_step (by repeat (first | (with_reducible first | exact HB310.out | apply below_alloc | apply pw_below_drewN | apply below_drew1) | exact HB310.out)) hb); clear HB310; have HB310 := nb_; clear nb_; have n0_ := Aside0.mk (Kd.S_below (by (with_reducible repeat (first | apply Kd.S_alloc | apply Kd.S_drewN | apply Kd.S_drew)); exact HO297.out) hb); have n1_ := Aside0.mk (Kd.R_below (ab8 HO300) hb); have n2_ := Aside0.mk (Kd.S_below (by (with_reducible repeat (first | apply Kd.S_alloc | apply Kd.S_drewN | apply Kd.S_drew)); exact HO303.out) hb); have n3_ := Aside0.mk (Kd.R_below (ab8 HO306) hb); have n4_ := Aside0.mk (Kd.S_below (by (with_reducible repeat (first | apply Kd.S_alloc | apply Kd.S_drewN | apply Kd.S_drew)); exact HO310.out) hb); have n5_ := Aside0.mk (below_step ab1 hb); clear HO297; clear HO300; clear HO303; clear HO306; clear HO310; clear HB; have HO297 := n0_; have HO300 := n1_; have HO303 := n2_; have HO306 := n3_; have HO310 := n4_; have HB := n5_; clear n0_ n1_ n2_ n3_ n4_ n5_; (try clear hb); (try clear hb2); (try clear hk); (try clear hi)) | ((with_reducible refine gate_callee (f := 29) rfl ?_); refine goesL_ (some 38) rfl rfl Try.func29 (by kernel_rfl) rfl #[.slice Ao22 t301.length co22, .int .i64 1] rfl ab5 ?_; (with_reducible refine (laws_markItemS.calls k (fun k => lo303 ≤ k ∧ k < hi303) _ t301 1 t312 w _ ?side1 ?side2 A15.out).mono ?_); (case side1 => repeat (first | (with_reducible first | exact HB.out | apply below_alloc | apply pw_below_drewN | apply below_drew1) | exact HB.out)); (case side2 => exact Kd.S_mono (HO303.out) (fun k hk => by first | exact hk.1.1.1.1.1 | exact hk.1.1.1.1 | exact hk.1.1.1 | exact hk.1.1 | exact hk.1 | exact hk | omega)); rintro e w29 ⟨rfl, ⟨r2_, hy_⟩, hb, hkp⟩; refine ⟨_, rfl, ?_⟩; have n0_ := Aside0.mk (Kd.S_kept (HO297.out) hkp (fun k hk hs => by have q_ := HQ297_303.out; omega)); have n1_ := Aside0.mk (Kd.R_kept (HO300.out) hkp (fun k hk hs => by have q_ := HQ300_303.out; omega)); have n2_ := Aside0.mk hy_; have n3_ := Aside0.mk (Kd.R_kept (HO306.out) hkp (fun k hk hs => by have q_ := HQ303_306.out; omega)); have n4_ := Aside0.mk (Kd.S_kept (HO310.out) hkp (fun k hk hs => by have q_ := HQ303_310.out; omega)); have n5_ := Aside0.mk hb; clear HO297; clear HO300; clear HO303; clear HO306; clear HO310; clear HB; have HO297 := n0_; have HO300 := n1_; have HO303 := n2_; have HO306 := n3_; have HO310 := n4_; have HB := n5_; clear n0_ n1_ n2_ n3_ n4_ n5_; (try clear hb); (try clear hb2); (try clear hk); (try clear hi)))
    (try simp only [Act.put, List.setIfInBounds_toArray, List.set_cons_zero, List.set_cons_succ])
    go_cut [46] (fun v46 wc => ∃ (kq : Nat) (x46_15 : Bool), v46 = .bool x46_15 ∧ Aside0 (laws_FnExactWay.j0 kq l0 a1 t298 t304 x46_15 = some true) ∧ Aside0 (kq ≤ k) ∧ Aside0 (Kd.R (Kd.int .i64) 3 wc w.heap.size (fun k_ => some k_ ≠ ((.slice Ao24 t304.length co24) : Value).ownBlock) (.slice Ao25 t298.length co25) t298) ∧ Aside0 (Kd.R (Kd.int .i64) 3 wc w.heap.size (fun k_ => some k_ ≠ ((.slice Ao25 t298.length co25) : Value).ownBlock) (.slice Ao24 t304.length co24) t304) ∧ Aside0 (Below w.heap.size w wc))
    case first =>
     have H := HC16.out
     clear HC16
     by_cases c30 : t312 < 0
     ·rw [if_pos c30] at H
      have c30b0 := decide_eq_true c30
      clear c30
      (first | rw [c30b0] | (simp only [i64_w, i32_w]; rw [c30b0]) | skip)
      (try (generalize hgzc30 : decide (t312 < 0) = bqc30 at *; subst c30b0; have c30b0 := hgzc30; clear hgzc30))
      have H' := Aside0.mk H
      clear H
      go_wp2
      go_meet
      case rel => exact ⟨_, (true), ab6, (by first | exact H' | (have h_ := H'.out; rw [c30b0] at h_; exact ⟨h_⟩)), ⟨by first | omega | exact Nat.le_refl _⟩, ⟨by (with_reducible repeat (first | apply Kd.R_alloc | apply Kd.R_drewN | apply Kd.R_drew)); exact Kd.R_mono HO300.out (fun _ hk => hk.2)⟩, ⟨by (with_reducible repeat (first | apply Kd.R_alloc | apply Kd.R_drewN | apply Kd.R_drew)); exact Kd.R_mono HO306.out (fun _ hk => hk.2)⟩, ⟨ab1⟩⟩
     ·rw [if_neg c30] at H
      have c30b0 := decide_eq_false c30
      clear c30
      (first | rw [c30b0] | (simp only [i64_w, i32_w]; rw [c30b0]) | skip)
      (try (generalize hgzc30 : decide (t312 < 0) = bqc30 at *; subst c30b0; have c30b0 := hgzc30; clear hgzc30))
      replace H := Option.bind_eq_some_iff.mp H
      obtain ⟨t313, A310, H⟩ := H
      replace H : (laws_FnExactWay.j0 k l0 a1 t298 t304 (!t313)) = some true := by first | exact H | (rw [c30b0]; exact H)
      have A31 := Aside0.mk A310
      clear A310
      have H' := Aside0.mk H
      clear H
      go_wp2_with (first | (go_at_call 28; (with_reducible refine (laws_eqIntS.calls k _ _ t304 _ _ t298 t313 _ ?side1 ?side2 ?side3 ?side4 A31.out).mono ?_); (case side1 => repeat (first | exact (Kd.R_reads' HO306.out).2.2 | (with_reducible refine Kd.C_alloc ?_ _) | (with_reducible refine Kd.C_drewN ?_ _) | (with_reducible refine Kd.C_drew ?_))); (case side2 => exact (Kd.R_reads' HO306.out).2.1); (case side3 => repeat (first | exact (Kd.R_reads' HO300.out).2.2 | (with_reducible refine Kd.C_alloc ?_ _) | (with_reducible refine Kd.C_drewN ?_ _) | (with_reducible refine Kd.C_drew ?_))); (case side4 => exact (Kd.R_reads' HO300.out).2.1); rintro e w' ⟨rfl, ⟨nd, rfl⟩⟩))
      go_meet
      case rel => exact ⟨_, (!t313), ab6, (by first | exact H' | (have h_ := H'.out; rw [c30b0] at h_; exact ⟨h_⟩)), ⟨by first | omega | exact Nat.le_refl _⟩, ⟨by (with_reducible repeat (first | apply Kd.R_alloc | apply Kd.R_drewN | apply Kd.R_drew)); exact Kd.R_mono HO300.out (fun _ hk => hk.2)⟩, ⟨by (with_reducible repeat (first | apply Kd.R_alloc | apply Kd.R_drewN | apply Kd.R_drew)); exact Kd.R_mono HO306.out (fun _ hk => hk.2)⟩, ⟨ab1⟩⟩
    case rest =>
     clear HC16
     (try clear c1); (try clear c2); (try clear p2); (try clear c3); (try clear c4); (try clear c4b0); (try clear c9); (try clear c11); (try clear c14); (try clear c19); (try clear c21); (try clear c23); (try clear c28); (try clear c29); (try clear c30); (try clear c30b0)
     obtain ⟨kq, x46_15, rfl, HA, HJ15, HO_6, HO_8, HB⟩ := hcut
     cases kq with
     | zero => exact absurd HA.out (by simp [laws_FnExactWay.j0])
     | succ kj15 =>
      have H := HA.out
      clear HA
      simp only [laws_FnExactWay.j0] at H
      by_cases c32 : x46_15 = true
      ·subst c32
       have H1 : (some false) = some true := by rw [if_pos rfl] at H; first | exact H | done
       clear H
       have H := H1
       clear H1
       exact absurd H (by simp)
      ·replace c32 := Bool.eq_false_iff.mpr c32
       subst c32
       have H1 : ((laws_markIntS.f kj15 t304 1).bind fun bt314 => ((laws_heldIntS.f kj15 bt314.2 1).bind fun t316 => (if t316 < 0 then (some false) else (if t316 = bt314.1 then ((laws_toItemS.f kj15 l0).bind fun t317 => ((impl_Way.f kj15 t317 a1).bind fun t320 => ((laws_eqIntS.f kj15 t320 t298).bind fun t323 => (if t323 = true then ((laws_heldIntS.f kj15 bt314.2 1).bind fun t324 => (if t324 < 0 then (some false) else (if t324 = bt314.1 then (some true) else (some false)))) else (some false))))) else (some false))))) = some true := by rw [if_neg (show ¬ (false = true) by decide)] at H; first | exact H | done
       clear H
       have H := H1
       clear H1
       replace H := Option.bind_eq_some_iff.mp H
       obtain ⟨⟨t314, t315⟩, A330, H⟩ := H
       try dsimp only at H
       have A33 := Aside0.mk A330
       clear A330
       replace H := Option.bind_eq_some_iff.mp H
       obtain ⟨t316, A340, H⟩ := H
       try dsimp only at H
       have A34 := Aside0.mk A340
       clear A340
       by_cases c35 : t316 < 0
       ·rw [if_pos c35] at H
        have c35b0 := decide_eq_true c35
        clear c35
        exact absurd H (by simp)
       ·rw [if_neg c35] at H
        have c35b0 := decide_eq_false c35
        clear c35
        by_cases c36 : t316 = t314
        ·rw [if_pos c36] at H
         have c36b0 : (t316 == t314) = true := beq_iff_eq.mpr c36
         have c36b1 : (t316 != t314) = false := bne_eq_false_iff_eq.mpr c36
         clear c36
         replace H := Option.bind_eq_some_iff.mp H
         obtain ⟨t317, A370, H⟩ := H
         try dsimp only at H
         have A37 := Aside0.mk A370
         clear A370
         replace H := Option.bind_eq_some_iff.mp H
         obtain ⟨t320, A380, H⟩ := H
         try dsimp only at H
         have A38 := Aside0.mk A380
         clear A380
         replace H := Option.bind_eq_some_iff.mp H
         obtain ⟨t323, A390, H⟩ := H
         try dsimp only at H
         have A39 := Aside0.mk A390
         clear A390
         by_cases c40 : t323 = true
         ·subst c40
          have H1 : ((laws_heldIntS.f kj15 t315 1).bind fun t324 => (if t324 < 0 then (some false) else (if t324 = t314 then (some true) else (some false)))) = some true := by rw [if_pos rfl] at H; first | exact H | done
          clear H
          have H := H1
          clear H1
          replace H := Option.bind_eq_some_iff.mp H
          obtain ⟨t324, A410, H⟩ := H
          try dsimp only at H
          have A41 := Aside0.mk A410
          clear A410
          by_cases c42 : t324 < 0
          ·rw [if_pos c42] at H
           have c42b0 := decide_eq_true c42
           clear c42
           exact absurd H (by simp)
          ·rw [if_neg c42] at H
           have c42b0 := decide_eq_false c42
           clear c42
           by_cases c43 : t324 = t314
           ·rw [if_pos c43] at H
            have c43b0 : (t324 == t314) = true := beq_iff_eq.mpr c43
            have c43b1 : (t324 != t314) = false := bne_eq_false_iff_eq.mpr c43
            clear c43
            clear H
            go_wp2_with (first | ((with_reducible refine gate_callee (f := 30) rfl ?_); refine goesL_ (some 49) rfl rfl Try.func30 (by kernel_rfl) rfl #[.slice Ao24 t304.length co24, .int .i64 1] rfl ab5 ?_; (with_reducible refine (laws_markIntS.calls kj15 (fun k_ => some k_ = (.slice Ao24 t304.length co24 : Value).ownBlock) (.slice Ao24 t304.length co24) t304 1 t314 t315 w _ ?side1 ?side2 A33.out).mono ?_); (case side1 => repeat (first | (with_reducible first | exact HB.out | apply below_alloc | apply pw_below_drewN | apply below_drew1) | exact HB.out)); (case side2 => exact Kd.R_tight rfl HO_8.out); rintro e w44 ⟨rfl, hy0, hb, hkp⟩; refine ⟨_, rfl, ?_⟩; have n0_ := Aside0.mk (Kd.R_mono (ok' := fun k_ => some k_ ≠ (.slice Ao24 t304.length co24 : Value).ownBlock) (Kd.R_keptB (HO_6.out) hkp (fun k_ hk_ hs_ => (hk_) hs_)) (fun k_ hk_ => hk_.1)); have n1_ := Aside0.mk (Kd.R_reok rfl hy0 (fun k_ e_ => HO_8.out.1 k_ e_)); have n2_ := Aside0.mk (hb); clear HO_6; clear HO_8; clear HB; have HO_6 := n0_; have HO_8 := n1_; have HB := n2_; clear n0_ n1_ n2_; (try clear hb); (try clear hkp); (try clear hy0)) | ((with_reducible refine gate_callee (f := 31) rfl ?_); refine goesL_ (some 52) rfl rfl Try.func31 (by kernel_rfl) rfl #[.slice Ao24 t315.length co24, .int .i64 1] rfl (by (try simp only [List.map_toArray, List.map_cons, List.map_nil]); first | done | (rw [show t315.length = t304.length from (Kd.R_reads' HO_8.out).1.symm] <;> rfl) | rfl | (simp only [List.length_drop, List.length_take]; rfl)) ?_; (with_reducible refine (laws_heldIntS.calls kj15 _ _ t315 1 t316 _ ?side1 ?side2 A34.out).mono ?_); (case side1 => repeat (first | exact (Kd.R_reads' HO_8.out).2.2 | (with_reducible refine Kd.C_alloc ?_ _) | (with_reducible refine Kd.C_drewN ?_ _) | (with_reducible refine Kd.C_drew ?_))); (case side2 => rw [show t315.length = t304.length from (Kd.R_reads' HO_8.out).1.symm]; exact (Kd.R_reads' HO_8.out).2.1); rintro e w' ⟨rfl, ⟨nd, rfl⟩⟩; refine ⟨_, rfl, ?_⟩) | ((with_reducible refine gate_callee (f := 21) rfl ?_); refine goesL_ (some 59) rfl rfl Try.func21 (by kernel_rfl) rfl #[.slice A0 l0.length c0] rfl ab5 ?_; (with_reducible refine (laws_toItemS.calls kj15 _ _ l0 t317 _ ?side1 ?side2 A37.out).mono ?_); (case side1 => repeat (first | exact (Kd.C_below HR0.out ab1) | (with_reducible refine Kd.C_alloc ?_ _) | (with_reducible refine Kd.C_drewN ?_ _) | (with_reducible refine Kd.C_drew ?_))); (case side2 => exact HC0.out); rintro e w45 ⟨v318, rfl, ho0, hb⟩; refine ⟨_, rfl, ?_⟩; have n0_ := Aside0.mk (Kd.R_below (ab8 HO_6) hb); have n1_ := Aside0.mk (Kd.R_below (ab8 HO_8) hb); have n2_ := Aside0.mk (Kd.S_lower (Kd.S_new' (Kd.S_new' ho0 (Kd.R_lt (ab8 HO_6))) (Kd.R_lt (ab8 HO_8))) (below_size ab1)); have n3_ := Aside0.mk (below_step ab1 hb); clear HO_6; clear HO_8; clear HB; have HO_6 := n0_; have HO_8 := n1_; have HO319 := n2_; have HB := n3_; clear n0_ n1_ n2_ n3_; (try clear hb); (try clear hb2); (try clear hk); (try clear hi); (try clear ho0); obtain ⟨Ao46, co46, eo46⟩ := Kd.S_slice HO319.out; subst eo46) | ((with_reducible refine gate_callee (f := 35) rfl ?_); refine goesL_ (some 61) rfl rfl Try.func35 (by kernel_rfl) rfl #[.slice Ao46 t317.length co46, .int .i64 a1] rfl ab5 ?_; (with_reducible refine (impl_Way.calls kj15 _ _ t317 a1 t320 _ ?side1 ?side2 A38.out).mono ?_); (case side1 => repeat (first | exact (Kd.S_reads' HO319.out).2.2 | (with_reducible refine Kd.C_alloc ?_ _) | (with_reducible refine Kd.C_drewN ?_ _) | (with_reducible refine Kd.C_drew ?_))); (case side2 => exact (Kd.S_reads' HO319.out).2.1); rintro e w47 ⟨v321, rfl, ho0, hb⟩; refine ⟨_, rfl, ?_⟩; have n0_ := Aside0.mk (Kd.R_elder' (ab8 HO_6) (Kd.R_base ho0) hb); have n1_ := Aside0.mk (Kd.R_elder' (ab8 HO_8) (Kd.R_base ho0) hb); have n2_ := Aside0.mk (Kd.S_elder' (by (with_reducible repeat (first | apply Kd.S_alloc | apply Kd.S_drewN | apply Kd.S_drew)); exact HO319.out) (Kd.R_base ho0) hb); have n3_ := Aside0.mk (Kd.R_lower (Kd.R_new' (Kd.R_new' ho0 (Kd.R_lt (ab8 HO_6))) (Kd.R_lt (ab8 HO_8))) (below_size ab1)); have n4_ := Aside0.mk (below_step ab1 hb); clear HO_6; clear HO_8; clear HO319; clear HB; have HO_6 := n0_; have HO_8 := n1_; have HO319 := n2_; have HO322 := n3_; have HB := n4_; clear n0_ n1_ n2_ n3_ n4_; (try clear hb); (try clear hb2); (try clear hk); (try clear hi); (try clear ho0); obtain ⟨Ao48, co48, eo48⟩ := Kd.R_slice HO322.out; subst eo48) | ((with_reducible refine gate_callee (f := 28) rfl ?_); refine goesL_ (some 64) rfl rfl Try.func28 (by kernel_rfl) rfl #[.slice Ao48 t320.length co48, .slice Ao25 t298.length co25] rfl ab5 ?_; (with_reducible refine (laws_eqIntS.calls kj15 _ _ t320 _ _ t298 true _ ?side1 ?side2 ?side3 ?side4 A39.out).mono ?_); (case side1 => repeat (first | exact (Kd.R_reads' HO322.out).2.2 | (with_reducible refine Kd.C_alloc ?_ _) | (with_reducible refine Kd.C_drewN ?_ _) | (with_reducible refine Kd.C_drew ?_))); (case side2 => exact (Kd.R_reads' HO322.out).2.1); (case side3 => repeat (first | exact (Kd.R_reads' HO_6.out).2.2 | (with_reducible refine Kd.C_alloc ?_ _) | (with_reducible refine Kd.C_drewN ?_ _) | (with_reducible refine Kd.C_drew ?_))); (case side4 => exact (Kd.R_reads' HO_6.out).2.1); rintro e w' ⟨rfl, ⟨nd, rfl⟩⟩; refine ⟨_, rfl, ?_⟩) | ((with_reducible refine gate_callee (f := 31) rfl ?_); refine goesL_ (some 68) rfl rfl Try.func31 (by kernel_rfl) rfl #[.slice Ao24 t315.length co24, .int .i64 1] rfl (by (try simp only [List.map_toArray, List.map_cons, List.map_nil]); first | done | (rw [show t315.length = t304.length from (Kd.R_reads' HO_8.out).1.symm] <;> rfl) | rfl | (simp only [List.length_drop, List.length_take]; rfl)) ?_; (with_reducible refine (laws_heldIntS.calls kj15 _ _ t315 1 t324 _ ?side1 ?side2 A41.out).mono ?_); (case side1 => repeat (first | exact (Kd.R_reads' HO_8.out).2.2 | (with_reducible refine Kd.C_alloc ?_ _) | (with_reducible refine Kd.C_drewN ?_ _) | (with_reducible refine Kd.C_drew ?_))); (case side2 => rw [show t315.length = t304.length from (Kd.R_reads' HO_8.out).1.symm]; exact (Kd.R_reads' HO_8.out).2.1); rintro e w' ⟨rfl, ⟨nd, rfl⟩⟩; refine ⟨_, rfl, ?_⟩))
            go_ret
            exact ⟨ab7, ab1⟩
           ·rw [if_neg c43] at H
            have c43b0 : (t324 == t314) = false := beq_eq_false_iff_ne.mpr c43
            have c43b1 : (t324 != t314) = true := bne_iff_ne.mpr c43
            exact absurd H (by simp)
         ·replace c40 := Bool.eq_false_iff.mpr c40
          subst c40
          have H1 : (some false) = some true := by rw [if_neg (show ¬ (false = true) by decide)] at H; first | exact H | done
          clear H
          have H := H1
          clear H1
          exact absurd H (by simp)
        ·rw [if_neg c36] at H
         have c36b0 : (t316 == t314) = false := beq_eq_false_iff_ne.mpr c36
         have c36b1 : (t316 != t314) = true := bne_iff_ne.mpr c36
         exact absurd H (by simp)
   ·replace c14 := Bool.eq_false_iff.mpr c14
    subst c14
    have H1 : (some false) = some true := by rw [if_neg (show ¬ (false = true) by decide)] at H; first | exact H | done
    clear H
    have H := H1
    clear H1
    exact absurd H (by simp)
  ·replace c11 := Bool.eq_false_iff.mpr c11
   subst c11
   have H1 : (some false) = some true := by rw [if_neg (show ¬ (false = true) by decide)] at H; first | exact H | done
   clear H
   have H := H1
   clear H1
   exact absurd H (by simp)

/-- THE ONE PURE STATEMENT of laws_FnExactWay. -/
def laws_FnExactWay.Pure : Prop := ∀ (n0 : Nat) (l0 : List (S66)) (a1 : Int), (l0.length ≤ maxLen ∧ (∀ y_ ∈ l0, G66 maxLen n0 y_)) → (Lit.int .i64 a1).wf = true → ∃ k, laws_FnExactWay.f k l0 a1 = some true

end Go.Proofs.Ytfjheckgigppiaa.P
