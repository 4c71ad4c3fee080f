-- WRITTEN BY hprint.py, this session's own program, over the kit's printer: not typed by hand; Lean checks it
import Derived.Test.YtgljgbkbjlondaaDoorPp0
import Derived.Test.YtgljgbkbjlondaaDoorPp1
import Derived.Test.YtgljgbkbjlondaaDoorPp2
namespace Go.Proofs.YtgljgbkbjlondaaDoor.P
open Go.RowKit Go.Proofs.YtgljgbkbjlondaaDoorW.PrintWords Go.Proofs.YtgljgbkbjlondaaDoorW.PrintLast Go.Proofs.YtgljgbkbjlondaaDoorW.PrintMore
attribute [local go_sem] max2_int min2_int max_two min_two max_three min_three max_four min_four   -- for this text's walks alone
set_option linter.unusedVariables false
set_option linter.unusedSimpArgs false

/-! ### spec_l6Count: function 136 -/
def spec_l6Count.l0 : Nat → List Int → Int → Int → Int → Option (Int)
 | 0, _, _, _, _ => none
 | k + 1, x0, x1, x5, x6 => if x6 < (x0.length : Int) then (if 0 ≤ x6 then ((spec_l1Bit.f ((rd x0 x6) == x1)).bind fun t119 => (spec_l6Count.l0 k x0 x1 (wrap64 (x5 + t119)) (wrap64 (x6 + 1)))) else (none)) else (some x5)
def spec_l6Count.f (k : Nat) (l0 : List Int) (a1 : Int) : Option (Int) := spec_l6Count.l0 k l0 a1 0 0
theorem spec_l6Count.mono_l : ∀ k, (∀ y0 y1 y2 y3, LeO (spec_l6Count.l0 k y0 y1 y2 y3) (spec_l6Count.l0 (k + 1) y0 y1 y2 y3))
 | 0 => fun _ _ _ _ r h => by simp [spec_l6Count.l0] at h
 | k + 1 => by
  have ih0 := spec_l6Count.mono_l k
  ·intro y0 y1 y2 y3
   unfold spec_l6Count.l0
   repeat' first
   | (with_reducible exact ih0 _ _ _ _)
   | (with_reducible exact LeO.refl _)
   | (with_reducible exact LeO.none _)
   | (with_reducible refine LeO.ite ?_ ?_)
   | (with_reducible refine LeO.bind ?_ (fun _ => ?_))
theorem spec_l6Count.mono : ∀ a0 a1 k, LeO (spec_l6Count.f k a0 a1) (spec_l6Count.f (k + 1) a0 a1) := by
 intro a0 a1 k
 have ih0 := spec_l6Count.mono_l k
 unfold spec_l6Count.f
 repeat' first
   | (with_reducible exact ih0 _ _ _ _)
   | (with_reducible exact LeO.refl _)
   | (with_reducible exact LeO.none _)
   | (with_reducible refine LeO.ite ?_ ?_)
   | (with_reducible refine LeO.bind ?_ (fun _ => ?_))
set_option maxHeartbeats 8000000 in
set_option maxRecDepth 100000 in
theorem spec_l6Count.calls (k : Nat) (A0 : Option Addr) (c0 : Nat) (l0 : List Int) (a1 : Int) (r : Int) (w : World) (hr0 : Kd.C (Kd.int .i64) w A0 l0.length l0) (hc0 : l0.length ≤ c0) (h : spec_l6Count.f k l0 a1 = some r) :
  Calls Tryd.prog 136 #[.slice A0 l0.length c0, .int .i64 a1] w fun e w' => e = .returned (.int .i64 r) ∧ Drawn0 w w' := by
 have HR0 := Aside0.mk hr0
 have HC0 := Aside0.mk hc0
 clear hr0 hc0
 have H : (spec_l6Count.l0 k l0 a1 0 0) = some r := h
 clear h
 have H' := Aside0.mk H
 clear H
 go_enter Tryd.func136, Tryd.ntmps136
 go_wp2
 go_loopg [5, 6] k (fun kq v5 v6 w' => ∃ (x5_1 : Int) (x6_1 : Int), v5 = .int .i64 x5_1 ∧ v6 = .int .i64 x6_1 ∧ Aside0 (spec_l6Count.l0 kq l0 a1 x5_1 x6_1 = some r) ∧ Aside0 (kq ≤ k) ∧ Drawn0 w w')
 case atStart => exact ⟨(0), (0), ab6, ab6, H', ⟨Nat.le_refl _⟩, by repeat (first | exact Drawn0.refl _ | apply Drawn0.step)⟩
 case round =>
  clear H'
  (try clear c1); (try clear p2)
  obtain ⟨x5_1, x6_1, rfl, rfl, HA, HK1, ⟨m1, rfl⟩⟩ := hrel
  cases gk with
  | zero => exact absurd HA.out (by simp [spec_l6Count.l0])
  | succ k1 =>
   have H := HA.out
   clear HA
   simp only [spec_l6Count.l0] at H
   by_cases c3 : x6_1 < (l0.length : Int)
   ·rw [if_pos c3] at H
    have c3b0 := decide_eq_true c3
    clear c3
    by_cases c4 : 0 ≤ x6_1
    case neg => rw [if_neg c4] at H; exact absurd H (by simp)
    rw [if_pos c4] at H
    have c4b0 := decide_eq_true c4
    clear c4
    replace H := Option.bind_eq_some_iff.mp H
    obtain ⟨t119, A50, H⟩ := H
    try dsimp only at H
    have A5 := Aside0.mk A50
    clear A50
    have H' := Aside0.mk H
    clear H
    have p118 : 0 ≤ (x6_1 : Int) := of_decide_eq_true ab4
    have q118 : x6_1 < (l0.length : Int) := of_decide_eq_true ab4
    obtain ⟨ad118, e118, hx118_0⟩ := Kd.at_int HR0.out x6_1 p118 q118
    cases e118
    replace p118 := eq_true p118
    replace q118 := eq_true q118
    go_wp2_with (first | ((with_reducible refine gate_callee (f := 155) rfl ?_); refine goesL_ (some 20) rfl rfl Tryd.func155 (by kernel_rfl) rfl #[.bool ((rd l0 x6_1) == a1)] rfl ab5 ?_; (with_reducible refine (spec_l1Bit.calls ((rd l0 x6_1) == a1) t119 _ A5.out).mono ?_); rintro e w' ⟨rfl, ⟨nd, rfl⟩⟩; refine ⟨_, rfl, ?_⟩))
    go_roundg k1
    case measure => have := HK1.out; omega
    case rel => exact ⟨(wrap64 (x5_1 + t119)), (wrap64 (x6_1 + 1)), ab6, ab6, H', ⟨by have := HK1.out; omega⟩, by repeat (first | exact Drawn0.refl _ | apply Drawn0.step)⟩
   ·rw [if_neg c3] at H
    have c3b0 := decide_eq_false c3
    clear c3
    obtain rfl := Option.some.inj H
    go_wp2
    go_ret
    exact ⟨ab6, by repeat (first | exact Drawn0.refl _ | apply Drawn0.step)⟩

/-! ### spec_l6Links: function 103 -/
mutual
def spec_l6Links.l0 : Nat → List (S90) → Int → Option (Bool)
 | 0, _, _ => none
 | k + 1, x0, x3 => if x3 < (x0.length : Int) then (if 0 ≤ x3 then (if x3 = 0 then (if ((rd_T90 x0 x3).f5) = (-1) then (if x3 > 0 then ((spec_l1In.f ((rd_T90 x0 x3).f5) 0 (wrap64 ((x0.length : Int) - 1))).bind fun t121 => (if t121 = true then (if 0 ≤ ((rd_T90 x0 x3).f5) then (if ((rd_T90 x0 x3).f5) < (x0.length : Int) then ((spec_l6Count.f k ((rd_T90 x0 ((rd_T90 x0 x3).f5)).f6) x3).bind fun t123 => (spec_l6Links.j1 k x0 x3 (t123 != 1))) else (none)) else (none)) else (spec_l6Links.j1 k x0 x3 true))) else (spec_l6Links.j1 k x0 x3 false)) else (spec_l6Links.j1 k x0 x3 true)) else (if x3 > 0 then ((spec_l1In.f ((rd_T90 x0 x3).f5) 0 (wrap64 ((x0.length : Int) - 1))).bind fun t124 => (if t124 = true then (if 0 ≤ ((rd_T90 x0 x3).f5) then (if ((rd_T90 x0 x3).f5) < (x0.length : Int) then ((spec_l6Count.f k ((rd_T90 x0 ((rd_T90 x0 x3).f5)).f6) x3).bind fun t126 => (spec_l6Links.j1 k x0 x3 (t126 != 1))) else (none)) else (none)) else (spec_l6Links.j1 k x0 x3 true))) else (spec_l6Links.j1 k x0 x3 false))) else (none)) else (some true)
def spec_l6Links.j1 : Nat → List (S90) → Int → Bool → Option (Bool)
 | 0, _, _, _ => none
 | k + 1, x0, x3, x45 => if x45 = true then (some false) else (spec_l6Links.l1 k x0 x3 0)
def spec_l6Links.l1 : Nat → List (S90) → Int → Int → Option (Bool)
 | 0, _, _, _ => none
 | k + 1, x0, x3, x5 => if 0 ≤ x3 then (if x3 < (x0.length : Int) then (if x5 < (((rd_T90 x0 x3).f6).length : Int) then (if 0 ≤ x5 then ((spec_l1In.f (rd ((rd_T90 x0 x3).f6) x5) 1 (wrap64 ((x0.length : Int) - 1))).bind fun t130 => (if t130 = true then (if 0 ≤ (rd ((rd_T90 x0 x3).f6) x5) then (if (rd ((rd_T90 x0 x3).f6) x5) < (x0.length : Int) then (if ((rd_T90 x0 (rd ((rd_T90 x0 x3).f6) x5)).f5) = x3 then (spec_l6Links.l1 k x0 x3 (wrap64 (x5 + 1))) else (some false)) else (none)) else (none)) else (some false))) else (none)) else (spec_l6Links.l0 k x0 (wrap64 (x3 + 1)))) else (none)) else (none)
end
def spec_l6Links.f (k : Nat) (l0 : List (S90)) : Option (Bool) := spec_l6Links.l0 k l0 0
theorem spec_l6Links.mono_l : ∀ k, (∀ y0 y1, LeO (spec_l6Links.l0 k y0 y1) (spec_l6Links.l0 (k + 1) y0 y1)) ∧ (∀ y0 y1 y2, LeO (spec_l6Links.j1 k y0 y1 y2) (spec_l6Links.j1 (k + 1) y0 y1 y2)) ∧ (∀ y0 y1 y2, LeO (spec_l6Links.l1 k y0 y1 y2) (spec_l6Links.l1 (k + 1) y0 y1 y2))
 | 0 => ⟨fun _ _ r h => by simp [spec_l6Links.l0] at h, fun _ _ _ r h => by simp [spec_l6Links.j1] at h, fun _ _ _ r h => by simp [spec_l6Links.l1] at h⟩
 | k + 1 => by
  obtain ⟨ih0, ih1, ih2⟩ := spec_l6Links.mono_l k
  refine ⟨?_, ?_, ?_⟩
  ·intro y0 y1
   unfold spec_l6Links.l0
   repeat' first
   | (with_reducible exact ih0 _ _)
   | (with_reducible exact ih1 _ _ _)
   | (with_reducible exact ih2 _ _ _)
   | (with_reducible exact spec_l6Count.mono _ _ _)
   | (with_reducible exact LeO.refl _)
   | (with_reducible exact LeO.none _)
   | (with_reducible refine LeO.ite ?_ ?_)
   | (with_reducible refine LeO.bind ?_ (fun _ => ?_))
  ·intro y0 y1 y2
   unfold spec_l6Links.j1
   repeat' first
   | (with_reducible exact ih0 _ _)
   | (with_reducible exact ih1 _ _ _)
   | (with_reducible exact ih2 _ _ _)
   | (with_reducible exact spec_l6Count.mono _ _ _)
   | (with_reducible exact LeO.refl _)
   | (with_reducible exact LeO.none _)
   | (with_reducible refine LeO.ite ?_ ?_)
   | (with_reducible refine LeO.bind ?_ (fun _ => ?_))
  ·intro y0 y1 y2
   unfold spec_l6Links.l1
   repeat' first
   | (with_reducible exact ih0 _ _)
   | (with_reducible exact ih1 _ _ _)
   | (with_reducible exact ih2 _ _ _)
   | (with_reducible exact spec_l6Count.mono _ _ _)
   | (with_reducible exact LeO.refl _)
   | (with_reducible exact LeO.none _)
   | (with_reducible refine LeO.ite ?_ ?_)
   | (with_reducible refine LeO.bind ?_ (fun _ => ?_))
theorem spec_l6Links.mono : ∀ a0 k, LeO (spec_l6Links.f k a0) (spec_l6Links.f (k + 1) a0) := by
 intro a0 k
 obtain ⟨ih0, ih1, ih2⟩ := spec_l6Links.mono_l k
 unfold spec_l6Links.f
 repeat' first
   | (with_reducible exact ih0 _ _)
   | (with_reducible exact ih1 _ _ _)
   | (with_reducible exact ih2 _ _ _)
   | (with_reducible exact spec_l6Count.mono _ _ _)
   | (with_reducible exact LeO.refl _)
   | (with_reducible exact LeO.none _)
   | (with_reducible refine LeO.ite ?_ ?_)
   | (with_reducible refine LeO.bind ?_ (fun _ => ?_))
set_option maxHeartbeats 8000000 in
set_option maxRecDepth 100000 in
theorem spec_l6Links.calls (k : Nat) (A0 : Option Addr) (c0 : Nat) (l0 : List (S90)) (r : Bool) (w : World) (hr0 : Kd.C k90 w A0 l0.length l0) (hc0 : l0.length ≤ c0) (h : spec_l6Links.f k l0 = some r) :
  Calls Tryd.prog 103 #[.slice A0 l0.length c0] w fun e w' => e = .returned (.bool r) ∧ Drawn0 w w' := by
 have HR0 := Aside0.mk hr0
 have HC0 := Aside0.mk hc0
 clear hr0 hc0
 have H : (spec_l6Links.l0 k l0 0) = some r := h
 clear h
 have H' := Aside0.mk H
 clear H
 go_enter Tryd.func103, Tryd.ntmps103
 go_wp2
 go_loopg [3] k (fun kq v3 w' => ∃ (x3_1 : Int), v3 = .int .i64 x3_1 ∧ Aside0 (spec_l6Links.l0 kq l0 x3_1 = some r) ∧ Aside0 (kq ≤ k) ∧ Drawn0 w w')
 case atStart => exact ⟨(0), ab6, H', ⟨Nat.le_refl _⟩, by repeat (first | exact Drawn0.refl _ | apply Drawn0.step)⟩
 case round =>
  clear H'
  try clear c1
  obtain ⟨x3_1, rfl, HA, HK1, ⟨m1, rfl⟩⟩ := hrel
  cases gk with
  | zero => exact absurd HA.out (by simp [spec_l6Links.l0])
  | succ k1 =>
   have H := HA.out
   clear HA
   simp only [spec_l6Links.l0] at H
   by_cases c2 : x3_1 < (l0.length : Int)
   ·rw [if_pos c2] at H
    have c2b0 := decide_eq_true c2
    clear c2
    by_cases c3 : 0 ≤ x3_1
    case neg => rw [if_neg c3] at H; exact absurd H (by simp)
    rw [if_pos c3] at H
    have c3b0 := decide_eq_true c3
    clear c3
    have HC4 := Aside0.mk H
    clear H
    have p120 : 0 ≤ (x3_1 : Int) := of_decide_eq_true ab4
    have q120 : x3_1 < (l0.length : Int) := of_decide_eq_true ab4
    obtain ⟨ad120, A120_3, c120_3, A120_6, c120_6, e120, hx120_0, hx120_1, hx120_2, hx120_3, hx120_4, hx120_5, hx120_6, hl120_3, hi120_3, hl120_6, hi120_6⟩ := at_T90 HR0.out x3_1 p120 q120
    cases e120
    have HR120_3 := Aside0.mk hi120_3
    have HC120_3 := Aside0.mk hl120_3
    clear hi120_3 hl120_3
    have HR120_6 := Aside0.mk hi120_6
    have HC120_6 := Aside0.mk hl120_6
    clear hi120_6 hl120_6
    replace p120 := eq_true p120
    replace q120 := eq_true q120
    go_upto_region 5 with (fail)
    go_cut [45] (fun v45 wc => ∃ (kq : Nat) (x45_3 : Bool), v45 = .bool x45_3 ∧ Aside0 (spec_l6Links.j1 kq l0 x3_1 x45_3 = some r) ∧ Aside0 (kq ≤ k1) ∧ Drawn0 w wc)
    case first =>
     have H := HC4.out
     clear HC4
     by_cases c5 : x3_1 = 0
     ·rw [if_pos c5] at H
      have c5b0 : (x3_1 == 0) = true := beq_iff_eq.mpr c5
      have c5b1 : (x3_1 != 0) = false := bne_eq_false_iff_eq.mpr c5
      clear c5
      (first | rw [c5b0] | (simp only [i64_w, i32_w]; rw [c5b0]) | skip)
      (try (generalize hgzc5 : (x3_1 == 0) = bqc5 at *; subst c5b0; have c5b0 := hgzc5; clear hgzc5))
      by_cases c6 : ((rd_T90 l0 x3_1).f5) = (-1)
      ·rw [if_pos c6] at H
       have c6b0 : (((rd_T90 l0 x3_1).f5) == (-1)) = true := beq_iff_eq.mpr c6
       have c6b1 : (((rd_T90 l0 x3_1).f5) != (-1)) = false := bne_eq_false_iff_eq.mpr c6
       clear c6
       by_cases c7 : x3_1 > 0
       ·rw [if_pos c7] at H
        have c7b0 : decide (0 < x3_1) = true := decide_eq_true c7
        clear c7
        replace H := Option.bind_eq_some_iff.mp H
        obtain ⟨t121, A80, H⟩ := H
        replace H : (if t121 = true then (if 0 ≤ ((rd_T90 l0 x3_1).f5) then (if ((rd_T90 l0 x3_1).f5) < (l0.length : Int) then ((spec_l6Count.f k1 ((rd_T90 l0 ((rd_T90 l0 x3_1).f5)).f6) x3_1).bind fun t123 => (spec_l6Links.j1 k1 l0 x3_1 (t123 != 1))) else (none)) else (none)) else (spec_l6Links.j1 k1 l0 x3_1 true)) = some r := by first | exact H | (rw [c5b0]; exact H)
        have A8 := Aside0.mk A80
        clear A80
        by_cases c9 : t121 = true
        ·subst c9
         rw [if_pos rfl] at H
         by_cases c10 : 0 ≤ ((rd_T90 l0 x3_1).f5)
         case neg => rw [if_neg c10] at H; exact absurd H (by simp)
         rw [if_pos c10] at H
         have c10b0 := decide_eq_true c10
         clear c10
         by_cases c11 : ((rd_T90 l0 x3_1).f5) < (l0.length : Int)
         case neg => rw [if_neg c11] at H; exact absurd H (by simp)
         rw [if_pos c11] at H
         have c11b0 := decide_eq_true c11
         clear c11
         replace H := Option.bind_eq_some_iff.mp H
         obtain ⟨t123, A120, H⟩ := H
         replace H : (spec_l6Links.j1 k1 l0 x3_1 (t123 != 1)) = some r := by first | exact H | (rw [c5b0]; exact H)
         have A12 := Aside0.mk A120
         clear A120
         have H' := Aside0.mk H
         clear H
         go_wp2_with (first | (go_at_call 68; (with_reducible refine (spec_l1In.calls ((rd_T90 l0 x3_1).f5) 0 (wrap64 ((l0.length : Int) - 1)) true _ A8.out).mono ?_); rintro e w' ⟨rfl, ⟨nd, rfl⟩⟩; have p122 : 0 ≤ (((rd_T90 l0 x3_1).f5) : Int) := of_decide_eq_true ab4; have q122 : ((rd_T90 l0 x3_1).f5) < (l0.length : Int) := of_decide_eq_true ab4; obtain ⟨ad122, A122_3, c122_3, A122_6, c122_6, e122, hx122_0, hx122_1, hx122_2, hx122_3, hx122_4, hx122_5, hx122_6, hl122_3, hi122_3, hl122_6, hi122_6⟩ := at_T90 HR0.out ((rd_T90 l0 x3_1).f5) p122 q122; obtain rfl : ad120 = ad122 := (by injection e122); have HR122_3 := Aside0.mk hi122_3; have HC122_3 := Aside0.mk hl122_3; clear hi122_3 hl122_3; have HR122_6 := Aside0.mk hi122_6; have HC122_6 := Aside0.mk hl122_6; clear hi122_6 hl122_6; replace p122 := eq_true p122; replace q122 := eq_true q122) | (go_at_call 136; (with_reducible refine (spec_l6Count.calls k1 _ _ ((rd_T90 l0 ((rd_T90 l0 x3_1).f5)).f6) x3_1 t123 _ ?side1 ?side2 A12.out).mono ?_); (case side1 => repeat (first | exact HR122_6.out | (with_reducible refine Kd.C_alloc ?_ _) | (with_reducible refine Kd.C_drewN ?_ _) | (with_reducible refine Kd.C_drew ?_))); (case side2 => exact HC122_6.out); rintro e w' ⟨rfl, ⟨nd, rfl⟩⟩))
         go_meet
         case rel => exact ⟨_, ((t123 != 1)), ab6, (by first | exact H' | (have h_ := H'.out; rw [c5b0] at h_; exact ⟨h_⟩)), ⟨by have := HK1.out; first | omega | exact Nat.le_refl _⟩, by repeat (first | exact Drawn0.refl _ | apply Drawn0.step)⟩
        ·replace c9 := Bool.eq_false_iff.mpr c9
         subst c9
         rw [if_neg (show ¬ (false = true) by decide)] at H
         have H' := Aside0.mk H
         clear H
         go_wp2_with (first | (go_at_call 68; (with_reducible refine (spec_l1In.calls ((rd_T90 l0 x3_1).f5) 0 (wrap64 ((l0.length : Int) - 1)) false _ A8.out).mono ?_); rintro e w' ⟨rfl, ⟨nd, rfl⟩⟩))
         go_meet
         case rel => exact ⟨_, (true), ab6, (by first | exact H' | (have h_ := H'.out; rw [c5b0] at h_; exact ⟨h_⟩)), ⟨by have := HK1.out; first | omega | exact Nat.le_refl _⟩, by repeat (first | exact Drawn0.refl _ | apply Drawn0.step)⟩
       ·rw [if_neg c7] at H
        have c7b0 : decide (0 < x3_1) = false := decide_eq_false c7
        clear c7
        have H' := Aside0.mk H
        clear H
        go_wp2
        go_meet
        case rel => exact ⟨_, (false), ab6, (by first | exact H' | (have h_ := H'.out; rw [c5b0] at h_; exact ⟨h_⟩)), ⟨by have := HK1.out; first | omega | exact Nat.le_refl _⟩, by repeat (first | exact Drawn0.refl _ | apply Drawn0.step)⟩
      ·rw [if_neg c6] at H
       have c6b0 : (((rd_T90 l0 x3_1).f5) == (-1)) = false := beq_eq_false_iff_ne.mpr c6
       have c6b1 : (((rd_T90 l0 x3_1).f5) != (-1)) = true := bne_iff_ne.mpr c6
       have H' := Aside0.mk H
       clear H
       go_wp2
       go_meet
       case rel => exact ⟨_, (true), ab6, (by first | exact H' | (have h_ := H'.out; rw [c5b0] at h_; exact ⟨h_⟩)), ⟨by have := HK1.out; first | omega | exact Nat.le_refl _⟩, by repeat (first | exact Drawn0.refl _ | apply Drawn0.step)⟩
     ·rw [if_neg c5] at H
      have c5b0 : (x3_1 == 0) = false := beq_eq_false_iff_ne.mpr c5
      have c5b1 : (x3_1 != 0) = true := bne_iff_ne.mpr c5
      (first | rw [c5b0] | (simp only [i64_w, i32_w]; rw [c5b0]) | skip)
      (try (generalize hgzc5 : (x3_1 == 0) = bqc5 at *; subst c5b0; have c5b0 := hgzc5; clear hgzc5))
      by_cases c13 : x3_1 > 0
      ·rw [if_pos c13] at H
       have c13b0 : decide (0 < x3_1) = true := decide_eq_true c13
       clear c13
       replace H := Option.bind_eq_some_iff.mp H
       obtain ⟨t124, A140, H⟩ := H
       replace H : (if t124 = true then (if 0 ≤ ((rd_T90 l0 x3_1).f5) then (if ((rd_T90 l0 x3_1).f5) < (l0.length : Int) then ((spec_l6Count.f k1 ((rd_T90 l0 ((rd_T90 l0 x3_1).f5)).f6) x3_1).bind fun t126 => (spec_l6Links.j1 k1 l0 x3_1 (t126 != 1))) else (none)) else (none)) else (spec_l6Links.j1 k1 l0 x3_1 true)) = some r := by first | exact H | (rw [c5b0]; exact H)
       have A14 := Aside0.mk A140
       clear A140
       by_cases c15 : t124 = true
       ·subst c15
        rw [if_pos rfl] at H
        by_cases c16 : 0 ≤ ((rd_T90 l0 x3_1).f5)
        case neg => rw [if_neg c16] at H; exact absurd H (by simp)
        rw [if_pos c16] at H
        have c16b0 := decide_eq_true c16
        clear c16
        by_cases c17 : ((rd_T90 l0 x3_1).f5) < (l0.length : Int)
        case neg => rw [if_neg c17] at H; exact absurd H (by simp)
        rw [if_pos c17] at H
        have c17b0 := decide_eq_true c17
        clear c17
        replace H := Option.bind_eq_some_iff.mp H
        obtain ⟨t126, A180, H⟩ := H
        replace H : (spec_l6Links.j1 k1 l0 x3_1 (t126 != 1)) = some r := by first | exact H | (rw [c5b0]; exact H)
        have A18 := Aside0.mk A180
        clear A180
        have H' := Aside0.mk H
        clear H
        go_wp2_with (first | (go_at_call 68; (with_reducible refine (spec_l1In.calls ((rd_T90 l0 x3_1).f5) 0 (wrap64 ((l0.length : Int) - 1)) true _ A14.out).mono ?_); rintro e w' ⟨rfl, ⟨nd, rfl⟩⟩; have p125 : 0 ≤ (((rd_T90 l0 x3_1).f5) : Int) := of_decide_eq_true ab4; have q125 : ((rd_T90 l0 x3_1).f5) < (l0.length : Int) := of_decide_eq_true ab4; obtain ⟨ad125, A125_3, c125_3, A125_6, c125_6, e125, hx125_0, hx125_1, hx125_2, hx125_3, hx125_4, hx125_5, hx125_6, hl125_3, hi125_3, hl125_6, hi125_6⟩ := at_T90 HR0.out ((rd_T90 l0 x3_1).f5) p125 q125; obtain rfl : ad120 = ad125 := (by injection e125); have HR125_3 := Aside0.mk hi125_3; have HC125_3 := Aside0.mk hl125_3; clear hi125_3 hl125_3; have HR125_6 := Aside0.mk hi125_6; have HC125_6 := Aside0.mk hl125_6; clear hi125_6 hl125_6; replace p125 := eq_true p125; replace q125 := eq_true q125) | (go_at_call 136; (with_reducible refine (spec_l6Count.calls k1 _ _ ((rd_T90 l0 ((rd_T90 l0 x3_1).f5)).f6) x3_1 t126 _ ?side1 ?side2 A18.out).mono ?_); (case side1 => repeat (first | exact HR125_6.out | (with_reducible refine Kd.C_alloc ?_ _) | (with_reducible refine Kd.C_drewN ?_ _) | (with_reducible refine Kd.C_drew ?_))); (case side2 => exact HC125_6.out); rintro e w' ⟨rfl, ⟨nd, rfl⟩⟩))
        go_meet
        case rel => exact ⟨_, ((t126 != 1)), ab6, (by first | exact H' | (have h_ := H'.out; rw [c5b0] at h_; exact ⟨h_⟩)), ⟨by have := HK1.out; first | omega | exact Nat.le_refl _⟩, by repeat (first | exact Drawn0.refl _ | apply Drawn0.step)⟩
       ·replace c15 := Bool.eq_false_iff.mpr c15
        subst c15
        rw [if_neg (show ¬ (false = true) by decide)] at H
        have H' := Aside0.mk H
        clear H
        go_wp2_with (first | (go_at_call 68; (with_reducible refine (spec_l1In.calls ((rd_T90 l0 x3_1).f5) 0 (wrap64 ((l0.length : Int) - 1)) false _ A14.out).mono ?_); rintro e w' ⟨rfl, ⟨nd, rfl⟩⟩))
        go_meet
        case rel => exact ⟨_, (true), ab6, (by first | exact H' | (have h_ := H'.out; rw [c5b0] at h_; exact ⟨h_⟩)), ⟨by have := HK1.out; first | omega | exact Nat.le_refl _⟩, by repeat (first | exact Drawn0.refl _ | apply Drawn0.step)⟩
      ·rw [if_neg c13] at H
       have c13b0 : decide (0 < x3_1) = false := decide_eq_false c13
       clear c13
       have H' := Aside0.mk H
       clear H
       go_wp2
       go_meet
       case rel => exact ⟨_, (false), ab6, (by first | exact H' | (have h_ := H'.out; rw [c5b0] at h_; exact ⟨h_⟩)), ⟨by have := HK1.out; first | omega | exact Nat.le_refl _⟩, by repeat (first | exact Drawn0.refl _ | apply Drawn0.step)⟩
    case rest =>
     clear HC4
     (try clear c1); (try clear p1); (try clear q1); (try clear hx1); (try clear c2); (try clear c2b0); (try clear p2); (try clear c3); (try clear c3b0); (try clear c5); (try clear c5b0); (try clear c5b1); (try clear c6); (try clear c6b0); (try clear c6b1); (try clear p6); (try clear c7); (try clear c7b0); (try clear c9); (try clear c10); (try clear c10b0); (try clear c11); (try clear c11b0); (try clear c12); (try clear p12); (try clear q12); (try clear hx12); (try clear c13); (try clear c13b0); (try clear c15); (try clear c16); (try clear c16b0); (try clear c17); (try clear c17b0); (try clear hx120_0); (try clear hx120_1); (try clear hx120_2); (try clear hx120_3); (try clear hx120_4); (try clear hx120_5); (try clear hx120_6); (try clear hx122_0); (try clear hx122_1); (try clear hx122_2); (try clear hx122_3); (try clear hx122_4); (try clear hx122_5); (try clear hx122_6); (try clear hx125_0); (try clear hx125_1); (try clear hx125_2); (try clear hx125_3); (try clear hx125_4); (try clear hx125_5); (try clear hx125_6); (try clear p120); (try clear p122); (try clear p125); (try clear q120); (try clear q122); (try clear q125)
     obtain ⟨kq, x45_3, rfl, HA, HJ3, ⟨mc3, rfl⟩⟩ := hcut
     cases kq with
     | zero => exact absurd HA.out (by simp [spec_l6Links.j1])
     | succ kj3 =>
      have H := HA.out
      clear HA
      simp only [spec_l6Links.j1] at H
      by_cases c19 : x45_3 = true
      ·subst c19
       rw [if_pos rfl] at H
       obtain rfl := Option.some.inj H
       go_wp2
       go_ret
       exact ⟨ab6, by repeat (first | exact Drawn0.refl _ | apply Drawn0.step)⟩
      ·replace c19 := Bool.eq_false_iff.mpr c19
       subst c19
       rw [if_neg (show ¬ (false = true) by decide)] at H
       have H' := Aside0.mk H
       clear H
       go_wp2
       go_loopg [5] kj3 (fun kq v5 w' => ∃ (x5_3 : Int), v5 = .int .i64 x5_3 ∧ Aside0 (spec_l6Links.l1 kq l0 x3_1 x5_3 = some r) ∧ Aside0 (kq ≤ kj3) ∧ Drawn0 w w')
       case atStart => exact ⟨(0), ab6, H', ⟨Nat.le_refl _⟩, by repeat (first | exact Drawn0.refl _ | apply Drawn0.step)⟩
       case round =>
        clear H'
        (try clear c1); (try clear p1); (try clear q1); (try clear hx1); (try clear c2); (try clear c2b0); (try clear p2); (try clear c3); (try clear c3b0); (try clear c5); (try clear c5b0); (try clear c5b1); (try clear c6); (try clear c6b0); (try clear c6b1); (try clear p6); (try clear c7); (try clear c7b0); (try clear c9); (try clear c10); (try clear c10b0); (try clear c11); (try clear c11b0); (try clear c12); (try clear p12); (try clear q12); (try clear hx12); (try clear c13); (try clear c13b0); (try clear c15); (try clear c16); (try clear c16b0); (try clear c17); (try clear c17b0); (try clear c19); (try clear hx120_0); (try clear hx120_1); (try clear hx120_2); (try clear hx120_3); (try clear hx120_4); (try clear hx120_5); (try clear hx120_6); (try clear hx122_0); (try clear hx122_1); (try clear hx122_2); (try clear hx122_3); (try clear hx122_4); (try clear hx122_5); (try clear hx122_6); (try clear hx125_0); (try clear hx125_1); (try clear hx125_2); (try clear hx125_3); (try clear hx125_4); (try clear hx125_5); (try clear hx125_6); (try clear p1); (try clear p12); (try clear p120); (try clear p122); (try clear p125); (try clear p2); (try clear p6); (try clear q1); (try clear q12); (try clear q120); (try clear q122); (try clear q125)
        obtain ⟨x5_3, rfl, HA, HK3, ⟨m3, rfl⟩⟩ := hrel
        cases gk with
        | zero => exact absurd HA.out (by simp [spec_l6Links.l1])
        | succ k3 =>
         have H := HA.out
         clear HA
         simp only [spec_l6Links.l1] at H
         by_cases c20 : 0 ≤ x3_1
         case neg => rw [if_neg c20] at H; exact absurd H (by simp)
         rw [if_pos c20] at H
         have c20b0 := decide_eq_true c20
         clear c20
         by_cases c21 : x3_1 < (l0.length : Int)
         case neg => rw [if_neg c21] at H; exact absurd H (by simp)
         rw [if_pos c21] at H
         have c21b0 := decide_eq_true c21
         clear c21
         by_cases c22 : x5_3 < (((rd_T90 l0 x3_1).f6).length : Int)
         ·rw [if_pos c22] at H
          have c22b0 := decide_eq_true c22
          clear c22
          by_cases c23 : 0 ≤ x5_3
          case neg => rw [if_neg c23] at H; exact absurd H (by simp)
          rw [if_pos c23] at H
          have c23b0 := decide_eq_true c23
          clear c23
          replace H := Option.bind_eq_some_iff.mp H
          obtain ⟨t130, A240, H⟩ := H
          try dsimp only at H
          have A24 := Aside0.mk A240
          clear A240
          by_cases c25 : t130 = true
          ·subst c25
           rw [if_pos rfl] at H
           by_cases c26 : 0 ≤ (rd ((rd_T90 l0 x3_1).f6) x5_3)
           case neg => rw [if_neg c26] at H; exact absurd H (by simp)
           rw [if_pos c26] at H
           have c26b0 := decide_eq_true c26
           clear c26
           by_cases c27 : (rd ((rd_T90 l0 x3_1).f6) x5_3) < (l0.length : Int)
           case neg => rw [if_neg c27] at H; exact absurd H (by simp)
           rw [if_pos c27] at H
           have c27b0 := decide_eq_true c27
           clear c27
           by_cases c28 : ((rd_T90 l0 (rd ((rd_T90 l0 x3_1).f6) x5_3)).f5) = x3_1
           ·rw [if_pos c28] at H
            have c28b0 : (((rd_T90 l0 (rd ((rd_T90 l0 x3_1).f6) x5_3)).f5) == x3_1) = true := beq_iff_eq.mpr c28
            have c28b1 : (((rd_T90 l0 (rd ((rd_T90 l0 x3_1).f6) x5_3)).f5) != x3_1) = false := bne_eq_false_iff_eq.mpr c28
            clear c28
            have H' := Aside0.mk H
            clear H
            have p127 : 0 ≤ (x3_1 : Int) := of_decide_eq_true ab4
            have q127 : x3_1 < (l0.length : Int) := of_decide_eq_true ab4
            obtain ⟨ad127, A127_3, c127_3, A127_6, c127_6, e127, hx127_0, hx127_1, hx127_2, hx127_3, hx127_4, hx127_5, hx127_6, hl127_3, hi127_3, hl127_6, hi127_6⟩ := at_T90 HR0.out x3_1 p127 q127
            obtain rfl : ad120 = ad127 := (by injection e127)
            have HR127_3 := Aside0.mk hi127_3
            have HC127_3 := Aside0.mk hl127_3
            clear hi127_3 hl127_3
            have HR127_6 := Aside0.mk hi127_6
            have HC127_6 := Aside0.mk hl127_6
            clear hi127_6 hl127_6
            replace p127 := eq_true p127
            replace q127 := eq_true q127
            have p128 : 0 ≤ (x3_1 : Int) := of_decide_eq_true ab4
            have q128 : x3_1 < (l0.length : Int) := of_decide_eq_true ab4
            obtain ⟨ad128, A128_3, c128_3, A128_6, c128_6, e128, hx128_0, hx128_1, hx128_2, hx128_3, hx128_4, hx128_5, hx128_6, hl128_3, hi128_3, hl128_6, hi128_6⟩ := at_T90 HR0.out x3_1 p128 q128
            obtain rfl : ad120 = ad128 := (by injection e128)
            have HR128_3 := Aside0.mk hi128_3
            have HC128_3 := Aside0.mk hl128_3
            clear hi128_3 hl128_3
            have HR128_6 := Aside0.mk hi128_6
            have HC128_6 := Aside0.mk hl128_6
            clear hi128_6 hl128_6
            replace p128 := eq_true p128
            replace q128 := eq_true q128
            have ea_ := Option.some.inj (hx127_3.symm.trans hx128_3)
            injection ea_ with ea_ en_ ec_
            subst ea_
            subst ec_
            clear en_
            have ea_ := Option.some.inj (hx127_6.symm.trans hx128_6)
            injection ea_ with ea_ en_ ec_
            subst ea_
            subst ec_
            clear en_
            have p129 : 0 ≤ (x5_3 : Int) := of_decide_eq_true ab4
            have q129 : x5_3 < (((rd_T90 l0 x3_1).f6).length : Int) := of_decide_eq_true ab4
            obtain ⟨ad129, e129, hx129_0⟩ := Kd.at_int HR128_6.out x5_3 p129 q129
            cases e129
            replace p129 := eq_true p129
            replace q129 := eq_true q129
            go_wp2_with (first | ((with_reducible refine gate_callee (f := 68) rfl ?_); refine goesL_ (some 68) rfl rfl Tryd.func68 (by kernel_rfl) rfl #[.int .i64 (rd ((rd_T90 l0 x3_1).f6) x5_3), .int .i64 1, .int .i64 (wrap64 ((l0.length : Int) - 1))] rfl ab5 ?_; (with_reducible refine (spec_l1In.calls (rd ((rd_T90 l0 x3_1).f6) x5_3) 1 (wrap64 ((l0.length : Int) - 1)) true _ A24.out).mono ?_); rintro e w' ⟨rfl, ⟨nd, rfl⟩⟩; refine ⟨_, rfl, ?_⟩; have p131 : 0 ≤ ((rd ((rd_T90 l0 x3_1).f6) x5_3) : Int) := of_decide_eq_true ab4; have q131 : (rd ((rd_T90 l0 x3_1).f6) x5_3) < (l0.length : Int) := of_decide_eq_true ab4; obtain ⟨ad131, A131_3, c131_3, A131_6, c131_6, e131, hx131_0, hx131_1, hx131_2, hx131_3, hx131_4, hx131_5, hx131_6, hl131_3, hi131_3, hl131_6, hi131_6⟩ := at_T90 HR0.out (rd ((rd_T90 l0 x3_1).f6) x5_3) p131 q131; obtain rfl : ad120 = ad131 := (by injection e131); have HR131_3 := Aside0.mk hi131_3; have HC131_3 := Aside0.mk hl131_3; clear hi131_3 hl131_3; have HR131_6 := Aside0.mk hi131_6; have HC131_6 := Aside0.mk hl131_6; clear hi131_6 hl131_6; replace p131 := eq_true p131; replace q131 := eq_true q131))
            go_roundg k3
            case measure => have := HK1.out; have := HJ3.out; have := HK3.out; omega
            case rel => exact ⟨(wrap64 (x5_3 + 1)), ab6, H', ⟨by have := HK1.out; have := HJ3.out; have := HK3.out; omega⟩, by repeat (first | exact Drawn0.refl _ | apply Drawn0.step)⟩
           ·rw [if_neg c28] at H
            have c28b0 : (((rd_T90 l0 (rd ((rd_T90 l0 x3_1).f6) x5_3)).f5) == x3_1) = false := beq_eq_false_iff_ne.mpr c28
            have c28b1 : (((rd_T90 l0 (rd ((rd_T90 l0 x3_1).f6) x5_3)).f5) != x3_1) = true := bne_iff_ne.mpr c28
            obtain rfl := Option.some.inj H
            have p127 : 0 ≤ (x3_1 : Int) := of_decide_eq_true ab4
            have q127 : x3_1 < (l0.length : Int) := of_decide_eq_true ab4
            obtain ⟨ad127, A127_3, c127_3, A127_6, c127_6, e127, hx127_0, hx127_1, hx127_2, hx127_3, hx127_4, hx127_5, hx127_6, hl127_3, hi127_3, hl127_6, hi127_6⟩ := at_T90 HR0.out x3_1 p127 q127
            obtain rfl : ad120 = ad127 := (by injection e127)
            have HR127_3 := Aside0.mk hi127_3
            have HC127_3 := Aside0.mk hl127_3
            clear hi127_3 hl127_3
            have HR127_6 := Aside0.mk hi127_6
            have HC127_6 := Aside0.mk hl127_6
            clear hi127_6 hl127_6
            replace p127 := eq_true p127
            replace q127 := eq_true q127
            have p128 : 0 ≤ (x3_1 : Int) := of_decide_eq_true ab4
            have q128 : x3_1 < (l0.length : Int) := of_decide_eq_true ab4
            obtain ⟨ad128, A128_3, c128_3, A128_6, c128_6, e128, hx128_0, hx128_1, hx128_2, hx128_3, hx128_4, hx128_5, hx128_6, hl128_3, hi128_3, hl128_6, hi128_6⟩ := at_T90 HR0.out x3_1 p128 q128
            obtain rfl : ad120 = ad128 := (by injection e128)
            have HR128_3 := Aside0.mk hi128_3
            have HC128_3 := Aside0.mk hl128_3
            clear hi128_3 hl128_3
            have HR128_6 := Aside0.mk hi128_6
            have HC128_6 := Aside0.mk hl128_6
            clear hi128_6 hl128_6
            replace p128 := eq_true p128
            replace q128 := eq_true q128
            have ea_ := Option.some.inj (hx127_3.symm.trans hx128_3)
            injection ea_ with ea_ en_ ec_
            subst ea_
            subst ec_
            clear en_
            have ea_ := Option.some.inj (hx127_6.symm.trans hx128_6)
            injection ea_ with ea_ en_ ec_
            subst ea_
            subst ec_
            clear en_
            have p129 : 0 ≤ (x5_3 : Int) := of_decide_eq_true ab4
            have q129 : x5_3 < (((rd_T90 l0 x3_1).f6).length : Int) := of_decide_eq_true ab4
            obtain ⟨ad129, e129, hx129_0⟩ := Kd.at_int HR128_6.out x5_3 p129 q129
            cases e129
            replace p129 := eq_true p129
            replace q129 := eq_true q129
            go_wp2_with (first | ((with_reducible refine gate_callee (f := 68) rfl ?_); refine goesL_ (some 68) rfl rfl Tryd.func68 (by kernel_rfl) rfl #[.int .i64 (rd ((rd_T90 l0 x3_1).f6) x5_3), .int .i64 1, .int .i64 (wrap64 ((l0.length : Int) - 1))] rfl ab5 ?_; (with_reducible refine (spec_l1In.calls (rd ((rd_T90 l0 x3_1).f6) x5_3) 1 (wrap64 ((l0.length : Int) - 1)) true _ A24.out).mono ?_); rintro e w' ⟨rfl, ⟨nd, rfl⟩⟩; refine ⟨_, rfl, ?_⟩; have p131 : 0 ≤ ((rd ((rd_T90 l0 x3_1).f6) x5_3) : Int) := of_decide_eq_true ab4; have q131 : (rd ((rd_T90 l0 x3_1).f6) x5_3) < (l0.length : Int) := of_decide_eq_true ab4; obtain ⟨ad131, A131_3, c131_3, A131_6, c131_6, e131, hx131_0, hx131_1, hx131_2, hx131_3, hx131_4, hx131_5, hx131_6, hl131_3, hi131_3, hl131_6, hi131_6⟩ := at_T90 HR0.out (rd ((rd_T90 l0 x3_1).f6) x5_3) p131 q131; obtain rfl : ad120 = ad131 := (by injection e131); have HR131_3 := Aside0.mk hi131_3; have HC131_3 := Aside0.mk hl131_3; clear hi131_3 hl131_3; have HR131_6 := Aside0.mk hi131_6; have HC131_6 := Aside0.mk hl131_6; clear hi131_6 hl131_6; replace p131 := eq_true p131; replace q131 := eq_true q131))
            go_ret
            exact ⟨ab6, by repeat (first | exact Drawn0.refl _ | apply Drawn0.step)⟩
          ·replace c25 := Bool.eq_false_iff.mpr c25
           subst c25
           rw [if_neg (show ¬ (false = true) by decide)] at H
           obtain rfl := Option.some.inj H
           have p127 : 0 ≤ (x3_1 : Int) := of_decide_eq_true ab4
           have q127 : x3_1 < (l0.length : Int) := of_decide_eq_true ab4
           obtain ⟨ad127, A127_3, c127_3, A127_6, c127_6, e127, hx127_0, hx127_1, hx127_2, hx127_3, hx127_4, hx127_5, hx127_6, hl127_3, hi127_3, hl127_6, hi127_6⟩ := at_T90 HR0.out x3_1 p127 q127
           obtain rfl : ad120 = ad127 := (by injection e127)
           have HR127_3 := Aside0.mk hi127_3
           have HC127_3 := Aside0.mk hl127_3
           clear hi127_3 hl127_3
           have HR127_6 := Aside0.mk hi127_6
           have HC127_6 := Aside0.mk hl127_6
           clear hi127_6 hl127_6
           replace p127 := eq_true p127
           replace q127 := eq_true q127
           have p128 : 0 ≤ (x3_1 : Int) := of_decide_eq_true ab4
           have q128 : x3_1 < (l0.length : Int) := of_decide_eq_true ab4
           obtain ⟨ad128, A128_3, c128_3, A128_6, c128_6, e128, hx128_0, hx128_1, hx128_2, hx128_3, hx128_4, hx128_5, hx128_6, hl128_3, hi128_3, hl128_6, hi128_6⟩ := at_T90 HR0.out x3_1 p128 q128
           obtain rfl : ad120 = ad128 := (by injection e128)
           have HR128_3 := Aside0.mk hi128_3
           have HC128_3 := Aside0.mk hl128_3
           clear hi128_3 hl128_3
           have HR128_6 := Aside0.mk hi128_6
           have HC128_6 := Aside0.mk hl128_6
           clear hi128_6 hl128_6
           replace p128 := eq_true p128
           replace q128 := eq_true q128
           have ea_ := Option.some.inj (hx127_3.symm.trans hx128_3)
           injection ea_ with ea_ en_ ec_
           subst ea_
           subst ec_
           clear en_
           have ea_ := Option.some.inj (hx127_6.symm.trans hx128_6)
           injection ea_ with ea_ en_ ec_
           subst ea_
           subst ec_
           clear en_
           have p129 : 0 ≤ (x5_3 : Int) := of_decide_eq_true ab4
           have q129 : x5_3 < (((rd_T90 l0 x3_1).f6).length : Int) := of_decide_eq_true ab4
           obtain ⟨ad129, e129, hx129_0⟩ := Kd.at_int HR128_6.out x5_3 p129 q129
           cases e129
           replace p129 := eq_true p129
           replace q129 := eq_true q129
           go_wp2_with (first | ((with_reducible refine gate_callee (f := 68) rfl ?_); refine goesL_ (some 68) rfl rfl Tryd.func68 (by kernel_rfl) rfl #[.int .i64 (rd ((rd_T90 l0 x3_1).f6) x5_3), .int .i64 1, .int .i64 (wrap64 ((l0.length : Int) - 1))] rfl ab5 ?_; (with_reducible refine (spec_l1In.calls (rd ((rd_T90 l0 x3_1).f6) x5_3) 1 (wrap64 ((l0.length : Int) - 1)) false _ A24.out).mono ?_); rintro e w' ⟨rfl, ⟨nd, rfl⟩⟩; refine ⟨_, rfl, ?_⟩))
           go_ret
           exact ⟨ab6, by repeat (first | exact Drawn0.refl _ | apply Drawn0.step)⟩
         ·rw [if_neg c22] at H
          have c22b0 := decide_eq_false c22
          clear c22
          have H' := Aside0.mk H
          clear H
          have p127 : 0 ≤ (x3_1 : Int) := of_decide_eq_true ab4
          have q127 : x3_1 < (l0.length : Int) := of_decide_eq_true ab4
          obtain ⟨ad127, A127_3, c127_3, A127_6, c127_6, e127, hx127_0, hx127_1, hx127_2, hx127_3, hx127_4, hx127_5, hx127_6, hl127_3, hi127_3, hl127_6, hi127_6⟩ := at_T90 HR0.out x3_1 p127 q127
          obtain rfl : ad120 = ad127 := (by injection e127)
          have HR127_3 := Aside0.mk hi127_3
          have HC127_3 := Aside0.mk hl127_3
          clear hi127_3 hl127_3
          have HR127_6 := Aside0.mk hi127_6
          have HC127_6 := Aside0.mk hl127_6
          clear hi127_6 hl127_6
          replace p127 := eq_true p127
          replace q127 := eq_true q127
          go_wp2
          go_roundg k3
          case measure => have := HK1.out; have := HJ3.out; have := HK3.out; omega
          case rel => exact ⟨(wrap64 (x3_1 + 1)), ab6, H', ⟨by have := HK1.out; have := HJ3.out; have := HK3.out; omega⟩, by repeat (first | exact Drawn0.refl _ | apply Drawn0.step)⟩
   ·rw [if_neg c2] at H
    have c2b0 := decide_eq_false c2
    clear c2
    obtain rfl := Option.some.inj H
    go_wp2
    go_ret
    exact ⟨ab6, by repeat (first | exact Drawn0.refl _ | apply Drawn0.step)⟩

end Go.Proofs.YtgljgbkbjlondaaDoor.P
