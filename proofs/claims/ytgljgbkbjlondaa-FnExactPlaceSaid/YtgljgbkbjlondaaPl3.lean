-- WRITTEN BY hprint.py, this session's own program, over the kit's printer: not typed by hand; Lean checks it
import Derived.Test.YtgljgbkbjlondaaPl0
import Derived.Test.YtgljgbkbjlondaaPl1
import Derived.Test.YtgljgbkbjlondaaPl2
namespace Go.Proofs.Ytgljgbkbjlondaa.P
open Go.RowKit Go.Proofs.YtgljgbkbjlondaaW.PrintWords Go.Proofs.YtgljgbkbjlondaaW.PrintLast Go.Proofs.YtgljgbkbjlondaaW.PrintMore
attribute [local go_sem] max2_int min2_int max_two min_two max_three min_three max_four min_four   -- for this text's walks alone
set_option linter.unusedVariables false
set_option linter.unusedSimpArgs false

/-! ### spec_l6Count: function 43 -/
def spec_l6Count.l0 : Nat → List Int → Int → Int → Int → Option (Int)
 | 0, _, _, _, _ => none
 | k + 1, x0, x1, x5, x6 => if x6 < (x0.length : Int) then (if 0 ≤ x6 then ((spec_l1Bit.f ((rd x0 x6) == x1)).bind fun t123 => (spec_l6Count.l0 k x0 x1 (wrap64 (x5 + t123)) (wrap64 (x6 + 1)))) else (none)) else (some x5)
def spec_l6Count.f (k : Nat) (l0 : List Int) (a1 : Int) : Option (Int) := spec_l6Count.l0 k l0 a1 0 0
theorem spec_l6Count.mono_l : ∀ k, (∀ y0 y1 y2 y3, LeO (spec_l6Count.l0 k y0 y1 y2 y3) (spec_l6Count.l0 (k + 1) y0 y1 y2 y3))
 | 0 => fun _ _ _ _ r h => by simp [spec_l6Count.l0] at h
 | k + 1 => by
  have ih0 := spec_l6Count.mono_l k
  ·intro y0 y1 y2 y3
   unfold spec_l6Count.l0
   repeat' first
   | (with_reducible exact ih0 _ _ _ _)
   | (with_reducible exact LeO.refl _)
   | (with_reducible exact LeO.none _)
   | (with_reducible refine LeO.ite ?_ ?_)
   | (with_reducible refine LeO.bind ?_ (fun _ => ?_))
theorem spec_l6Count.mono : ∀ a0 a1 k, LeO (spec_l6Count.f k a0 a1) (spec_l6Count.f (k + 1) a0 a1) := by
 intro a0 a1 k
 have ih0 := spec_l6Count.mono_l k
 unfold spec_l6Count.f
 repeat' first
   | (with_reducible exact ih0 _ _ _ _)
   | (with_reducible exact LeO.refl _)
   | (with_reducible exact LeO.none _)
   | (with_reducible refine LeO.ite ?_ ?_)
   | (with_reducible refine LeO.bind ?_ (fun _ => ?_))
set_option maxHeartbeats 8000000 in
set_option maxRecDepth 100000 in
theorem spec_l6Count.calls (k : Nat) (A0 : Option Addr) (c0 : Nat) (l0 : List Int) (a1 : Int) (r : Int) (w : World) (hr0 : Kd.C (Kd.int .i64) w A0 l0.length l0) (hc0 : l0.length ≤ c0) (h : spec_l6Count.f k l0 a1 = some r) :
  Calls Try.prog 43 #[.slice A0 l0.length c0, .int .i64 a1] w fun e w' => e = .returned (.int .i64 r) ∧ Drawn0 w w' := by
 have HR0 := Aside0.mk hr0
 have HC0 := Aside0.mk hc0
 clear hr0 hc0
 have H : (spec_l6Count.l0 k l0 a1 0 0) = some r := h
 clear h
 have H' := Aside0.mk H
 clear H
 go_enter Try.func43, Try.ntmps43
 go_wp2
 go_loopg [5, 6] k (fun kq v5 v6 w' => ∃ (x5_1 : Int) (x6_1 : Int), v5 = .int .i64 x5_1 ∧ v6 = .int .i64 x6_1 ∧ Aside0 (spec_l6Count.l0 kq l0 a1 x5_1 x6_1 = some r) ∧ Aside0 (kq ≤ k) ∧ Drawn0 w w')
 case atStart => exact ⟨(0), (0), ab6, ab6, H', ⟨Nat.le_refl _⟩, by repeat (first | exact Drawn0.refl _ | apply Drawn0.step)⟩
 case round =>
  clear H'
  try clear p2
  obtain ⟨x5_1, x6_1, rfl, rfl, HA, HK1, ⟨m1, rfl⟩⟩ := hrel
  cases gk with
  | zero => exact absurd HA.out (by simp [spec_l6Count.l0])
  | succ k1 =>
   have H := HA.out
   clear HA
   simp only [spec_l6Count.l0] at H
   by_cases c3 : x6_1 < (l0.length : Int)
   ·rw [if_pos c3] at H
    have c3b0 := decide_eq_true c3
    clear c3
    by_cases c4 : 0 ≤ x6_1
    case neg => rw [if_neg c4] at H; exact absurd H (by simp)
    rw [if_pos c4] at H
    have c4b0 := decide_eq_true c4
    clear c4
    replace H := Option.bind_eq_some_iff.mp H
    obtain ⟨t123, A50, H⟩ := H
    try dsimp only at H
    have A5 := Aside0.mk A50
    clear A50
    have H' := Aside0.mk H
    clear H
    have p122 : 0 ≤ (x6_1 : Int) := of_decide_eq_true ab4
    have q122 : x6_1 < (l0.length : Int) := of_decide_eq_true ab4
    obtain ⟨ad122, e122, hx122_0⟩ := Kd.at_int HR0.out x6_1 p122 q122
    cases e122
    replace p122 := eq_true p122
    replace q122 := eq_true q122
    go_wp2_with (first | ((with_reducible refine gate_callee (f := 74) rfl ?_); refine goesL_ (some 20) rfl rfl Try.func74 (by kernel_rfl) rfl #[.bool ((rd l0 x6_1) == a1)] rfl ab5 ?_; (with_reducible refine (spec_l1Bit.calls ((rd l0 x6_1) == a1) t123 _ A5.out).mono ?_); rintro e w' ⟨rfl, ⟨nd, rfl⟩⟩; refine ⟨_, rfl, ?_⟩))
    go_roundg k1
    case measure => have := HK1.out; omega
    case rel => exact ⟨(wrap64 (x5_1 + t123)), (wrap64 (x6_1 + 1)), ab6, ab6, H', ⟨by have := HK1.out; omega⟩, by repeat (first | exact Drawn0.refl _ | apply Drawn0.step)⟩
   ·rw [if_neg c3] at H
    have c3b0 := decide_eq_false c3
    clear c3
    obtain rfl := Option.some.inj H
    go_wp2
    go_ret
    exact ⟨ab6, by repeat (first | exact Drawn0.refl _ | apply Drawn0.step)⟩

/-! ### spec_l6Links: function 72 -/
mutual
def spec_l6Links.l0 : Nat → List (S50) → Int → Option (Bool)
 | 0, _, _ => none
 | k + 1, x0, x3 => if x3 < (x0.length : Int) then (if 0 ≤ x3 then (if x3 = 0 then (if ((rd_T50 x0 x3).f5) = (-1) then (if x3 > 0 then ((spec_l1In.f ((rd_T50 x0 x3).f5) 0 (wrap64 ((x0.length : Int) - 1))).bind fun t125 => (if t125 = true then (if 0 ≤ ((rd_T50 x0 x3).f5) then (if ((rd_T50 x0 x3).f5) < (x0.length : Int) then ((spec_l6Count.f k ((rd_T50 x0 ((rd_T50 x0 x3).f5)).f6) x3).bind fun t127 => (spec_l6Links.j1 k x0 x3 (t127 != 1))) else (none)) else (none)) else (spec_l6Links.j1 k x0 x3 true))) else (spec_l6Links.j1 k x0 x3 false)) else (spec_l6Links.j1 k x0 x3 true)) else (if x3 > 0 then ((spec_l1In.f ((rd_T50 x0 x3).f5) 0 (wrap64 ((x0.length : Int) - 1))).bind fun t128 => (if t128 = true then (if 0 ≤ ((rd_T50 x0 x3).f5) then (if ((rd_T50 x0 x3).f5) < (x0.length : Int) then ((spec_l6Count.f k ((rd_T50 x0 ((rd_T50 x0 x3).f5)).f6) x3).bind fun t130 => (spec_l6Links.j1 k x0 x3 (t130 != 1))) else (none)) else (none)) else (spec_l6Links.j1 k x0 x3 true))) else (spec_l6Links.j1 k x0 x3 false))) else (none)) else (some true)
def spec_l6Links.j1 : Nat → List (S50) → Int → Bool → Option (Bool)
 | 0, _, _, _ => none
 | k + 1, x0, x3, x45 => if x45 = true then (some false) else (spec_l6Links.l1 k x0 x3 0)
def spec_l6Links.l1 : Nat → List (S50) → Int → Int → Option (Bool)
 | 0, _, _, _ => none
 | k + 1, x0, x3, x5 => if 0 ≤ x3 then (if x3 < (x0.length : Int) then (if x5 < (((rd_T50 x0 x3).f6).length : Int) then (if 0 ≤ x5 then ((spec_l1In.f (rd ((rd_T50 x0 x3).f6) x5) 1 (wrap64 ((x0.length : Int) - 1))).bind fun t134 => (if t134 = true then (if 0 ≤ (rd ((rd_T50 x0 x3).f6) x5) then (if (rd ((rd_T50 x0 x3).f6) x5) < (x0.length : Int) then (if ((rd_T50 x0 (rd ((rd_T50 x0 x3).f6) x5)).f5) = x3 then (spec_l6Links.l1 k x0 x3 (wrap64 (x5 + 1))) else (some false)) else (none)) else (none)) else (some false))) else (none)) else (spec_l6Links.l0 k x0 (wrap64 (x3 + 1)))) else (none)) else (none)
end
def spec_l6Links.f (k : Nat) (l0 : List (S50)) : Option (Bool) := spec_l6Links.l0 k l0 0
theorem spec_l6Links.mono_l : ∀ k, (∀ y0 y1, LeO (spec_l6Links.l0 k y0 y1) (spec_l6Links.l0 (k + 1) y0 y1)) ∧ (∀ y0 y1 y2, LeO (spec_l6Links.j1 k y0 y1 y2) (spec_l6Links.j1 (k + 1) y0 y1 y2)) ∧ (∀ y0 y1 y2, LeO (spec_l6Links.l1 k y0 y1 y2) (spec_l6Links.l1 (k + 1) y0 y1 y2))
 | 0 => ⟨fun _ _ r h => by simp [spec_l6Links.l0] at h, fun _ _ _ r h => by simp [spec_l6Links.j1] at h, fun _ _ _ r h => by simp [spec_l6Links.l1] at h⟩
 | k + 1 => by
  obtain ⟨ih0, ih1, ih2⟩ := spec_l6Links.mono_l k
  refine ⟨?_, ?_, ?_⟩
  ·intro y0 y1
   unfold spec_l6Links.l0
   repeat' first
   | (with_reducible exact ih0 _ _)
   | (with_reducible exact ih1 _ _ _)
   | (with_reducible exact ih2 _ _ _)
   | (with_reducible exact spec_l6Count.mono _ _ _)
   | (with_reducible exact LeO.refl _)
   | (with_reducible exact LeO.none _)
   | (with_reducible refine LeO.ite ?_ ?_)
   | (with_reducible refine LeO.bind ?_ (fun _ => ?_))
  ·intro y0 y1 y2
   unfold spec_l6Links.j1
   repeat' first
   | (with_reducible exact ih0 _ _)
   | (with_reducible exact ih1 _ _ _)
   | (with_reducible exact ih2 _ _ _)
   | (with_reducible exact spec_l6Count.mono _ _ _)
   | (with_reducible exact LeO.refl _)
   | (with_reducible exact LeO.none _)
   | (with_reducible refine LeO.ite ?_ ?_)
   | (with_reducible refine LeO.bind ?_ (fun _ => ?_))
  ·intro y0 y1 y2
   unfold spec_l6Links.l1
   repeat' first
   | (with_reducible exact ih0 _ _)
   | (with_reducible exact ih1 _ _ _)
   | (with_reducible exact ih2 _ _ _)
   | (with_reducible exact spec_l6Count.mono _ _ _)
   | (with_reducible exact LeO.refl _)
   | (with_reducible exact LeO.none _)
   | (with_reducible refine LeO.ite ?_ ?_)
   | (with_reducible refine LeO.bind ?_ (fun _ => ?_))
theorem spec_l6Links.mono : ∀ a0 k, LeO (spec_l6Links.f k a0) (spec_l6Links.f (k + 1) a0) := by
 intro a0 k
 obtain ⟨ih0, ih1, ih2⟩ := spec_l6Links.mono_l k
 unfold spec_l6Links.f
 repeat' first
   | (with_reducible exact ih0 _ _)
   | (with_reducible exact ih1 _ _ _)
   | (with_reducible exact ih2 _ _ _)
   | (with_reducible exact spec_l6Count.mono _ _ _)
   | (with_reducible exact LeO.refl _)
   | (with_reducible exact LeO.none _)
   | (with_reducible refine LeO.ite ?_ ?_)
   | (with_reducible refine LeO.bind ?_ (fun _ => ?_))
set_option maxHeartbeats 8000000 in
set_option maxRecDepth 100000 in
theorem spec_l6Links.calls (k : Nat) (A0 : Option Addr) (c0 : Nat) (l0 : List (S50)) (r : Bool) (w : World) (hr0 : Kd.C k50 w A0 l0.length l0) (hc0 : l0.length ≤ c0) (h : spec_l6Links.f k l0 = some r) :
  Calls Try.prog 72 #[.slice A0 l0.length c0] w fun e w' => e = .returned (.bool r) ∧ Drawn0 w w' := by
 have HR0 := Aside0.mk hr0
 have HC0 := Aside0.mk hc0
 clear hr0 hc0
 have H : (spec_l6Links.l0 k l0 0) = some r := h
 clear h
 have H' := Aside0.mk H
 clear H
 go_enter Try.func72, Try.ntmps72
 go_wp2
 go_loopg [3] k (fun kq v3 w' => ∃ (x3_1 : Int), v3 = .int .i64 x3_1 ∧ Aside0 (spec_l6Links.l0 kq l0 x3_1 = some r) ∧ Aside0 (kq ≤ k) ∧ Drawn0 w w')
 case atStart => exact ⟨(0), ab6, H', ⟨Nat.le_refl _⟩, by repeat (first | exact Drawn0.refl _ | apply Drawn0.step)⟩
 case round =>
  clear H'
  obtain ⟨x3_1, rfl, HA, HK1, ⟨m1, rfl⟩⟩ := hrel
  cases gk with
  | zero => exact absurd HA.out (by simp [spec_l6Links.l0])
  | succ k1 =>
   have H := HA.out
   clear HA
   simp only [spec_l6Links.l0] at H
   by_cases c2 : x3_1 < (l0.length : Int)
   ·rw [if_pos c2] at H
    have c2b0 := decide_eq_true c2
    clear c2
    by_cases c3 : 0 ≤ x3_1
    case neg => rw [if_neg c3] at H; exact absurd H (by simp)
    rw [if_pos c3] at H
    have c3b0 := decide_eq_true c3
    clear c3
    have HC4 := Aside0.mk H
    clear H
    have p124 : 0 ≤ (x3_1 : Int) := of_decide_eq_true ab4
    have q124 : x3_1 < (l0.length : Int) := of_decide_eq_true ab4
    obtain ⟨ad124, A124_3, c124_3, A124_6, c124_6, e124, hx124_0, hx124_1, hx124_2, hx124_3, hx124_4, hx124_5, hx124_6, hl124_3, hi124_3, hl124_6, hi124_6⟩ := at_T50 HR0.out x3_1 p124 q124
    cases e124
    have HR124_3 := Aside0.mk hi124_3
    have HC124_3 := Aside0.mk hl124_3
    clear hi124_3 hl124_3
    have HR124_6 := Aside0.mk hi124_6
    have HC124_6 := Aside0.mk hl124_6
    clear hi124_6 hl124_6
    replace p124 := eq_true p124
    replace q124 := eq_true q124
    go_upto_region 5 with (fail)
    go_cut [45] (fun v45 wc => ∃ (kq : Nat) (x45_3 : Bool), v45 = .bool x45_3 ∧ Aside0 (spec_l6Links.j1 kq l0 x3_1 x45_3 = some r) ∧ Aside0 (kq ≤ k1) ∧ Drawn0 w wc)
    case first =>
     have H := HC4.out
     clear HC4
     by_cases c5 : x3_1 = 0
     ·rw [if_pos c5] at H
      have c5b0 : (x3_1 == 0) = true := beq_iff_eq.mpr c5
      have c5b1 : (x3_1 != 0) = false := bne_eq_false_iff_eq.mpr c5
      clear c5
      (first | rw [c5b0] | (simp only [i64_w, i32_w]; rw [c5b0]) | skip)
      (try (generalize hgzc5 : (x3_1 == 0) = bqc5 at *; subst c5b0; have c5b0 := hgzc5; clear hgzc5))
      by_cases c6 : ((rd_T50 l0 x3_1).f5) = (-1)
      ·rw [if_pos c6] at H
       have c6b0 : (((rd_T50 l0 x3_1).f5) == (-1)) = true := beq_iff_eq.mpr c6
       have c6b1 : (((rd_T50 l0 x3_1).f5) != (-1)) = false := bne_eq_false_iff_eq.mpr c6
       clear c6
       by_cases c7 : x3_1 > 0
       ·rw [if_pos c7] at H
        have c7b0 : decide (0 < x3_1) = true := decide_eq_true c7
        clear c7
        replace H := Option.bind_eq_some_iff.mp H
        obtain ⟨t125, A80, H⟩ := H
        replace H : (if t125 = true then (if 0 ≤ ((rd_T50 l0 x3_1).f5) then (if ((rd_T50 l0 x3_1).f5) < (l0.length : Int) then ((spec_l6Count.f k1 ((rd_T50 l0 ((rd_T50 l0 x3_1).f5)).f6) x3_1).bind fun t127 => (spec_l6Links.j1 k1 l0 x3_1 (t127 != 1))) else (none)) else (none)) else (spec_l6Links.j1 k1 l0 x3_1 true)) = some r := by first | exact H | (rw [c5b0]; exact H)
        have A8 := Aside0.mk A80
        clear A80
        by_cases c9 : t125 = true
        ·subst c9
         rw [if_pos rfl] at H
         by_cases c10 : 0 ≤ ((rd_T50 l0 x3_1).f5)
         case neg => rw [if_neg c10] at H; exact absurd H (by simp)
         rw [if_pos c10] at H
         have c10b0 := decide_eq_true c10
         clear c10
         by_cases c11 : ((rd_T50 l0 x3_1).f5) < (l0.length : Int)
         case neg => rw [if_neg c11] at H; exact absurd H (by simp)
         rw [if_pos c11] at H
         have c11b0 := decide_eq_true c11
         clear c11
         replace H := Option.bind_eq_some_iff.mp H
         obtain ⟨t127, A120, H⟩ := H
         replace H : (spec_l6Links.j1 k1 l0 x3_1 (t127 != 1)) = some r := by first | exact H | (rw [c5b0]; exact H)
         have A12 := Aside0.mk A120
         clear A120
         have H' := Aside0.mk H
         clear H
         go_wp2_with (first | (go_at_call 70; (with_reducible refine (spec_l1In.calls ((rd_T50 l0 x3_1).f5) 0 (wrap64 ((l0.length : Int) - 1)) true _ A8.out).mono ?_); rintro e w' ⟨rfl, ⟨nd, rfl⟩⟩; have p126 : 0 ≤ (((rd_T50 l0 x3_1).f5) : Int) := of_decide_eq_true ab4; have q126 : ((rd_T50 l0 x3_1).f5) < (l0.length : Int) := of_decide_eq_true ab4; obtain ⟨ad126, A126_3, c126_3, A126_6, c126_6, e126, hx126_0, hx126_1, hx126_2, hx126_3, hx126_4, hx126_5, hx126_6, hl126_3, hi126_3, hl126_6, hi126_6⟩ := at_T50 HR0.out ((rd_T50 l0 x3_1).f5) p126 q126; obtain rfl : ad124 = ad126 := (by injection e126); have HR126_3 := Aside0.mk hi126_3; have HC126_3 := Aside0.mk hl126_3; clear hi126_3 hl126_3; have HR126_6 := Aside0.mk hi126_6; have HC126_6 := Aside0.mk hl126_6; clear hi126_6 hl126_6; replace p126 := eq_true p126; replace q126 := eq_true q126) | (go_at_call 43; (with_reducible refine (spec_l6Count.calls k1 _ _ ((rd_T50 l0 ((rd_T50 l0 x3_1).f5)).f6) x3_1 t127 _ ?side1 ?side2 A12.out).mono ?_); (case side1 => repeat (first | exact HR126_6.out | (with_reducible refine Kd.C_alloc ?_ _) | (with_reducible refine Kd.C_drewN ?_ _) | (with_reducible refine Kd.C_drew ?_))); (case side2 => exact HC126_6.out); rintro e w' ⟨rfl, ⟨nd, rfl⟩⟩))
         go_meet
         case rel => exact ⟨_, ((t127 != 1)), ab6, (by first | exact H' | (have h_ := H'.out; rw [c5b0] at h_; exact ⟨h_⟩)), ⟨by have := HK1.out; first | omega | exact Nat.le_refl _⟩, by repeat (first | exact Drawn0.refl _ | apply Drawn0.step)⟩
        ·replace c9 := Bool.eq_false_iff.mpr c9
         subst c9
         rw [if_neg (show ¬ (false = true) by decide)] at H
         have H' := Aside0.mk H
         clear H
         go_wp2_with (first | (go_at_call 70; (with_reducible refine (spec_l1In.calls ((rd_T50 l0 x3_1).f5) 0 (wrap64 ((l0.length : Int) - 1)) false _ A8.out).mono ?_); rintro e w' ⟨rfl, ⟨nd, rfl⟩⟩))
         go_meet
         case rel => exact ⟨_, (true), ab6, (by first | exact H' | (have h_ := H'.out; rw [c5b0] at h_; exact ⟨h_⟩)), ⟨by have := HK1.out; first | omega | exact Nat.le_refl _⟩, by repeat (first | exact Drawn0.refl _ | apply Drawn0.step)⟩
       ·rw [if_neg c7] at H
        have c7b0 : decide (0 < x3_1) = false := decide_eq_false c7
        clear c7
        have H' := Aside0.mk H
        clear H
        go_wp2
        go_meet
        case rel => exact ⟨_, (false), ab6, (by first | exact H' | (have h_ := H'.out; rw [c5b0] at h_; exact ⟨h_⟩)), ⟨by have := HK1.out; first | omega | exact Nat.le_refl _⟩, by repeat (first | exact Drawn0.refl _ | apply Drawn0.step)⟩
      ·rw [if_neg c6] at H
       have c6b0 : (((rd_T50 l0 x3_1).f5) == (-1)) = false := beq_eq_false_iff_ne.mpr c6
       have c6b1 : (((rd_T50 l0 x3_1).f5) != (-1)) = true := bne_iff_ne.mpr c6
       have H' := Aside0.mk H
       clear H
       go_wp2
       go_meet
       case rel => exact ⟨_, (true), ab6, (by first | exact H' | (have h_ := H'.out; rw [c5b0] at h_; exact ⟨h_⟩)), ⟨by have := HK1.out; first | omega | exact Nat.le_refl _⟩, by repeat (first | exact Drawn0.refl _ | apply Drawn0.step)⟩
     ·rw [if_neg c5] at H
      have c5b0 : (x3_1 == 0) = false := beq_eq_false_iff_ne.mpr c5
      have c5b1 : (x3_1 != 0) = true := bne_iff_ne.mpr c5
      (first | rw [c5b0] | (simp only [i64_w, i32_w]; rw [c5b0]) | skip)
      (try (generalize hgzc5 : (x3_1 == 0) = bqc5 at *; subst c5b0; have c5b0 := hgzc5; clear hgzc5))
      by_cases c13 : x3_1 > 0
      ·rw [if_pos c13] at H
       have c13b0 : decide (0 < x3_1) = true := decide_eq_true c13
       clear c13
       replace H := Option.bind_eq_some_iff.mp H
       obtain ⟨t128, A140, H⟩ := H
       replace H : (if t128 = true then (if 0 ≤ ((rd_T50 l0 x3_1).f5) then (if ((rd_T50 l0 x3_1).f5) < (l0.length : Int) then ((spec_l6Count.f k1 ((rd_T50 l0 ((rd_T50 l0 x3_1).f5)).f6) x3_1).bind fun t130 => (spec_l6Links.j1 k1 l0 x3_1 (t130 != 1))) else (none)) else (none)) else (spec_l6Links.j1 k1 l0 x3_1 true)) = some r := by first | exact H | (rw [c5b0]; exact H)
       have A14 := Aside0.mk A140
       clear A140
       by_cases c15 : t128 = true
       ·subst c15
        rw [if_pos rfl] at H
        by_cases c16 : 0 ≤ ((rd_T50 l0 x3_1).f5)
        case neg => rw [if_neg c16] at H; exact absurd H (by simp)
        rw [if_pos c16] at H
        have c16b0 := decide_eq_true c16
        clear c16
        by_cases c17 : ((rd_T50 l0 x3_1).f5) < (l0.length : Int)
        case neg => rw [if_neg c17] at H; exact absurd H (by simp)
        rw [if_pos c17] at H
        have c17b0 := decide_eq_true c17
        clear c17
        replace H := Option.bind_eq_some_iff.mp H
        obtain ⟨t130, A180, H⟩ := H
        replace H : (spec_l6Links.j1 k1 l0 x3_1 (t130 != 1)) = some r := by first | exact H | (rw [c5b0]; exact H)
        have A18 := Aside0.mk A180
        clear A180
        have H' := Aside0.mk H
        clear H
        go_wp2_with (first | (go_at_call 70; (with_reducible refine (spec_l1In.calls ((rd_T50 l0 x3_1).f5) 0 (wrap64 ((l0.length : Int) - 1)) true _ A14.out).mono ?_); rintro e w' ⟨rfl, ⟨nd, rfl⟩⟩; have p129 : 0 ≤ (((rd_T50 l0 x3_1).f5) : Int) := of_decide_eq_true ab4; have q129 : ((rd_T50 l0 x3_1).f5) < (l0.length : Int) := of_decide_eq_true ab4; obtain ⟨ad129, A129_3, c129_3, A129_6, c129_6, e129, hx129_0, hx129_1, hx129_2, hx129_3, hx129_4, hx129_5, hx129_6, hl129_3, hi129_3, hl129_6, hi129_6⟩ := at_T50 HR0.out ((rd_T50 l0 x3_1).f5) p129 q129; obtain rfl : ad124 = ad129 := (by injection e129); have HR129_3 := Aside0.mk hi129_3; have HC129_3 := Aside0.mk hl129_3; clear hi129_3 hl129_3; have HR129_6 := Aside0.mk hi129_6; have HC129_6 := Aside0.mk hl129_6; clear hi129_6 hl129_6; replace p129 := eq_true p129; replace q129 := eq_true q129) | (go_at_call 43; (with_reducible refine (spec_l6Count.calls k1 _ _ ((rd_T50 l0 ((rd_T50 l0 x3_1).f5)).f6) x3_1 t130 _ ?side1 ?side2 A18.out).mono ?_); (case side1 => repeat (first | exact HR129_6.out | (with_reducible refine Kd.C_alloc ?_ _) | (with_reducible refine Kd.C_drewN ?_ _) | (with_reducible refine Kd.C_drew ?_))); (case side2 => exact HC129_6.out); rintro e w' ⟨rfl, ⟨nd, rfl⟩⟩))
        go_meet
        case rel => exact ⟨_, ((t130 != 1)), ab6, (by first | exact H' | (have h_ := H'.out; rw [c5b0] at h_; exact ⟨h_⟩)), ⟨by have := HK1.out; first | omega | exact Nat.le_refl _⟩, by repeat (first | exact Drawn0.refl _ | apply Drawn0.step)⟩
       ·replace c15 := Bool.eq_false_iff.mpr c15
        subst c15
        rw [if_neg (show ¬ (false = true) by decide)] at H
        have H' := Aside0.mk H
        clear H
        go_wp2_with (first | (go_at_call 70; (with_reducible refine (spec_l1In.calls ((rd_T50 l0 x3_1).f5) 0 (wrap64 ((l0.length : Int) - 1)) false _ A14.out).mono ?_); rintro e w' ⟨rfl, ⟨nd, rfl⟩⟩))
        go_meet
        case rel => exact ⟨_, (true), ab6, (by first | exact H' | (have h_ := H'.out; rw [c5b0] at h_; exact ⟨h_⟩)), ⟨by have := HK1.out; first | omega | exact Nat.le_refl _⟩, by repeat (first | exact Drawn0.refl _ | apply Drawn0.step)⟩
      ·rw [if_neg c13] at H
       have c13b0 : decide (0 < x3_1) = false := decide_eq_false c13
       clear c13
       have H' := Aside0.mk H
       clear H
       go_wp2
       go_meet
       case rel => exact ⟨_, (false), ab6, (by first | exact H' | (have h_ := H'.out; rw [c5b0] at h_; exact ⟨h_⟩)), ⟨by have := HK1.out; first | omega | exact Nat.le_refl _⟩, by repeat (first | exact Drawn0.refl _ | apply Drawn0.step)⟩
    case rest =>
     clear HC4
     (try clear c1); (try clear p1); (try clear q1); (try clear hx1); (try clear c2); (try clear c2b0); (try clear p2); (try clear c3); (try clear c3b0); (try clear c5); (try clear c5b0); (try clear c5b1); (try clear c6); (try clear c6b0); (try clear c6b1); (try clear p6); (try clear c7); (try clear c7b0); (try clear c9); (try clear c10); (try clear c10b0); (try clear c11); (try clear c11b0); (try clear c12); (try clear p12); (try clear q12); (try clear hx12); (try clear c13); (try clear c13b0); (try clear c15); (try clear c16); (try clear c16b0); (try clear c17); (try clear c17b0); (try clear hx124_0); (try clear hx124_1); (try clear hx124_2); (try clear hx124_3); (try clear hx124_4); (try clear hx124_5); (try clear hx124_6); (try clear hx126_0); (try clear hx126_1); (try clear hx126_2); (try clear hx126_3); (try clear hx126_4); (try clear hx126_5); (try clear hx126_6); (try clear hx129_0); (try clear hx129_1); (try clear hx129_2); (try clear hx129_3); (try clear hx129_4); (try clear hx129_5); (try clear hx129_6); (try clear p124); (try clear p126); (try clear p129); (try clear q124); (try clear q126); (try clear q129)
     obtain ⟨kq, x45_3, rfl, HA, HJ3, ⟨mc3, rfl⟩⟩ := hcut
     cases kq with
     | zero => exact absurd HA.out (by simp [spec_l6Links.j1])
     | succ kj3 =>
      have H := HA.out
      clear HA
      simp only [spec_l6Links.j1] at H
      by_cases c19 : x45_3 = true
      ·subst c19
       rw [if_pos rfl] at H
       obtain rfl := Option.some.inj H
       go_wp2
       go_ret
       exact ⟨ab6, by repeat (first | exact Drawn0.refl _ | apply Drawn0.step)⟩
      ·replace c19 := Bool.eq_false_iff.mpr c19
       subst c19
       rw [if_neg (show ¬ (false = true) by decide)] at H
       have H' := Aside0.mk H
       clear H
       go_wp2
       go_loopg [5] kj3 (fun kq v5 w' => ∃ (x5_3 : Int), v5 = .int .i64 x5_3 ∧ Aside0 (spec_l6Links.l1 kq l0 x3_1 x5_3 = some r) ∧ Aside0 (kq ≤ kj3) ∧ Drawn0 w w')
       case atStart => exact ⟨(0), ab6, H', ⟨Nat.le_refl _⟩, by repeat (first | exact Drawn0.refl _ | apply Drawn0.step)⟩
       case round =>
        clear H'
        (try clear c1); (try clear p1); (try clear q1); (try clear hx1); (try clear c2); (try clear c2b0); (try clear p2); (try clear c3); (try clear c3b0); (try clear c5); (try clear c5b0); (try clear c5b1); (try clear c6); (try clear c6b0); (try clear c6b1); (try clear p6); (try clear c7); (try clear c7b0); (try clear c9); (try clear c10); (try clear c10b0); (try clear c11); (try clear c11b0); (try clear c12); (try clear p12); (try clear q12); (try clear hx12); (try clear c13); (try clear c13b0); (try clear c15); (try clear c16); (try clear c16b0); (try clear c17); (try clear c17b0); (try clear c19); (try clear hx124_0); (try clear hx124_1); (try clear hx124_2); (try clear hx124_3); (try clear hx124_4); (try clear hx124_5); (try clear hx124_6); (try clear hx126_0); (try clear hx126_1); (try clear hx126_2); (try clear hx126_3); (try clear hx126_4); (try clear hx126_5); (try clear hx126_6); (try clear hx129_0); (try clear hx129_1); (try clear hx129_2); (try clear hx129_3); (try clear hx129_4); (try clear hx129_5); (try clear hx129_6); (try clear p1); (try clear p12); (try clear p124); (try clear p126); (try clear p129); (try clear p2); (try clear p6); (try clear q1); (try clear q12); (try clear q124); (try clear q126); (try clear q129)
        obtain ⟨x5_3, rfl, HA, HK3, ⟨m3, rfl⟩⟩ := hrel
        cases gk with
        | zero => exact absurd HA.out (by simp [spec_l6Links.l1])
        | succ k3 =>
         have H := HA.out
         clear HA
         simp only [spec_l6Links.l1] at H
         by_cases c20 : 0 ≤ x3_1
         case neg => rw [if_neg c20] at H; exact absurd H (by simp)
         rw [if_pos c20] at H
         have c20b0 := decide_eq_true c20
         clear c20
         by_cases c21 : x3_1 < (l0.length : Int)
         case neg => rw [if_neg c21] at H; exact absurd H (by simp)
         rw [if_pos c21] at H
         have c21b0 := decide_eq_true c21
         clear c21
         by_cases c22 : x5_3 < (((rd_T50 l0 x3_1).f6).length : Int)
         ·rw [if_pos c22] at H
          have c22b0 := decide_eq_true c22
          clear c22
          by_cases c23 : 0 ≤ x5_3
          case neg => rw [if_neg c23] at H; exact absurd H (by simp)
          rw [if_pos c23] at H
          have c23b0 := decide_eq_true c23
          clear c23
          replace H := Option.bind_eq_some_iff.mp H
          obtain ⟨t134, A240, H⟩ := H
          try dsimp only at H
          have A24 := Aside0.mk A240
          clear A240
          by_cases c25 : t134 = true
          ·subst c25
           rw [if_pos rfl] at H
           by_cases c26 : 0 ≤ (rd ((rd_T50 l0 x3_1).f6) x5_3)
           case neg => rw [if_neg c26] at H; exact absurd H (by simp)
           rw [if_pos c26] at H
           have c26b0 := decide_eq_true c26
           clear c26
           by_cases c27 : (rd ((rd_T50 l0 x3_1).f6) x5_3) < (l0.length : Int)
           case neg => rw [if_neg c27] at H; exact absurd H (by simp)
           rw [if_pos c27] at H
           have c27b0 := decide_eq_true c27
           clear c27
           by_cases c28 : ((rd_T50 l0 (rd ((rd_T50 l0 x3_1).f6) x5_3)).f5) = x3_1
           ·rw [if_pos c28] at H
            have c28b0 : (((rd_T50 l0 (rd ((rd_T50 l0 x3_1).f6) x5_3)).f5) == x3_1) = true := beq_iff_eq.mpr c28
            have c28b1 : (((rd_T50 l0 (rd ((rd_T50 l0 x3_1).f6) x5_3)).f5) != x3_1) = false := bne_eq_false_iff_eq.mpr c28
            clear c28
            have H' := Aside0.mk H
            clear H
            have p131 : 0 ≤ (x3_1 : Int) := of_decide_eq_true ab4
            have q131 : x3_1 < (l0.length : Int) := of_decide_eq_true ab4
            obtain ⟨ad131, A131_3, c131_3, A131_6, c131_6, e131, hx131_0, hx131_1, hx131_2, hx131_3, hx131_4, hx131_5, hx131_6, hl131_3, hi131_3, hl131_6, hi131_6⟩ := at_T50 HR0.out x3_1 p131 q131
            obtain rfl : ad124 = ad131 := (by injection e131)
            have HR131_3 := Aside0.mk hi131_3
            have HC131_3 := Aside0.mk hl131_3
            clear hi131_3 hl131_3
            have HR131_6 := Aside0.mk hi131_6
            have HC131_6 := Aside0.mk hl131_6
            clear hi131_6 hl131_6
            replace p131 := eq_true p131
            replace q131 := eq_true q131
            have p132 : 0 ≤ (x3_1 : Int) := of_decide_eq_true ab4
            have q132 : x3_1 < (l0.length : Int) := of_decide_eq_true ab4
            obtain ⟨ad132, A132_3, c132_3, A132_6, c132_6, e132, hx132_0, hx132_1, hx132_2, hx132_3, hx132_4, hx132_5, hx132_6, hl132_3, hi132_3, hl132_6, hi132_6⟩ := at_T50 HR0.out x3_1 p132 q132
            obtain rfl : ad124 = ad132 := (by injection e132)
            have HR132_3 := Aside0.mk hi132_3
            have HC132_3 := Aside0.mk hl132_3
            clear hi132_3 hl132_3
            have HR132_6 := Aside0.mk hi132_6
            have HC132_6 := Aside0.mk hl132_6
            clear hi132_6 hl132_6
            replace p132 := eq_true p132
            replace q132 := eq_true q132
            have ea_ := Option.some.inj (hx131_3.symm.trans hx132_3)
            injection ea_ with ea_ en_ ec_
            subst ea_
            subst ec_
            clear en_
            have ea_ := Option.some.inj (hx131_6.symm.trans hx132_6)
            injection ea_ with ea_ en_ ec_
            subst ea_
            subst ec_
            clear en_
            have p133 : 0 ≤ (x5_3 : Int) := of_decide_eq_true ab4
            have q133 : x5_3 < (((rd_T50 l0 x3_1).f6).length : Int) := of_decide_eq_true ab4
            obtain ⟨ad133, e133, hx133_0⟩ := Kd.at_int HR132_6.out x5_3 p133 q133
            cases e133
            replace p133 := eq_true p133
            replace q133 := eq_true q133
            go_wp2_with (first | ((with_reducible refine gate_callee (f := 70) rfl ?_); refine goesL_ (some 68) rfl rfl Try.func70 (by kernel_rfl) rfl #[.int .i64 (rd ((rd_T50 l0 x3_1).f6) x5_3), .int .i64 1, .int .i64 (wrap64 ((l0.length : Int) - 1))] rfl ab5 ?_; (with_reducible refine (spec_l1In.calls (rd ((rd_T50 l0 x3_1).f6) x5_3) 1 (wrap64 ((l0.length : Int) - 1)) true _ A24.out).mono ?_); rintro e w' ⟨rfl, ⟨nd, rfl⟩⟩; refine ⟨_, rfl, ?_⟩; have p135 : 0 ≤ ((rd ((rd_T50 l0 x3_1).f6) x5_3) : Int) := of_decide_eq_true ab4; have q135 : (rd ((rd_T50 l0 x3_1).f6) x5_3) < (l0.length : Int) := of_decide_eq_true ab4; obtain ⟨ad135, A135_3, c135_3, A135_6, c135_6, e135, hx135_0, hx135_1, hx135_2, hx135_3, hx135_4, hx135_5, hx135_6, hl135_3, hi135_3, hl135_6, hi135_6⟩ := at_T50 HR0.out (rd ((rd_T50 l0 x3_1).f6) x5_3) p135 q135; obtain rfl : ad124 = ad135 := (by injection e135); have HR135_3 := Aside0.mk hi135_3; have HC135_3 := Aside0.mk hl135_3; clear hi135_3 hl135_3; have HR135_6 := Aside0.mk hi135_6; have HC135_6 := Aside0.mk hl135_6; clear hi135_6 hl135_6; replace p135 := eq_true p135; replace q135 := eq_true q135))
            go_roundg k3
            case measure => have := HK1.out; have := HJ3.out; have := HK3.out; omega
            case rel => exact ⟨(wrap64 (x5_3 + 1)), ab6, H', ⟨by have := HK1.out; have := HJ3.out; have := HK3.out; omega⟩, by repeat (first | exact Drawn0.refl _ | apply Drawn0.step)⟩
           ·rw [if_neg c28] at H
            have c28b0 : (((rd_T50 l0 (rd ((rd_T50 l0 x3_1).f6) x5_3)).f5) == x3_1) = false := beq_eq_false_iff_ne.mpr c28
            have c28b1 : (((rd_T50 l0 (rd ((rd_T50 l0 x3_1).f6) x5_3)).f5) != x3_1) = true := bne_iff_ne.mpr c28
            obtain rfl := Option.some.inj H
            have p131 : 0 ≤ (x3_1 : Int) := of_decide_eq_true ab4
            have q131 : x3_1 < (l0.length : Int) := of_decide_eq_true ab4
            obtain ⟨ad131, A131_3, c131_3, A131_6, c131_6, e131, hx131_0, hx131_1, hx131_2, hx131_3, hx131_4, hx131_5, hx131_6, hl131_3, hi131_3, hl131_6, hi131_6⟩ := at_T50 HR0.out x3_1 p131 q131
            obtain rfl : ad124 = ad131 := (by injection e131)
            have HR131_3 := Aside0.mk hi131_3
            have HC131_3 := Aside0.mk hl131_3
            clear hi131_3 hl131_3
            have HR131_6 := Aside0.mk hi131_6
            have HC131_6 := Aside0.mk hl131_6
            clear hi131_6 hl131_6
            replace p131 := eq_true p131
            replace q131 := eq_true q131
            have p132 : 0 ≤ (x3_1 : Int) := of_decide_eq_true ab4
            have q132 : x3_1 < (l0.length : Int) := of_decide_eq_true ab4
            obtain ⟨ad132, A132_3, c132_3, A132_6, c132_6, e132, hx132_0, hx132_1, hx132_2, hx132_3, hx132_4, hx132_5, hx132_6, hl132_3, hi132_3, hl132_6, hi132_6⟩ := at_T50 HR0.out x3_1 p132 q132
            obtain rfl : ad124 = ad132 := (by injection e132)
            have HR132_3 := Aside0.mk hi132_3
            have HC132_3 := Aside0.mk hl132_3
            clear hi132_3 hl132_3
            have HR132_6 := Aside0.mk hi132_6
            have HC132_6 := Aside0.mk hl132_6
            clear hi132_6 hl132_6
            replace p132 := eq_true p132
            replace q132 := eq_true q132
            have ea_ := Option.some.inj (hx131_3.symm.trans hx132_3)
            injection ea_ with ea_ en_ ec_
            subst ea_
            subst ec_
            clear en_
            have ea_ := Option.some.inj (hx131_6.symm.trans hx132_6)
            injection ea_ with ea_ en_ ec_
            subst ea_
            subst ec_
            clear en_
            have p133 : 0 ≤ (x5_3 : Int) := of_decide_eq_true ab4
            have q133 : x5_3 < (((rd_T50 l0 x3_1).f6).length : Int) := of_decide_eq_true ab4
            obtain ⟨ad133, e133, hx133_0⟩ := Kd.at_int HR132_6.out x5_3 p133 q133
            cases e133
            replace p133 := eq_true p133
            replace q133 := eq_true q133
            go_wp2_with (first | ((with_reducible refine gate_callee (f := 70) rfl ?_); refine goesL_ (some 68) rfl rfl Try.func70 (by kernel_rfl) rfl #[.int .i64 (rd ((rd_T50 l0 x3_1).f6) x5_3), .int .i64 1, .int .i64 (wrap64 ((l0.length : Int) - 1))] rfl ab5 ?_; (with_reducible refine (spec_l1In.calls (rd ((rd_T50 l0 x3_1).f6) x5_3) 1 (wrap64 ((l0.length : Int) - 1)) true _ A24.out).mono ?_); rintro e w' ⟨rfl, ⟨nd, rfl⟩⟩; refine ⟨_, rfl, ?_⟩; have p135 : 0 ≤ ((rd ((rd_T50 l0 x3_1).f6) x5_3) : Int) := of_decide_eq_true ab4; have q135 : (rd ((rd_T50 l0 x3_1).f6) x5_3) < (l0.length : Int) := of_decide_eq_true ab4; obtain ⟨ad135, A135_3, c135_3, A135_6, c135_6, e135, hx135_0, hx135_1, hx135_2, hx135_3, hx135_4, hx135_5, hx135_6, hl135_3, hi135_3, hl135_6, hi135_6⟩ := at_T50 HR0.out (rd ((rd_T50 l0 x3_1).f6) x5_3) p135 q135; obtain rfl : ad124 = ad135 := (by injection e135); have HR135_3 := Aside0.mk hi135_3; have HC135_3 := Aside0.mk hl135_3; clear hi135_3 hl135_3; have HR135_6 := Aside0.mk hi135_6; have HC135_6 := Aside0.mk hl135_6; clear hi135_6 hl135_6; replace p135 := eq_true p135; replace q135 := eq_true q135))
            go_ret
            exact ⟨ab6, by repeat (first | exact Drawn0.refl _ | apply Drawn0.step)⟩
          ·replace c25 := Bool.eq_false_iff.mpr c25
           subst c25
           rw [if_neg (show ¬ (false = true) by decide)] at H
           obtain rfl := Option.some.inj H
           have p131 : 0 ≤ (x3_1 : Int) := of_decide_eq_true ab4
           have q131 : x3_1 < (l0.length : Int) := of_decide_eq_true ab4
           obtain ⟨ad131, A131_3, c131_3, A131_6, c131_6, e131, hx131_0, hx131_1, hx131_2, hx131_3, hx131_4, hx131_5, hx131_6, hl131_3, hi131_3, hl131_6, hi131_6⟩ := at_T50 HR0.out x3_1 p131 q131
           obtain rfl : ad124 = ad131 := (by injection e131)
           have HR131_3 := Aside0.mk hi131_3
           have HC131_3 := Aside0.mk hl131_3
           clear hi131_3 hl131_3
           have HR131_6 := Aside0.mk hi131_6
           have HC131_6 := Aside0.mk hl131_6
           clear hi131_6 hl131_6
           replace p131 := eq_true p131
           replace q131 := eq_true q131
           have p132 : 0 ≤ (x3_1 : Int) := of_decide_eq_true ab4
           have q132 : x3_1 < (l0.length : Int) := of_decide_eq_true ab4
           obtain ⟨ad132, A132_3, c132_3, A132_6, c132_6, e132, hx132_0, hx132_1, hx132_2, hx132_3, hx132_4, hx132_5, hx132_6, hl132_3, hi132_3, hl132_6, hi132_6⟩ := at_T50 HR0.out x3_1 p132 q132
           obtain rfl : ad124 = ad132 := (by injection e132)
           have HR132_3 := Aside0.mk hi132_3
           have HC132_3 := Aside0.mk hl132_3
           clear hi132_3 hl132_3
           have HR132_6 := Aside0.mk hi132_6
           have HC132_6 := Aside0.mk hl132_6
           clear hi132_6 hl132_6
           replace p132 := eq_true p132
           replace q132 := eq_true q132
           have ea_ := Option.some.inj (hx131_3.symm.trans hx132_3)
           injection ea_ with ea_ en_ ec_
           subst ea_
           subst ec_
           clear en_
           have ea_ := Option.some.inj (hx131_6.symm.trans hx132_6)
           injection ea_ with ea_ en_ ec_
           subst ea_
           subst ec_
           clear en_
           have p133 : 0 ≤ (x5_3 : Int) := of_decide_eq_true ab4
           have q133 : x5_3 < (((rd_T50 l0 x3_1).f6).length : Int) := of_decide_eq_true ab4
           obtain ⟨ad133, e133, hx133_0⟩ := Kd.at_int HR132_6.out x5_3 p133 q133
           cases e133
           replace p133 := eq_true p133
           replace q133 := eq_true q133
           go_wp2_with (first | ((with_reducible refine gate_callee (f := 70) rfl ?_); refine goesL_ (some 68) rfl rfl Try.func70 (by kernel_rfl) rfl #[.int .i64 (rd ((rd_T50 l0 x3_1).f6) x5_3), .int .i64 1, .int .i64 (wrap64 ((l0.length : Int) - 1))] rfl ab5 ?_; (with_reducible refine (spec_l1In.calls (rd ((rd_T50 l0 x3_1).f6) x5_3) 1 (wrap64 ((l0.length : Int) - 1)) false _ A24.out).mono ?_); rintro e w' ⟨rfl, ⟨nd, rfl⟩⟩; refine ⟨_, rfl, ?_⟩))
           go_ret
           exact ⟨ab6, by repeat (first | exact Drawn0.refl _ | apply Drawn0.step)⟩
         ·rw [if_neg c22] at H
          have c22b0 := decide_eq_false c22
          clear c22
          have H' := Aside0.mk H
          clear H
          have p131 : 0 ≤ (x3_1 : Int) := of_decide_eq_true ab4
          have q131 : x3_1 < (l0.length : Int) := of_decide_eq_true ab4
          obtain ⟨ad131, A131_3, c131_3, A131_6, c131_6, e131, hx131_0, hx131_1, hx131_2, hx131_3, hx131_4, hx131_5, hx131_6, hl131_3, hi131_3, hl131_6, hi131_6⟩ := at_T50 HR0.out x3_1 p131 q131
          obtain rfl : ad124 = ad131 := (by injection e131)
          have HR131_3 := Aside0.mk hi131_3
          have HC131_3 := Aside0.mk hl131_3
          clear hi131_3 hl131_3
          have HR131_6 := Aside0.mk hi131_6
          have HC131_6 := Aside0.mk hl131_6
          clear hi131_6 hl131_6
          replace p131 := eq_true p131
          replace q131 := eq_true q131
          go_wp2
          go_roundg k3
          case measure => have := HK1.out; have := HJ3.out; have := HK3.out; omega
          case rel => exact ⟨(wrap64 (x3_1 + 1)), ab6, H', ⟨by have := HK1.out; have := HJ3.out; have := HK3.out; omega⟩, by repeat (first | exact Drawn0.refl _ | apply Drawn0.step)⟩
   ·rw [if_neg c2] at H
    have c2b0 := decide_eq_false c2
    clear c2
    obtain rfl := Option.some.inj H
    go_wp2
    go_ret
    exact ⟨ab6, by repeat (first | exact Drawn0.refl _ | apply Drawn0.step)⟩

end Go.Proofs.Ytgljgbkbjlondaa.P
