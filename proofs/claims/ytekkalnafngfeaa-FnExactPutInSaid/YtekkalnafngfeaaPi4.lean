-- WRITTEN BY this session's own programs
import Derived.Test.YtekkalnafngfeaaPi24
import Derived.Test.YtekkalnafngfeaaPi2
namespace Go.Proofs.Ytekkalnafngfeaa.P
open Go.RowKit Go.Proofs.YtekkalnafngfeaaW.PrintWords Go.Proofs.YtekkalnafngfeaaW.PrintLast Go.Proofs.YtekkalnafngfeaaW.PrintMore
set_option linter.unusedVariables false
set_option linter.unusedSimpArgs false
set_option maxHeartbeats 8000000
set_option maxRecDepth 100000
attribute [local go_sem] max2_int min2_int max_two min_two max_three min_three max_four min_four
def spec_l6Count.l0 : Nat → List Int → Int → Int → Int → Option (Int)
 | 0, _, _, _, _ => none
 | k + 1, x0, x1, x5, x6 => if x6 < (x0.length : Int) then (if 0 ≤ x6 then ((spec_l1Bit.f ((rd x0 x6) == x1)).bind fun t123 => (spec_l6Count.l0 k x0 x1 (wrap64 (x5 + t123)) (wrap64 (x6 + 1)))) else (none)) else (some x5)
def spec_l6Count.f (k : Nat) (l0 : List Int) (a1 : Int) : Option (Int) := spec_l6Count.l0 k l0 a1 0 0
theorem spec_l6Count.calls (k : Nat) (A0 : Option Addr) (c0 : Nat) (l0 : List Int) (a1 : Int) (r : Int) (w : World) (hr0 : Kd.C (Kd.int .i64) w A0 l0.length l0) (hc0 : l0.length ≤ c0) (h : spec_l6Count.f k l0 a1 = some r) :
  Calls Try.prog 39 #[.slice A0 l0.length c0, .int .i64 a1] w fun e w' => e = .returned (.int .i64 r) ∧ Drawn0 w w' := by
 have HR0 := am hr0
 have HC0 := am hc0
 clear hr0 hc0
 have H : (spec_l6Count.l0 k l0 a1 0 0) = some r := h
 clear h
 have H' := am H
 clear H
 go_enter Try.func39, Try.ntmps39
 go_wp2
 go_loopg [5, 6] k (fun kq v5 v6 w' => ∃ (x5_1 : Int) (x6_1 : Int), v5 = .int .i64 x5_1 ∧ v6 = .int .i64 x6_1 ∧ Aside0 (spec_l6Count.l0 kq l0 a1 x5_1 x6_1 = some r) ∧ Aside0 (kq ≤ k) ∧ Drawn0 w w')
 case atStart => exact ⟨(0), (0), ab6, ab6, H', ⟨Nat.le_refl _⟩, by repeat (first | exact Drawn0.refl _ | apply Drawn0.step)⟩
 case round =>
  clear H'
  try clear p2
  obtain ⟨x5_1, x6_1, rfl, rfl, HA, HK1, ⟨m1, rfl⟩⟩ := hrel
  cases gk with
  | zero => exact absurd HA.out (by simp [spec_l6Count.l0])
  | succ k1 =>
   have H := HA.out
   clear HA
   simp only [spec_l6Count.l0] at H
   replace H := ir_ H; rcases H with ⟨c3b0, H⟩ | ⟨c3b0, H⟩
   ·replace H := iq_ H; obtain ⟨c4b0, H⟩ := H
    replace H := bi_ H; obtain ⟨t123, A5, H⟩ := H
    have H' := am H
    clear H
    have p122 : 0 ≤ (x6_1 : Int) := of_decide_eq_true ab4
    have q122 : x6_1 < (l0.length : Int) := of_decide_eq_true ab4
    obtain ⟨ad122, e122, hx122_0⟩ := Kd.at_int HR0.out x6_1 p122 q122
    cases e122
    replace p122 := eq_true p122
    replace q122 := eq_true q122
    go_wp2_with (first | ((with_reducible refine gf_ 62 ?_); refine gc_ Try.func62 (spec_l1Bit.calls ((rd l0 x6_1) == a1) t123 _ A5.out) ?_; rintro w' ⟨nd, rfl⟩))
    go_roundg k1
    case measure => have := HK1.out; omega
    case rel => exact ⟨(wrap64 (x5_1 + t123)), (wrap64 (x6_1 + 1)), ab6, ab6, H', ⟨by have := HK1.out; omega⟩, by repeat (first | exact Drawn0.refl _ | apply Drawn0.step)⟩
   ·obtain rfl := Option.some.inj H
    go_wp2
    go_ret
    exact ⟨ab6, by repeat (first | exact Drawn0.refl _ | apply Drawn0.step)⟩
mutual
def spec_l6Links.l0 : Nat → List (S38) → Int → Option (Bool)
 | 0, _, _ => none
 | k + 1, x0, x3 => if x3 < (x0.length : Int) then (if 0 ≤ x3 then (if x3 = 0 then (if ((rd_T38 x0 x3).f5) = (-1) then (if x3 > 0 then ((spec_l1In.f ((rd_T38 x0 x3).f5) 0 (wrap64 ((x0.length : Int) - 1))).bind fun t125 => (if t125 = true then (if 0 ≤ ((rd_T38 x0 x3).f5) then (if ((rd_T38 x0 x3).f5) < (x0.length : Int) then ((spec_l6Count.f k ((rd_T38 x0 ((rd_T38 x0 x3).f5)).f6) x3).bind fun t127 => (spec_l6Links.j1 k x0 x3 (t127 != 1))) else (none)) else (none)) else (spec_l6Links.j1 k x0 x3 true))) else (spec_l6Links.j1 k x0 x3 false)) else (spec_l6Links.j1 k x0 x3 true)) else (if x3 > 0 then ((spec_l1In.f ((rd_T38 x0 x3).f5) 0 (wrap64 ((x0.length : Int) - 1))).bind fun t128 => (if t128 = true then (if 0 ≤ ((rd_T38 x0 x3).f5) then (if ((rd_T38 x0 x3).f5) < (x0.length : Int) then ((spec_l6Count.f k ((rd_T38 x0 ((rd_T38 x0 x3).f5)).f6) x3).bind fun t130 => (spec_l6Links.j1 k x0 x3 (t130 != 1))) else (none)) else (none)) else (spec_l6Links.j1 k x0 x3 true))) else (spec_l6Links.j1 k x0 x3 false))) else (none)) else (some true)
def spec_l6Links.j1 : Nat → List (S38) → Int → Bool → Option (Bool)
 | 0, _, _, _ => none
 | k + 1, x0, x3, x45 => if x45 = true then (some false) else (spec_l6Links.l1 k x0 x3 0)
def spec_l6Links.l1 : Nat → List (S38) → Int → Int → Option (Bool)
 | 0, _, _, _ => none
 | k + 1, x0, x3, x5 => if 0 ≤ x3 then (if x3 < (x0.length : Int) then (if x5 < (((rd_T38 x0 x3).f6).length : Int) then (if 0 ≤ x5 then ((spec_l1In.f (rd ((rd_T38 x0 x3).f6) x5) 1 (wrap64 ((x0.length : Int) - 1))).bind fun t134 => (if t134 = true then (if 0 ≤ (rd ((rd_T38 x0 x3).f6) x5) then (if (rd ((rd_T38 x0 x3).f6) x5) < (x0.length : Int) then (if ((rd_T38 x0 (rd ((rd_T38 x0 x3).f6) x5)).f5) = x3 then (spec_l6Links.l1 k x0 x3 (wrap64 (x5 + 1))) else (some false)) else (none)) else (none)) else (some false))) else (none)) else (spec_l6Links.l0 k x0 (wrap64 (x3 + 1)))) else (none)) else (none)
end
def spec_l6Links.f (k : Nat) (l0 : List (S38)) : Option (Bool) := spec_l6Links.l0 k l0 0
theorem spec_l6Links.calls (k : Nat) (A0 : Option Addr) (c0 : Nat) (l0 : List (S38)) (r : Bool) (w : World) (hr0 : Kd.C k38 w A0 l0.length l0) (hc0 : l0.length ≤ c0) (h : spec_l6Links.f k l0 = some r) :
  Calls Try.prog 60 #[.slice A0 l0.length c0] w fun e w' => e = .returned (.bool r) ∧ Drawn0 w w' := by
 have HR0 := am hr0
 have HC0 := am hc0
 clear hr0 hc0
 have H : (spec_l6Links.l0 k l0 0) = some r := h
 clear h
 have H' := am H
 clear H
 go_enter Try.func60, Try.ntmps60
 go_wp2
 go_loopg [3] k (fun kq v3 w' => ∃ (x3_1 : Int), v3 = .int .i64 x3_1 ∧ Aside0 (spec_l6Links.l0 kq l0 x3_1 = some r) ∧ Aside0 (kq ≤ k) ∧ Drawn0 w w')
 case atStart => exact ⟨(0), ab6, H', ⟨Nat.le_refl _⟩, by repeat (first | exact Drawn0.refl _ | apply Drawn0.step)⟩
 case round =>
  clear H'
  obtain ⟨x3_1, rfl, HA, HK1, ⟨m1, rfl⟩⟩ := hrel
  cases gk with
  | zero => exact absurd HA.out (by simp [spec_l6Links.l0])
  | succ k1 =>
   have H := HA.out
   clear HA
   simp only [spec_l6Links.l0] at H
   replace H := ir_ H; rcases H with ⟨c2b0, H⟩ | ⟨c2b0, H⟩
   ·replace H := iq_ H; obtain ⟨c3b0, H⟩ := H
    have HC4 := am H
    clear H
    have p124 : 0 ≤ (x3_1 : Int) := of_decide_eq_true ab4
    have q124 : x3_1 < (l0.length : Int) := of_decide_eq_true ab4
    obtain ⟨ad124, A124_3, c124_3, A124_6, c124_6, e124, hx124_0, hx124_1, hx124_2, hx124_3, hx124_4, hx124_5, hx124_6, hl124_3, hi124_3, hl124_6, hi124_6⟩ := at_T38 HR0.out x3_1 p124 q124
    cases e124
    have HR124_3 := am hi124_3
    have HC124_3 := am hl124_3
    clear hi124_3 hl124_3
    have HR124_6 := am hi124_6
    have HC124_6 := am hl124_6
    clear hi124_6 hl124_6
    replace p124 := eq_true p124
    replace q124 := eq_true q124
    go_upto_region 5 with (fail)
    go_cut [45] (fun v45 wc => ∃ (kq : Nat) (x45_3 : Bool), v45 = .bool x45_3 ∧ Aside0 (spec_l6Links.j1 kq l0 x3_1 x45_3 = some r) ∧ Aside0 (kq ≤ k1) ∧ Drawn0 w wc)
    case first =>
     have H := HC4.out
     clear HC4
     replace H := ie_ H; rcases H with ⟨c5b0, c5b1, H⟩ | ⟨c5, c5b0, c5b1, H⟩
     ·(first | rw [c5b0] | (simp only [i64_w, i32_w]; rw [c5b0]) | skip)
      (try (generalize hgzc5 : (x3_1 == 0) = bqc5 at *; subst c5b0; have c5b0 := hgzc5; clear hgzc5))
      replace H := ie_ H; rcases H with ⟨c6b0, c6b1, H⟩ | ⟨c6, c6b0, c6b1, H⟩
      ·by_cases c7 : x3_1 > 0
       ·rw [if_pos c7] at H
        have c7b0 : decide (0 < x3_1) = true := decide_eq_true c7
        clear c7
        replace H := bi_ H; obtain ⟨t125, A8, H⟩ := H
        replace H : (if t125 = true then (if 0 ≤ ((rd_T38 l0 x3_1).f5) then (if ((rd_T38 l0 x3_1).f5) < (l0.length : Int) then ((spec_l6Count.f k1 ((rd_T38 l0 ((rd_T38 l0 x3_1).f5)).f6) x3_1).bind fun t127 => (spec_l6Links.j1 k1 l0 x3_1 (t127 != 1))) else (none)) else (none)) else (spec_l6Links.j1 k1 l0 x3_1 true)) = some r := by first | exact H | (rw [c5b0]; exact H)
        replace H := ib_ H; rcases H with ⟨rfl, H⟩ | ⟨rfl, H⟩
        ·replace H := iq_ H; obtain ⟨c10b0, H⟩ := H
         replace H := iq_ H; obtain ⟨c11b0, H⟩ := H
         replace H := bi_ H; obtain ⟨t127, A12, H⟩ := H
         replace H : (spec_l6Links.j1 k1 l0 x3_1 (t127 != 1)) = some r := by first | exact H | (rw [c5b0]; exact H)
         have H' := am H
         clear H
         go_wp2_with (first | (go_at_call 58; (with_reducible refine (spec_l1In.calls ((rd_T38 l0 x3_1).f5) 0 (wrap64 ((l0.length : Int) - 1)) true _ A8.out).mono ?_); rintro e w' ⟨rfl, ⟨nd, rfl⟩⟩; have p126 : 0 ≤ (((rd_T38 l0 x3_1).f5) : Int) := of_decide_eq_true ab4; have q126 : ((rd_T38 l0 x3_1).f5) < (l0.length : Int) := of_decide_eq_true ab4; obtain ⟨ad126, A126_3, c126_3, A126_6, c126_6, e126, hx126_0, hx126_1, hx126_2, hx126_3, hx126_4, hx126_5, hx126_6, hl126_3, hi126_3, hl126_6, hi126_6⟩ := at_T38 HR0.out ((rd_T38 l0 x3_1).f5) p126 q126; obtain rfl : ad124 = ad126 := (by injection e126); have HR126_3 := am hi126_3; have HC126_3 := am hl126_3; clear hi126_3 hl126_3; have HR126_6 := am hi126_6; have HC126_6 := am hl126_6; clear hi126_6 hl126_6; replace p126 := eq_true p126; replace q126 := eq_true q126) | (go_at_call 39; (with_reducible refine (spec_l6Count.calls k1 _ _ ((rd_T38 l0 ((rd_T38 l0 x3_1).f5)).f6) x3_1 t127 _ ?side1 ?side2 A12.out).mono ?_); (case side1 => repeat (first | exact HR126_6.out | (with_reducible refine Kd.C_alloc ?_ _) | (with_reducible refine Kd.C_drewN ?_ _) | (with_reducible refine Kd.C_drew ?_))); (case side2 => exact HC126_6.out); rintro e w' ⟨rfl, ⟨nd, rfl⟩⟩))
         go_meet
         case rel => exact ⟨_, ((t127 != 1)), ab6, (by first | exact H' | (have h_ := H'.out; rw [c5b0] at h_; exact ⟨h_⟩)), ⟨by have := HK1.out; first | omega | exact Nat.le_refl _⟩, by repeat (first | exact Drawn0.refl _ | apply Drawn0.step)⟩
        ·have H' := am H
         clear H
         go_wp2_with (first | (go_at_call 58; (with_reducible refine (spec_l1In.calls ((rd_T38 l0 x3_1).f5) 0 (wrap64 ((l0.length : Int) - 1)) false _ A8.out).mono ?_); rintro e w' ⟨rfl, ⟨nd, rfl⟩⟩))
         go_meet
         case rel => exact ⟨_, (true), ab6, (by first | exact H' | (have h_ := H'.out; rw [c5b0] at h_; exact ⟨h_⟩)), ⟨by have := HK1.out; first | omega | exact Nat.le_refl _⟩, by repeat (first | exact Drawn0.refl _ | apply Drawn0.step)⟩
       ·rw [if_neg c7] at H
        have c7b0 : decide (0 < x3_1) = false := decide_eq_false c7
        clear c7
        have H' := am H
        clear H
        go_wp2
        go_meet
        case rel => exact ⟨_, (false), ab6, (by first | exact H' | (have h_ := H'.out; rw [c5b0] at h_; exact ⟨h_⟩)), ⟨by have := HK1.out; first | omega | exact Nat.le_refl _⟩, by repeat (first | exact Drawn0.refl _ | apply Drawn0.step)⟩
      ·have H' := am H
       clear H
       go_wp2
       go_meet
       case rel => exact ⟨_, (true), ab6, (by first | exact H' | (have h_ := H'.out; rw [c5b0] at h_; exact ⟨h_⟩)), ⟨by have := HK1.out; first | omega | exact Nat.le_refl _⟩, by repeat (first | exact Drawn0.refl _ | apply Drawn0.step)⟩
     ·(first | rw [c5b0] | (simp only [i64_w, i32_w]; rw [c5b0]) | skip)
      (try (generalize hgzc5 : (x3_1 == 0) = bqc5 at *; subst c5b0; have c5b0 := hgzc5; clear hgzc5))
      by_cases c13 : x3_1 > 0
      ·rw [if_pos c13] at H
       have c13b0 : decide (0 < x3_1) = true := decide_eq_true c13
       clear c13
       replace H := bi_ H; obtain ⟨t128, A14, H⟩ := H
       replace H : (if t128 = true then (if 0 ≤ ((rd_T38 l0 x3_1).f5) then (if ((rd_T38 l0 x3_1).f5) < (l0.length : Int) then ((spec_l6Count.f k1 ((rd_T38 l0 ((rd_T38 l0 x3_1).f5)).f6) x3_1).bind fun t130 => (spec_l6Links.j1 k1 l0 x3_1 (t130 != 1))) else (none)) else (none)) else (spec_l6Links.j1 k1 l0 x3_1 true)) = some r := by first | exact H | (rw [c5b0]; exact H)
       replace H := ib_ H; rcases H with ⟨rfl, H⟩ | ⟨rfl, H⟩
       ·replace H := iq_ H; obtain ⟨c16b0, H⟩ := H
        replace H := iq_ H; obtain ⟨c17b0, H⟩ := H
        replace H := bi_ H; obtain ⟨t130, A18, H⟩ := H
        replace H : (spec_l6Links.j1 k1 l0 x3_1 (t130 != 1)) = some r := by first | exact H | (rw [c5b0]; exact H)
        have H' := am H
        clear H
        go_wp2_with (first | (go_at_call 58; (with_reducible refine (spec_l1In.calls ((rd_T38 l0 x3_1).f5) 0 (wrap64 ((l0.length : Int) - 1)) true _ A14.out).mono ?_); rintro e w' ⟨rfl, ⟨nd, rfl⟩⟩; have p129 : 0 ≤ (((rd_T38 l0 x3_1).f5) : Int) := of_decide_eq_true ab4; have q129 : ((rd_T38 l0 x3_1).f5) < (l0.length : Int) := of_decide_eq_true ab4; obtain ⟨ad129, A129_3, c129_3, A129_6, c129_6, e129, hx129_0, hx129_1, hx129_2, hx129_3, hx129_4, hx129_5, hx129_6, hl129_3, hi129_3, hl129_6, hi129_6⟩ := at_T38 HR0.out ((rd_T38 l0 x3_1).f5) p129 q129; obtain rfl : ad124 = ad129 := (by injection e129); have HR129_3 := am hi129_3; have HC129_3 := am hl129_3; clear hi129_3 hl129_3; have HR129_6 := am hi129_6; have HC129_6 := am hl129_6; clear hi129_6 hl129_6; replace p129 := eq_true p129; replace q129 := eq_true q129) | (go_at_call 39; (with_reducible refine (spec_l6Count.calls k1 _ _ ((rd_T38 l0 ((rd_T38 l0 x3_1).f5)).f6) x3_1 t130 _ ?side1 ?side2 A18.out).mono ?_); (case side1 => repeat (first | exact HR129_6.out | (with_reducible refine Kd.C_alloc ?_ _) | (with_reducible refine Kd.C_drewN ?_ _) | (with_reducible refine Kd.C_drew ?_))); (case side2 => exact HC129_6.out); rintro e w' ⟨rfl, ⟨nd, rfl⟩⟩))
        go_meet
        case rel => exact ⟨_, ((t130 != 1)), ab6, (by first | exact H' | (have h_ := H'.out; rw [c5b0] at h_; exact ⟨h_⟩)), ⟨by have := HK1.out; first | omega | exact Nat.le_refl _⟩, by repeat (first | exact Drawn0.refl _ | apply Drawn0.step)⟩
       ·have H' := am H
        clear H
        go_wp2_with (first | (go_at_call 58; (with_reducible refine (spec_l1In.calls ((rd_T38 l0 x3_1).f5) 0 (wrap64 ((l0.length : Int) - 1)) false _ A14.out).mono ?_); rintro e w' ⟨rfl, ⟨nd, rfl⟩⟩))
        go_meet
        case rel => exact ⟨_, (true), ab6, (by first | exact H' | (have h_ := H'.out; rw [c5b0] at h_; exact ⟨h_⟩)), ⟨by have := HK1.out; first | omega | exact Nat.le_refl _⟩, by repeat (first | exact Drawn0.refl _ | apply Drawn0.step)⟩
      ·rw [if_neg c13] at H
       have c13b0 : decide (0 < x3_1) = false := decide_eq_false c13
       clear c13
       have H' := am H
       clear H
       go_wp2
       go_meet
       case rel => exact ⟨_, (false), ab6, (by first | exact H' | (have h_ := H'.out; rw [c5b0] at h_; exact ⟨h_⟩)), ⟨by have := HK1.out; first | omega | exact Nat.le_refl _⟩, by repeat (first | exact Drawn0.refl _ | apply Drawn0.step)⟩
    case rest =>
     clear HC4
     (try clear c1); (try clear p1); (try clear q1); (try clear hx1); (try clear c2); (try clear c2b0); (try clear p2); (try clear c3); (try clear c3b0); (try clear c5); (try clear c5b0); (try clear c5b1); (try clear c6); (try clear c6b0); (try clear c6b1); (try clear p6); (try clear c7); (try clear c7b0); (try clear c9); (try clear c10); (try clear c10b0); (try clear c11); (try clear c11b0); (try clear c12); (try clear p12); (try clear q12); (try clear hx12); (try clear c13); (try clear c13b0); (try clear c15); (try clear c16); (try clear c16b0); (try clear c17); (try clear c17b0); (try clear hx124_0); (try clear hx124_1); (try clear hx124_2); (try clear hx124_3); (try clear hx124_4); (try clear hx124_5); (try clear hx124_6); (try clear hx126_0); (try clear hx126_1); (try clear hx126_2); (try clear hx126_3); (try clear hx126_4); (try clear hx126_5); (try clear hx126_6); (try clear hx129_0); (try clear hx129_1); (try clear hx129_2); (try clear hx129_3); (try clear hx129_4); (try clear hx129_5); (try clear hx129_6); (try clear p124); (try clear p126); (try clear p129); (try clear q124); (try clear q126); (try clear q129)
     obtain ⟨kq, x45_3, rfl, HA, HJ3, ⟨mc3, rfl⟩⟩ := hcut
     cases kq with
     | zero => exact absurd HA.out (by simp [spec_l6Links.j1])
     | succ kj3 =>
      have H := HA.out
      clear HA
      simp only [spec_l6Links.j1] at H
      replace H := ib_ H; rcases H with ⟨rfl, H⟩ | ⟨rfl, H⟩
      ·obtain rfl := Option.some.inj H
       go_wp2
       go_ret
       exact ⟨ab6, by repeat (first | exact Drawn0.refl _ | apply Drawn0.step)⟩
      ·have H' := am H
       clear H
       go_wp2
       go_loopg [5] kj3 (fun kq v5 w' => ∃ (x5_3 : Int), v5 = .int .i64 x5_3 ∧ Aside0 (spec_l6Links.l1 kq l0 x3_1 x5_3 = some r) ∧ Aside0 (kq ≤ kj3) ∧ Drawn0 w w')
       case atStart => exact ⟨(0), ab6, H', ⟨Nat.le_refl _⟩, by repeat (first | exact Drawn0.refl _ | apply Drawn0.step)⟩
       case round =>
        clear H'
        (try clear c1); (try clear p1); (try clear q1); (try clear hx1); (try clear c2); (try clear c2b0); (try clear p2); (try clear c3); (try clear c3b0); (try clear c5); (try clear c5b0); (try clear c5b1); (try clear c6); (try clear c6b0); (try clear c6b1); (try clear p6); (try clear c7); (try clear c7b0); (try clear c9); (try clear c10); (try clear c10b0); (try clear c11); (try clear c11b0); (try clear c12); (try clear p12); (try clear q12); (try clear hx12); (try clear c13); (try clear c13b0); (try clear c15); (try clear c16); (try clear c16b0); (try clear c17); (try clear c17b0); (try clear c19); (try clear hx124_0); (try clear hx124_1); (try clear hx124_2); (try clear hx124_3); (try clear hx124_4); (try clear hx124_5); (try clear hx124_6); (try clear hx126_0); (try clear hx126_1); (try clear hx126_2); (try clear hx126_3); (try clear hx126_4); (try clear hx126_5); (try clear hx126_6); (try clear hx129_0); (try clear hx129_1); (try clear hx129_2); (try clear hx129_3); (try clear hx129_4); (try clear hx129_5); (try clear hx129_6); (try clear p1); (try clear p12); (try clear p124); (try clear p126); (try clear p129); (try clear p2); (try clear p6); (try clear q1); (try clear q12); (try clear q124); (try clear q126); (try clear q129)
        obtain ⟨x5_3, rfl, HA, HK3, ⟨m3, rfl⟩⟩ := hrel
        cases gk with
        | zero => exact absurd HA.out (by simp [spec_l6Links.l1])
        | succ k3 =>
         have H := HA.out
         clear HA
         simp only [spec_l6Links.l1] at H
         replace H := iq_ H; obtain ⟨c20b0, H⟩ := H
         replace H := iq_ H; obtain ⟨c21b0, H⟩ := H
         replace H := ir_ H; rcases H with ⟨c22b0, H⟩ | ⟨c22b0, H⟩
         ·replace H := iq_ H; obtain ⟨c23b0, H⟩ := H
          replace H := bi_ H; obtain ⟨t134, A24, H⟩ := H
          replace H := ib_ H; rcases H with ⟨rfl, H⟩ | ⟨rfl, H⟩
          ·replace H := iq_ H; obtain ⟨c26b0, H⟩ := H
           replace H := iq_ H; obtain ⟨c27b0, H⟩ := H
           replace H := ie_ H; rcases H with ⟨c28b0, c28b1, H⟩ | ⟨c28, c28b0, c28b1, H⟩
           ·have H' := am H
            clear H
            have p131 : 0 ≤ (x3_1 : Int) := of_decide_eq_true ab4
            have q131 : x3_1 < (l0.length : Int) := of_decide_eq_true ab4
            obtain ⟨ad131, A131_3, c131_3, A131_6, c131_6, e131, hx131_0, hx131_1, hx131_2, hx131_3, hx131_4, hx131_5, hx131_6, hl131_3, hi131_3, hl131_6, hi131_6⟩ := at_T38 HR0.out x3_1 p131 q131
            obtain rfl : ad124 = ad131 := (by injection e131)
            have HR131_3 := am hi131_3
            have HC131_3 := am hl131_3
            clear hi131_3 hl131_3
            have HR131_6 := am hi131_6
            have HC131_6 := am hl131_6
            clear hi131_6 hl131_6
            replace p131 := eq_true p131
            replace q131 := eq_true q131
            have p132 : 0 ≤ (x3_1 : Int) := of_decide_eq_true ab4
            have q132 : x3_1 < (l0.length : Int) := of_decide_eq_true ab4
            obtain ⟨ad132, A132_3, c132_3, A132_6, c132_6, e132, hx132_0, hx132_1, hx132_2, hx132_3, hx132_4, hx132_5, hx132_6, hl132_3, hi132_3, hl132_6, hi132_6⟩ := at_T38 HR0.out x3_1 p132 q132
            obtain rfl : ad124 = ad132 := (by injection e132)
            have HR132_3 := am hi132_3
            have HC132_3 := am hl132_3
            clear hi132_3 hl132_3
            have HR132_6 := am hi132_6
            have HC132_6 := am hl132_6
            clear hi132_6 hl132_6
            replace p132 := eq_true p132
            replace q132 := eq_true q132
            have ea_ := Option.some.inj (hx131_3.symm.trans hx132_3)
            injection ea_ with ea_ en_ ec_
            subst ea_
            subst ec_
            clear en_
            have ea_ := Option.some.inj (hx131_6.symm.trans hx132_6)
            injection ea_ with ea_ en_ ec_
            subst ea_
            subst ec_
            clear en_
            have p133 : 0 ≤ (x5_3 : Int) := of_decide_eq_true ab4
            have q133 : x5_3 < (((rd_T38 l0 x3_1).f6).length : Int) := of_decide_eq_true ab4
            obtain ⟨ad133, e133, hx133_0⟩ := Kd.at_int HR132_6.out x5_3 p133 q133
            cases e133
            replace p133 := eq_true p133
            replace q133 := eq_true q133
            go_wp2_with (first | ((with_reducible refine gf_ 58 ?_); refine gc_ Try.func58 (spec_l1In.calls (rd ((rd_T38 l0 x3_1).f6) x5_3) 1 (wrap64 ((l0.length : Int) - 1)) true _ A24.out) ?_; rintro w' ⟨nd, rfl⟩; have p135 : 0 ≤ ((rd ((rd_T38 l0 x3_1).f6) x5_3) : Int) := of_decide_eq_true ab4; have q135 : (rd ((rd_T38 l0 x3_1).f6) x5_3) < (l0.length : Int) := of_decide_eq_true ab4; obtain ⟨ad135, A135_3, c135_3, A135_6, c135_6, e135, hx135_0, hx135_1, hx135_2, hx135_3, hx135_4, hx135_5, hx135_6, hl135_3, hi135_3, hl135_6, hi135_6⟩ := at_T38 HR0.out (rd ((rd_T38 l0 x3_1).f6) x5_3) p135 q135; obtain rfl : ad124 = ad135 := (by injection e135); have HR135_3 := am hi135_3; have HC135_3 := am hl135_3; clear hi135_3 hl135_3; have HR135_6 := am hi135_6; have HC135_6 := am hl135_6; clear hi135_6 hl135_6; replace p135 := eq_true p135; replace q135 := eq_true q135))
            go_roundg k3
            case measure => have := HK1.out; have := HJ3.out; have := HK3.out; omega
            case rel => exact ⟨(wrap64 (x5_3 + 1)), ab6, H', ⟨by have := HK1.out; have := HJ3.out; have := HK3.out; omega⟩, by repeat (first | exact Drawn0.refl _ | apply Drawn0.step)⟩
           ·obtain rfl := Option.some.inj H
            have p131 : 0 ≤ (x3_1 : Int) := of_decide_eq_true ab4
            have q131 : x3_1 < (l0.length : Int) := of_decide_eq_true ab4
            obtain ⟨ad131, A131_3, c131_3, A131_6, c131_6, e131, hx131_0, hx131_1, hx131_2, hx131_3, hx131_4, hx131_5, hx131_6, hl131_3, hi131_3, hl131_6, hi131_6⟩ := at_T38 HR0.out x3_1 p131 q131
            obtain rfl : ad124 = ad131 := (by injection e131)
            have HR131_3 := am hi131_3
            have HC131_3 := am hl131_3
            clear hi131_3 hl131_3
            have HR131_6 := am hi131_6
            have HC131_6 := am hl131_6
            clear hi131_6 hl131_6
            replace p131 := eq_true p131
            replace q131 := eq_true q131
            have p132 : 0 ≤ (x3_1 : Int) := of_decide_eq_true ab4
            have q132 : x3_1 < (l0.length : Int) := of_decide_eq_true ab4
            obtain ⟨ad132, A132_3, c132_3, A132_6, c132_6, e132, hx132_0, hx132_1, hx132_2, hx132_3, hx132_4, hx132_5, hx132_6, hl132_3, hi132_3, hl132_6, hi132_6⟩ := at_T38 HR0.out x3_1 p132 q132
            obtain rfl : ad124 = ad132 := (by injection e132)
            have HR132_3 := am hi132_3
            have HC132_3 := am hl132_3
            clear hi132_3 hl132_3
            have HR132_6 := am hi132_6
            have HC132_6 := am hl132_6
            clear hi132_6 hl132_6
            replace p132 := eq_true p132
            replace q132 := eq_true q132
            have ea_ := Option.some.inj (hx131_3.symm.trans hx132_3)
            injection ea_ with ea_ en_ ec_
            subst ea_
            subst ec_
            clear en_
            have ea_ := Option.some.inj (hx131_6.symm.trans hx132_6)
            injection ea_ with ea_ en_ ec_
            subst ea_
            subst ec_
            clear en_
            have p133 : 0 ≤ (x5_3 : Int) := of_decide_eq_true ab4
            have q133 : x5_3 < (((rd_T38 l0 x3_1).f6).length : Int) := of_decide_eq_true ab4
            obtain ⟨ad133, e133, hx133_0⟩ := Kd.at_int HR132_6.out x5_3 p133 q133
            cases e133
            replace p133 := eq_true p133
            replace q133 := eq_true q133
            go_wp2_with (first | ((with_reducible refine gf_ 58 ?_); refine gc_ Try.func58 (spec_l1In.calls (rd ((rd_T38 l0 x3_1).f6) x5_3) 1 (wrap64 ((l0.length : Int) - 1)) true _ A24.out) ?_; rintro w' ⟨nd, rfl⟩; have p135 : 0 ≤ ((rd ((rd_T38 l0 x3_1).f6) x5_3) : Int) := of_decide_eq_true ab4; have q135 : (rd ((rd_T38 l0 x3_1).f6) x5_3) < (l0.length : Int) := of_decide_eq_true ab4; obtain ⟨ad135, A135_3, c135_3, A135_6, c135_6, e135, hx135_0, hx135_1, hx135_2, hx135_3, hx135_4, hx135_5, hx135_6, hl135_3, hi135_3, hl135_6, hi135_6⟩ := at_T38 HR0.out (rd ((rd_T38 l0 x3_1).f6) x5_3) p135 q135; obtain rfl : ad124 = ad135 := (by injection e135); have HR135_3 := am hi135_3; have HC135_3 := am hl135_3; clear hi135_3 hl135_3; have HR135_6 := am hi135_6; have HC135_6 := am hl135_6; clear hi135_6 hl135_6; replace p135 := eq_true p135; replace q135 := eq_true q135))
            go_ret
            exact ⟨ab6, by repeat (first | exact Drawn0.refl _ | apply Drawn0.step)⟩
          ·obtain rfl := Option.some.inj H
           have p131 : 0 ≤ (x3_1 : Int) := of_decide_eq_true ab4
           have q131 : x3_1 < (l0.length : Int) := of_decide_eq_true ab4
           obtain ⟨ad131, A131_3, c131_3, A131_6, c131_6, e131, hx131_0, hx131_1, hx131_2, hx131_3, hx131_4, hx131_5, hx131_6, hl131_3, hi131_3, hl131_6, hi131_6⟩ := at_T38 HR0.out x3_1 p131 q131
           obtain rfl : ad124 = ad131 := (by injection e131)
           have HR131_3 := am hi131_3
           have HC131_3 := am hl131_3
           clear hi131_3 hl131_3
           have HR131_6 := am hi131_6
           have HC131_6 := am hl131_6
           clear hi131_6 hl131_6
           replace p131 := eq_true p131
           replace q131 := eq_true q131
           have p132 : 0 ≤ (x3_1 : Int) := of_decide_eq_true ab4
           have q132 : x3_1 < (l0.length : Int) := of_decide_eq_true ab4
           obtain ⟨ad132, A132_3, c132_3, A132_6, c132_6, e132, hx132_0, hx132_1, hx132_2, hx132_3, hx132_4, hx132_5, hx132_6, hl132_3, hi132_3, hl132_6, hi132_6⟩ := at_T38 HR0.out x3_1 p132 q132
           obtain rfl : ad124 = ad132 := (by injection e132)
           have HR132_3 := am hi132_3
           have HC132_3 := am hl132_3
           clear hi132_3 hl132_3
           have HR132_6 := am hi132_6
           have HC132_6 := am hl132_6
           clear hi132_6 hl132_6
           replace p132 := eq_true p132
           replace q132 := eq_true q132
           have ea_ := Option.some.inj (hx131_3.symm.trans hx132_3)
           injection ea_ with ea_ en_ ec_
           subst ea_
           subst ec_
           clear en_
           have ea_ := Option.some.inj (hx131_6.symm.trans hx132_6)
           injection ea_ with ea_ en_ ec_
           subst ea_
           subst ec_
           clear en_
           have p133 : 0 ≤ (x5_3 : Int) := of_decide_eq_true ab4
           have q133 : x5_3 < (((rd_T38 l0 x3_1).f6).length : Int) := of_decide_eq_true ab4
           obtain ⟨ad133, e133, hx133_0⟩ := Kd.at_int HR132_6.out x5_3 p133 q133
           cases e133
           replace p133 := eq_true p133
           replace q133 := eq_true q133
           go_wp2_with (first | ((with_reducible refine gf_ 58 ?_); refine gc_ Try.func58 (spec_l1In.calls (rd ((rd_T38 l0 x3_1).f6) x5_3) 1 (wrap64 ((l0.length : Int) - 1)) false _ A24.out) ?_; rintro w' ⟨nd, rfl⟩))
           go_ret
           exact ⟨ab6, by repeat (first | exact Drawn0.refl _ | apply Drawn0.step)⟩
         ·have H' := am H
          clear H
          have p131 : 0 ≤ (x3_1 : Int) := of_decide_eq_true ab4
          have q131 : x3_1 < (l0.length : Int) := of_decide_eq_true ab4
          obtain ⟨ad131, A131_3, c131_3, A131_6, c131_6, e131, hx131_0, hx131_1, hx131_2, hx131_3, hx131_4, hx131_5, hx131_6, hl131_3, hi131_3, hl131_6, hi131_6⟩ := at_T38 HR0.out x3_1 p131 q131
          obtain rfl : ad124 = ad131 := (by injection e131)
          have HR131_3 := am hi131_3
          have HC131_3 := am hl131_3
          clear hi131_3 hl131_3
          have HR131_6 := am hi131_6
          have HC131_6 := am hl131_6
          clear hi131_6 hl131_6
          replace p131 := eq_true p131
          replace q131 := eq_true q131
          go_wp2
          go_roundg k3
          case measure => have := HK1.out; have := HJ3.out; have := HK3.out; omega
          case rel => exact ⟨(wrap64 (x3_1 + 1)), ab6, H', ⟨by have := HK1.out; have := HJ3.out; have := HK3.out; omega⟩, by repeat (first | exact Drawn0.refl _ | apply Drawn0.step)⟩
   ·obtain rfl := Option.some.inj H
    go_wp2
    go_ret
    exact ⟨ab6, by repeat (first | exact Drawn0.refl _ | apply Drawn0.step)⟩
theorem z4_0 {p : Prop} (h : p := by repeat (first | (with_reducible first | exact HK.out | apply Kept.alloc | apply Kept.drewN | apply Kept.drew) | exact HK.out)) : p := h
mutual
def spec_l6Order.l0 : Nat → List (S38) → Int → List Int → Int → Option (List Int)
 | 0, _, _, _, _ => none
 | k + 1, x0, x1, x2, x7 => if 0 ≤ x1 then (if x1 < (x0.length : Int) then (if x7 < (((rd_T38 x0 x1).f6).length : Int) then (if 0 ≤ x7 then ((spec_l6Order.f k x0 (rd ((rd_T38 x0 x1).f6) x7) x2).bind fun t142 => (spec_l6Order.l0 k x0 x1 t142 (wrap64 (x7 + 1)))) else (none)) else (some x2)) else (none)) else (none)
def spec_l6Order.f : Nat → List (S38) → Int → List Int → Option (List Int)
 | 0, _, _, _ => none
 | k + 1, l0, a1, l2 => if (l2.length : Int) ≥ (l0.length : Int) then (some l2) else (if l2.length < 17592186044416 then (spec_l6Order.l0 k l0 a1 (l2 ++ [a1]) 0) else (none))
end
theorem spec_l6Order.calls (k : Nat) : ∀ (A0 : Option Addr) (c0 : Nat) (l0 : List (S38)) (a1 : Int) (P2_ : Nat → Prop) (u9000_ : Value) (l2 : List Int) (r : List Int) (w0 w : World) (hB : Below w0.heap.size w0 w) (hr0 : ∀ W_, Kept w W_ (fun k_ => P2_ k_) → Kd.C k38 W_ A0 l0.length l0) (hc0 : l0.length ≤ c0) (ho2 : Kd.R (Kd.int .i64) 3 w w0.heap.size P2_ u9000_ l2) (h : spec_l6Order.f k l0 a1 l2 = some r),
  Calls Try.prog 61 #[.slice A0 l0.length c0, .int .i64 a1, u9000_] w fun e w' => ∃ v0_ : Value, e = .returned (v0_) ∧ Kd.R (Kd.int .i64) 3 w' w0.heap.size (fun k_ => (P2_ k_ ∨ w.heap.size ≤ k_)) v0_ r ∧ Below w0.heap.size w0 w' ∧ Kept w w' (fun k_ => P2_ k_) := by
 induction k using Nat.strongRecOn with
 | _ k ih =>
 intro A0 c0 l0 a1 P2_ u9000_ l2 r w0 w hB hr0 hc0 ho2 h
 cases k with
 | zero => exact absurd h (by simp [spec_l6Order.f])
 | succ k =>
 simp only [spec_l6Order.f] at h
 have HR0 := am hr0
 have HC0 := am hc0
 clear hr0 hc0
 have HO2 := am (show Kd.R (Kd.int .i64) 3 w w0.heap.size (fun k_ => (P2_ k_ ∨ w.heap.size ≤ k_)) u9000_ l2 from Kd.R_mono ho2 (fun k_ hk => (.inl hk)))
 have HK := am (Kept.refl w (fun k_ => P2_ k_))
 have HW0 := am hB.size
 have HB := am hB
 clear hB
 have H : (if (l2.length : Int) ≥ (l0.length : Int) then (some l2) else (if l2.length < 17592186044416 then (spec_l6Order.l0 k l0 a1 (l2 ++ [a1]) 0) else (none))) = some r := h
 clear h
 by_cases c4 : (l2.length : Int) ≥ (l0.length : Int)
 ·rw [if_pos c4] at H
  have c4b0 : decide ((l0.length : Int) ≤ (l2.length : Int)) = true := decide_eq_true c4
  have c4b1 : decide (l0.length ≤ l2.length) = true := decide_eq_true (Int.ofNat_le.mp c4)
  clear c4
  obtain rfl := Option.some.inj H
  obtain ⟨Ao5, co5, eo5⟩ := Kd.R_slice HO2.out
  subst eo5
  go_enter Try.func61, Try.ntmps61
  go_wp2
  go_ret
  exact ⟨_, ab7, ab8 HO2, ab1, z4_0⟩
 ·rw [if_neg c4] at H
  have c4b0 : decide ((l0.length : Int) ≤ (l2.length : Int)) = false := decide_eq_false c4
  have c4b1 : decide (l0.length ≤ l2.length) = false := decide_eq_false (fun h => c4 (Int.ofNat_le.mpr h))
  clear c4
  by_cases c6 : l2.length < 17592186044416
  case neg => rw [if_neg c6] at H; exact absurd H (by simp)
  rw [if_pos c6] at H
  have LMc6 := am c6
  clear c6
  obtain ⟨y136, hy136⟩ : ∃ y_ : List Int, y_ = (l2 ++ [a1]) := ⟨_, rfl⟩
  replace H : (spec_l6Order.l0 k l0 a1 y136 0) = some r := by first | (rw [hy136]; with_reducible exact H) | (have H2_ := (Option.bind_some _ _).symm.trans H; rw [hy136]; with_reducible exact H2_) | (have H2_ := (Option.bind_some _ _).symm.trans H; with_reducible exact H2_) | with_reducible exact H | (rw [hy136]; exact H) | exact H
  have Ny136 := am hy136
  clear hy136
  have H' := am H
  clear H
  obtain ⟨Ao7, co7, eo7⟩ := Kd.R_slice HO2.out
  subst eo7
  go_enter Try.func61, Try.ntmps61
  go_wp2_with (first | ((with_reducible refine gate_builtin (b := .append) (xs := #[.tmp 14, .tmp 16]) rfl ?_); at_builtin; refine Kd.R_append (Kd.int .i64) (w0 := w0) w0.heap.size rfl (.tmp 14) (.tmp 16) 23 3 (.int .i64 0) 8 rfl Try.underlying23 info3 rfl (by decide) (by omega) (.slice Ao7 l2.length co7) l2 a1 [.int .i64 a1] (fun k_ => (P2_ k_ ∨ w.heap.size ≤ k_)) (fun _ => False) rfl rfl ?aP (fun _ hk => hk.elim) ?aF ?aO ?aB ?aS ?aL ?_; (case aP => exact rfl); (case aB => exact ab1); (case aF => exact (fun k_ hk => (.inr (Nat.le_trans (by first | exact HK.out.1 | exact (show Kept w _ (fun k_ => P2_ k_) from z4_0).1) hk)))); (case aO => exact (ab8 HO2)); (case aS => exact (below_size ab1)); (case aL => have := LMc6.out; omega); intro v137 w8 ho hb hg hat; rw [← Ny136.out] at ho; replace HB := am hb; replace HK := am (Kept.of_grown (S := (fun k_ => P2_ k_)) hg (z4_0) (fun k_ e_ => (HO2.out.1 k_ e_))); have HO138 := am ho; clear HO2; clear ho hb hg hat))
  go_loopg [2, 7] k (fun kq v2 v7 w' => ∃ (x2_1 : List Int) (x7_1 : Int), v7 = .int .i64 x7_1 ∧ Aside0 (spec_l6Order.l0 kq l0 a1 x2_1 x7_1 = some r) ∧ Aside0 (kq ≤ k) ∧ Aside0 (Kd.R (Kd.int .i64) 3 w' w0.heap.size (fun k_ => (P2_ k_ ∨ w.heap.size ≤ k_)) v2 x2_1) ∧ Aside0 (Kept w w' (fun k_ => P2_ k_)) ∧ Aside0 (Below w0.heap.size w0 w'))
  case atStart => exact ⟨(y136), (0), ab6, H', ⟨Nat.le_refl _⟩, ⟨ab8 HO138⟩, ⟨z4_0⟩, ⟨ab1⟩⟩
  case round =>
   clear H'
   (try clear p2); (try clear c4); (try clear c4b0); (try clear c4b1); (try clear c6)
   obtain ⟨x2_1, x7_1, rfl, HA, HK1, HO_2, HK, HB⟩ := hrel
   cases gk with
   | zero => exact absurd HA.out (by simp [spec_l6Order.l0])
   | succ k1 =>
    have H := HA.out
    clear HA
    simp only [spec_l6Order.l0] at H
    replace H := iq_ H; obtain ⟨c9b0, H⟩ := H
    replace H := iq_ H; obtain ⟨c10b0, H⟩ := H
    replace H := ir_ H; rcases H with ⟨c11b0, H⟩ | ⟨c11b0, H⟩
    ·replace H := iq_ H; obtain ⟨c12b0, H⟩ := H
     replace H := bi_ H; obtain ⟨t142, A13, H⟩ := H
     have H' := am H
     clear H
     have p139 : 0 ≤ (a1 : Int) := of_decide_eq_true ab4
     have q139 : a1 < (l0.length : Int) := of_decide_eq_true ab4
     obtain ⟨ad139, A139_3, c139_3, A139_6, c139_6, e139, hx139_0, hx139_1, hx139_2, hx139_3, hx139_4, hx139_5, hx139_6, hl139_3, hi139_3, hl139_6, hi139_6⟩ := at_T38 (Kd.C_kept_now HR0.out HK.out) a1 p139 q139
     cases e139
     have HR139_3 := am hi139_3
     have HC139_3 := am hl139_3
     clear hi139_3 hl139_3
     have HR139_6 := am hi139_6
     have HC139_6 := am hl139_6
     clear hi139_6 hl139_6
     replace p139 := eq_true p139
     replace q139 := eq_true q139
     have p140 : 0 ≤ (a1 : Int) := of_decide_eq_true ab4
     have q140 : a1 < (l0.length : Int) := of_decide_eq_true ab4
     obtain ⟨ad140, A140_3, c140_3, A140_6, c140_6, e140, hx140_0, hx140_1, hx140_2, hx140_3, hx140_4, hx140_5, hx140_6, hl140_3, hi140_3, hl140_6, hi140_6⟩ := at_T38 (Kd.C_kept_now HR0.out HK.out) a1 p140 q140
     obtain rfl : ad139 = ad140 := (by injection e140)
     have HR140_3 := am hi140_3
     have HC140_3 := am hl140_3
     clear hi140_3 hl140_3
     have HR140_6 := am hi140_6
     have HC140_6 := am hl140_6
     clear hi140_6 hl140_6
     replace p140 := eq_true p140
     replace q140 := eq_true q140
     have ea_ := Option.some.inj (hx139_3.symm.trans hx140_3)
     injection ea_ with ea_ en_ ec_
     subst ea_
     subst ec_
     clear en_
     have ea_ := Option.some.inj (hx139_6.symm.trans hx140_6)
     injection ea_ with ea_ en_ ec_
     subst ea_
     subst ec_
     clear en_
     have p141 : 0 ≤ (x7_1 : Int) := of_decide_eq_true ab4
     have q141 : x7_1 < (((rd_T38 l0 a1).f6).length : Int) := of_decide_eq_true ab4
     obtain ⟨ad141, e141, hx141_0⟩ := Kd.at_int (by repeat (first | (with_reducible exact HR140_6.out) | (with_reducible refine Kd.C_alloc ?_ _) | (with_reducible refine Kd.C_drewN ?_ _) | (with_reducible refine Kd.C_drew ?_) | exact HR140_6.out)) x7_1 p141 q141
     cases e141
     replace p141 := eq_true p141
     replace q141 := eq_true q141
     obtain ⟨Ao14, co14, eo14⟩ := Kd.R_slice HO_2.out
     subst eo14
     go_wp2_with (first | ((with_reducible refine gate_callee (f := 61) rfl ?_); refine goesL_ (some 38) rfl rfl Try.func61 (by kernel_rfl) rfl #[.slice (some ad139) l0.length c0, .int .i64 (rd ((rd_T38 l0 a1).f6) x7_1), .slice Ao14 x2_1.length co14] rfl ab5 ?_; (with_reducible refine (ih k1 (by have := HK1.out; omega) _ _ l0 (rd ((rd_T38 l0 a1).f6) x7_1) (fun k_ => some k_ = (.slice Ao14 x2_1.length co14 : Value).ownBlock) (.slice Ao14 x2_1.length co14) x2_1 t142 w0 _ ?side1 ?side2 ?side3 ?side4 A13.out).mono ?_); (case side1 => repeat (first | (with_reducible first | exact HB.out | apply below_alloc | apply pw_below_drewN | apply below_drew1) | exact HB.out)); (case side2 => exact Kd.C_kept_call HR0.out (z4_0) (fun k_ hs_ => (fun e_ => (HO_2.out.1 k_ e_.symm)) hs_)); (case side3 => exact HC0.out); (case side4 => exact Kd.R_tight rfl HO_2.out); rintro e w15 ⟨v143, rfl, ho0, hb, hkp⟩; refine ⟨_, rfl, ?_⟩; have HO144 := am (Kd.R_mono (ok' := fun k_ => (P2_ k_ ∨ w.heap.size ≤ k_)) ho0 (fun k_ hk_ => Or.elim hk_ (fun hs_ => (HO_2.out.1 k_ (hs_).symm)) (fun hn_ => (.inr (Nat.le_trans (by first | exact HK.out.1 | exact (show Kept w _ (fun k_ => P2_ k_) from z4_0).1) hn_))))); replace HK := am (Kept.then_ (S := (fun k_ => P2_ k_)) (z4_0) hkp (fun k_ hs_ => (fun e_ => (HO_2.out.1 k_ e_.symm)) hs_)); replace HB := am hb; clear HO_2; (try clear hb); (try clear hkp); (try clear ho0)))
     go_roundg k1
     case measure => have := HK1.out; omega
     case rel => exact ⟨(t142), (wrap64 (x7_1 + 1)), ab6, H', ⟨by have := HK1.out; omega⟩, ⟨ab8 HO144⟩, ⟨z4_0⟩, ⟨ab1⟩⟩
    ·obtain rfl := Option.some.inj H
     have p139 : 0 ≤ (a1 : Int) := of_decide_eq_true ab4
     have q139 : a1 < (l0.length : Int) := of_decide_eq_true ab4
     obtain ⟨ad139, A139_3, c139_3, A139_6, c139_6, e139, hx139_0, hx139_1, hx139_2, hx139_3, hx139_4, hx139_5, hx139_6, hl139_3, hi139_3, hl139_6, hi139_6⟩ := at_T38 (Kd.C_kept_now HR0.out HK.out) a1 p139 q139
     cases e139
     have HR139_3 := am hi139_3
     have HC139_3 := am hl139_3
     clear hi139_3 hl139_3
     have HR139_6 := am hi139_6
     have HC139_6 := am hl139_6
     clear hi139_6 hl139_6
     replace p139 := eq_true p139
     replace q139 := eq_true q139
     go_wp2
     go_ret
     exact ⟨_, ab7, ab8 HO_2, ab1, z4_0⟩
mutual
def spec_TreeOk.j0 : Nat → List (S38) → Bool → Option (Bool)
 | 0, _, _ => none
 | k + 1, x0, x14 => if x14 = true then (some false) else (spec_TreeOk.l0 k x0 0)
def spec_TreeOk.l0 : Nat → List (S38) → Int → Option (Bool)
 | 0, _, _ => none
 | k + 1, x0, x3 => if x3 < (x0.length : Int) then (if 0 ≤ x3 then ((spec_l6Plain.f k ((rd_T38 x0 x3).f0) ((rd_T38 x0 x3).f1) ((rd_T38 x0 x3).f2) ((rd_T38 x0 x3).f3) ((rd_T38 x0 x3).f4) ((rd_T38 x0 x3).f5) ((rd_T38 x0 x3).f6)).bind fun t148 => (if t148 = true then (if x3 > 0 then (if ((rd_T38 x0 x3).f0) = 1 then (some false) else (spec_TreeOk.l0 k x0 (wrap64 (x3 + 1)))) else (spec_TreeOk.l0 k x0 (wrap64 (x3 + 1)))) else (some false))) else (none)) else ((spec_l6Links.f k x0).bind fun t150 => (if t150 = true then ((spec_l6Order.f k x0 0 (([] : List Int))).bind fun t154 => (some ((t154.length : Int) == (x0.length : Int)))) else (some false)))
end
def spec_TreeOk.f (k : Nat) (l0 : List (S38)) : Option (Bool) := (spec_l1In.f (l0.length : Int) 1 3000).bind fun t145 => (if t145 = true then (if 0 < (l0.length : Int) then (spec_TreeOk.j0 k l0 (((rd_T38 l0 0).f0) != 1)) else (none)) else (spec_TreeOk.j0 k l0 true))
theorem spec_TreeOk.calls (k : Nat) (A0 : Option Addr) (c0 : Nat) (l0 : List (S38)) (r : Bool) (w : World) (hr0 : Kd.C k38 w A0 l0.length l0) (hc0 : l0.length ≤ c0) (h : spec_TreeOk.f k l0 = some r) :
  Calls Try.prog 37 #[.slice A0 l0.length c0] w fun e w' => e = .returned (.bool r) ∧ Below w.heap.size w w' := by
 have hu38 := Try.underlying38
 have HR0 := am hr0
 have HC0 := am hc0
 clear hr0 hc0
 have HB := am (Below.refl w.heap.size w)
 have H : ((spec_l1In.f (l0.length : Int) 1 3000).bind fun t145 => (if t145 = true then (if 0 < (l0.length : Int) then (spec_TreeOk.j0 k l0 (((rd_T38 l0 0).f0) != 1)) else (none)) else (spec_TreeOk.j0 k l0 true))) = some r := h
 clear h
 have HC2 := am H
 clear H
 go_enter Try.func37, Try.ntmps37
 go_upto_region 1 with (fail)
 go_cut [14] (fun v14 wc => ∃ (kq : Nat) (x14_1 : Bool), v14 = .bool x14_1 ∧ Aside0 (spec_TreeOk.j0 kq l0 x14_1 = some r) ∧ Aside0 (kq ≤ k) ∧ Aside0 (Below w.heap.size w wc))
 case first =>
  have H := HC2.out
  clear HC2
  replace H := bi_ H; obtain ⟨t145, A3, H⟩ := H
  replace H := ib_ H; rcases H with ⟨rfl, H⟩ | ⟨rfl, H⟩
  ·by_cases c5 : 0 < (l0.length : Int)
   case neg => rw [if_neg c5] at H; exact absurd H (by simp)
   rw [if_pos c5] at H
   have c5b0 := decide_eq_true c5
   have c5b1 : decide (0 < l0.length) = true := decide_eq_true (by omega)
   clear c5
   (first | rw [c5b0] | (simp only [i64_w, i32_w]; rw [c5b0]) | skip)
   (try (generalize hgzc5 : decide (0 < (l0.length : Int)) = bqc5 at *; subst c5b0; have c5b0 := hgzc5; clear hgzc5))
   have H' := am H
   clear H
   go_wp2_with (first | ((with_reducible refine gf_ 58 ?_); refine gc_ Try.func58 (spec_l1In.calls (l0.length : Int) 1 3000 true _ A3.out) ?_; rintro w' ⟨nd, rfl⟩; have p146 : 0 ≤ (0 : Int) := (by omega); have q146 : 0 < (l0.length : Int) := of_decide_eq_true ab4; obtain ⟨ad146, A146_3, c146_3, A146_6, c146_6, e146, hx146_0, hx146_1, hx146_2, hx146_3, hx146_4, hx146_5, hx146_6, hl146_3, hi146_3, hl146_6, hi146_6⟩ := at_T38 HR0.out 0 p146 q146; cases e146; have qi146 : (0 < l0.length) = True := eq_true (by omega); (try rw [show ((0 : Int)).toNat = 0 from rfl] at hx146_0); (try rw [show 0 * 7 = 0 from rfl] at hx146_0); (try rw [Addr.add_zero'] at hx146_0); (try rw [show ((0 : Int)).toNat = 0 from rfl] at hx146_1); (try rw [show 0 * 7 = 0 from rfl] at hx146_1); (try rw [Addr.add_zero'] at hx146_1); (try rw [show ((0 : Int)).toNat = 0 from rfl] at hx146_2); (try rw [show 0 * 7 = 0 from rfl] at hx146_2); (try rw [Addr.add_zero'] at hx146_2); (try rw [show ((0 : Int)).toNat = 0 from rfl] at hx146_3); (try rw [show 0 * 7 = 0 from rfl] at hx146_3); (try rw [Addr.add_zero'] at hx146_3); (try rw [show ((0 : Int)).toNat = 0 from rfl] at hx146_4); (try rw [show 0 * 7 = 0 from rfl] at hx146_4); (try rw [Addr.add_zero'] at hx146_4); (try rw [show ((0 : Int)).toNat = 0 from rfl] at hx146_5); (try rw [show 0 * 7 = 0 from rfl] at hx146_5); (try rw [Addr.add_zero'] at hx146_5); (try rw [show ((0 : Int)).toNat = 0 from rfl] at hx146_6); (try rw [show 0 * 7 = 0 from rfl] at hx146_6); (try rw [Addr.add_zero'] at hx146_6); replace hx146_0 := pc_ HB hx146_0; replace hx146_1 := pc_ HB hx146_1; replace hx146_2 := pc_ HB hx146_2; replace hx146_3 := pc_ HB hx146_3; replace hx146_4 := pc_ HB hx146_4; replace hx146_5 := pc_ HB hx146_5; replace hx146_6 := pc_ HB hx146_6; have HR146_3 := am hi146_3; have HC146_3 := am hl146_3; clear hi146_3 hl146_3; have HR146_6 := am hi146_6; have HC146_6 := am hl146_6; clear hi146_6 hl146_6; replace p146 := eq_true p146; replace q146 := eq_true q146))
   go_meet
   case rel => exact ⟨_, ((((rd_T38 l0 0).f0) != 1)), ab6, (by first | exact H' | (have h_ := H'.out; rw [c5b0] at h_; exact ⟨h_⟩)), ⟨by first | omega | exact Nat.le_refl _⟩, ⟨ab1⟩⟩
  ·have H' := am H
   clear H
   go_wp2_with (first | ((with_reducible refine gf_ 58 ?_); refine gc_ Try.func58 (spec_l1In.calls (l0.length : Int) 1 3000 false _ A3.out) ?_; rintro w' ⟨nd, rfl⟩))
   go_meet
   case rel => exact ⟨_, (true), ab6, H', ⟨by first | omega | exact Nat.le_refl _⟩, ⟨ab1⟩⟩
 case rest =>
  clear HC2
  (try clear c1); (try clear p1); (try clear q1); (try clear hx1); (try clear qi1); (try clear p2); (try clear c3); (try clear c4); (try clear c5); (try clear c5b0); (try clear c5b1); (try clear hx146_0); (try clear hx146_1); (try clear hx146_2); (try clear hx146_3); (try clear hx146_4); (try clear hx146_5); (try clear hx146_6); (try clear p146); (try clear q146)
  obtain ⟨kq, x14_1, rfl, HA, HJ1, HB⟩ := hcut
  cases kq with
  | zero => exact absurd HA.out (by simp [spec_TreeOk.j0])
  | succ kj1 =>
   have H := HA.out
   clear HA
   simp only [spec_TreeOk.j0] at H
   replace H := ib_ H; rcases H with ⟨rfl, H⟩ | ⟨rfl, H⟩
   ·obtain rfl := Option.some.inj H
    go_wp2
    go_ret
    exact ⟨ab7, ab1⟩
   ·have H' := am H
    clear H
    go_wp2
    go_loopg [3] kj1 (fun kq v3 w' => ∃ (x3_2 : Int), v3 = .int .i64 x3_2 ∧ Aside0 (spec_TreeOk.l0 kq l0 x3_2 = some r) ∧ Aside0 (kq ≤ kj1) ∧ Aside0 (Below w.heap.size w w'))
    case atStart => exact ⟨(0), ab6, H', ⟨Nat.le_refl _⟩, ⟨ab1⟩⟩
    case round =>
     clear H'
     (try clear c1); (try clear p1); (try clear q1); (try clear hx1); (try clear qi1); (try clear p2); (try clear c3); (try clear c4); (try clear c5); (try clear c5b0); (try clear c5b1); (try clear c6); (try clear hx146_0); (try clear hx146_1); (try clear hx146_2); (try clear hx146_3); (try clear hx146_4); (try clear hx146_5); (try clear hx146_6); (try clear p1); (try clear p146); (try clear p2); (try clear q1); (try clear q146)
     obtain ⟨x3_2, rfl, HA, HK2, HB⟩ := hrel
     cases gk with
     | zero => exact absurd HA.out (by simp [spec_TreeOk.l0])
     | succ k2 =>
      have H := HA.out
      clear HA
      simp only [spec_TreeOk.l0] at H
      replace H := ir_ H; rcases H with ⟨c7b0, H⟩ | ⟨c7b0, H⟩
      ·replace H := iq_ H; obtain ⟨c8b0, H⟩ := H
       replace H := bi_ H; obtain ⟨t148, A9, H⟩ := H
       replace H := ib_ H; rcases H with ⟨rfl, H⟩ | ⟨rfl, H⟩
       ·by_cases c11 : x3_2 > 0
        ·rw [if_pos c11] at H
         have c11b0 : decide (0 < x3_2) = true := decide_eq_true c11
         clear c11
         replace H := ie_ H; rcases H with ⟨c12b0, c12b1, H⟩ | ⟨c12, c12b0, c12b1, H⟩
         ·obtain rfl := Option.some.inj H
          have p147 : 0 ≤ (x3_2 : Int) := of_decide_eq_true ab4
          have q147 : x3_2 < (l0.length : Int) := of_decide_eq_true ab4
          obtain ⟨ad147, A147_3, c147_3, A147_6, c147_6, e147, hx147_0, hx147_1, hx147_2, hx147_3, hx147_4, hx147_5, hx147_6, hl147_3, hi147_3, hl147_6, hi147_6⟩ := at_T38 HR0.out x3_2 p147 q147
          cases e147
          replace hx147_0 := pc_ HB hx147_0
          replace hx147_1 := pc_ HB hx147_1
          replace hx147_2 := pc_ HB hx147_2
          replace hx147_3 := pc_ HB hx147_3
          replace hx147_4 := pc_ HB hx147_4
          replace hx147_5 := pc_ HB hx147_5
          replace hx147_6 := pc_ HB hx147_6
          have HR147_3 := am hi147_3
          have HC147_3 := am hl147_3
          clear hi147_3 hl147_3
          have HR147_6 := am hi147_6
          have HC147_6 := am hl147_6
          clear hi147_6 hl147_6
          replace p147 := eq_true p147
          replace q147 := eq_true q147
          go_wp2_with (first | ((with_reducible refine gf_ 59 ?_); refine gc_ Try.func59 (spec_l6Plain.calls k2 ((rd_T38 l0 x3_2).f0) ((rd_T38 l0 x3_2).f1) ((rd_T38 l0 x3_2).f2) _ _ ((rd_T38 l0 x3_2).f3) ((rd_T38 l0 x3_2).f4) ((rd_T38 l0 x3_2).f5) _ _ ((rd_T38 l0 x3_2).f6) true _ (sc_ HR147_3) HC147_3.out (sc_ HR147_6) HC147_6.out A9.out) ?_; rintro w13 hb; replace HB := am (below_step ab1 hb); (try clear hb); (try clear hb2); (try clear hk); (try clear hi); have p149 : 0 ≤ (x3_2 : Int) := of_decide_eq_true ab4; have q149 : x3_2 < (l0.length : Int) := of_decide_eq_true ab4; obtain ⟨ad149, A149_3, c149_3, A149_6, c149_6, e149, hx149_0, hx149_1, hx149_2, hx149_3, hx149_4, hx149_5, hx149_6, hl149_3, hi149_3, hl149_6, hi149_6⟩ := at_T38 HR0.out x3_2 p149 q149; obtain rfl : ad147 = ad149 := (by injection e149); replace hx149_0 := pc_ HB hx149_0; replace hx149_1 := pc_ HB hx149_1; replace hx149_2 := pc_ HB hx149_2; replace hx149_3 := pc_ HB hx149_3; replace hx149_4 := pc_ HB hx149_4; replace hx149_5 := pc_ HB hx149_5; replace hx149_6 := pc_ HB hx149_6; have HR149_3 := am hi149_3; have HC149_3 := am hl149_3; clear hi149_3 hl149_3; have HR149_6 := am hi149_6; have HC149_6 := am hl149_6; clear hi149_6 hl149_6; replace p149 := eq_true p149; replace q149 := eq_true q149))
          go_ret
          exact ⟨ab7, ab1⟩
         ·have H' := am H
          clear H
          have p147 : 0 ≤ (x3_2 : Int) := of_decide_eq_true ab4
          have q147 : x3_2 < (l0.length : Int) := of_decide_eq_true ab4
          obtain ⟨ad147, A147_3, c147_3, A147_6, c147_6, e147, hx147_0, hx147_1, hx147_2, hx147_3, hx147_4, hx147_5, hx147_6, hl147_3, hi147_3, hl147_6, hi147_6⟩ := at_T38 HR0.out x3_2 p147 q147
          cases e147
          replace hx147_0 := pc_ HB hx147_0
          replace hx147_1 := pc_ HB hx147_1
          replace hx147_2 := pc_ HB hx147_2
          replace hx147_3 := pc_ HB hx147_3
          replace hx147_4 := pc_ HB hx147_4
          replace hx147_5 := pc_ HB hx147_5
          replace hx147_6 := pc_ HB hx147_6
          have HR147_3 := am hi147_3
          have HC147_3 := am hl147_3
          clear hi147_3 hl147_3
          have HR147_6 := am hi147_6
          have HC147_6 := am hl147_6
          clear hi147_6 hl147_6
          replace p147 := eq_true p147
          replace q147 := eq_true q147
          go_wp2_with (first | ((with_reducible refine gf_ 59 ?_); refine gc_ Try.func59 (spec_l6Plain.calls k2 ((rd_T38 l0 x3_2).f0) ((rd_T38 l0 x3_2).f1) ((rd_T38 l0 x3_2).f2) _ _ ((rd_T38 l0 x3_2).f3) ((rd_T38 l0 x3_2).f4) ((rd_T38 l0 x3_2).f5) _ _ ((rd_T38 l0 x3_2).f6) true _ (sc_ HR147_3) HC147_3.out (sc_ HR147_6) HC147_6.out A9.out) ?_; rintro w14 hb; replace HB := am (below_step ab1 hb); (try clear hb); (try clear hb2); (try clear hk); (try clear hi); have p149 : 0 ≤ (x3_2 : Int) := of_decide_eq_true ab4; have q149 : x3_2 < (l0.length : Int) := of_decide_eq_true ab4; obtain ⟨ad149, A149_3, c149_3, A149_6, c149_6, e149, hx149_0, hx149_1, hx149_2, hx149_3, hx149_4, hx149_5, hx149_6, hl149_3, hi149_3, hl149_6, hi149_6⟩ := at_T38 HR0.out x3_2 p149 q149; obtain rfl : ad147 = ad149 := (by injection e149); replace hx149_0 := pc_ HB hx149_0; replace hx149_1 := pc_ HB hx149_1; replace hx149_2 := pc_ HB hx149_2; replace hx149_3 := pc_ HB hx149_3; replace hx149_4 := pc_ HB hx149_4; replace hx149_5 := pc_ HB hx149_5; replace hx149_6 := pc_ HB hx149_6; have HR149_3 := am hi149_3; have HC149_3 := am hl149_3; clear hi149_3 hl149_3; have HR149_6 := am hi149_6; have HC149_6 := am hl149_6; clear hi149_6 hl149_6; replace p149 := eq_true p149; replace q149 := eq_true q149))
          go_roundg k2
          case measure => have := HJ1.out; have := HK2.out; omega
          case rel => exact ⟨(wrap64 (x3_2 + 1)), ab6, H', ⟨by have := HJ1.out; have := HK2.out; omega⟩, ⟨ab1⟩⟩
        ·rw [if_neg c11] at H
         have c11b0 : decide (0 < x3_2) = false := decide_eq_false c11
         clear c11
         have H' := am H
         clear H
         have p147 : 0 ≤ (x3_2 : Int) := of_decide_eq_true ab4
         have q147 : x3_2 < (l0.length : Int) := of_decide_eq_true ab4
         obtain ⟨ad147, A147_3, c147_3, A147_6, c147_6, e147, hx147_0, hx147_1, hx147_2, hx147_3, hx147_4, hx147_5, hx147_6, hl147_3, hi147_3, hl147_6, hi147_6⟩ := at_T38 HR0.out x3_2 p147 q147
         cases e147
         replace hx147_0 := pc_ HB hx147_0
         replace hx147_1 := pc_ HB hx147_1
         replace hx147_2 := pc_ HB hx147_2
         replace hx147_3 := pc_ HB hx147_3
         replace hx147_4 := pc_ HB hx147_4
         replace hx147_5 := pc_ HB hx147_5
         replace hx147_6 := pc_ HB hx147_6
         have HR147_3 := am hi147_3
         have HC147_3 := am hl147_3
         clear hi147_3 hl147_3
         have HR147_6 := am hi147_6
         have HC147_6 := am hl147_6
         clear hi147_6 hl147_6
         replace p147 := eq_true p147
         replace q147 := eq_true q147
         go_wp2_with (first | ((with_reducible refine gf_ 59 ?_); refine gc_ Try.func59 (spec_l6Plain.calls k2 ((rd_T38 l0 x3_2).f0) ((rd_T38 l0 x3_2).f1) ((rd_T38 l0 x3_2).f2) _ _ ((rd_T38 l0 x3_2).f3) ((rd_T38 l0 x3_2).f4) ((rd_T38 l0 x3_2).f5) _ _ ((rd_T38 l0 x3_2).f6) true _ (sc_ HR147_3) HC147_3.out (sc_ HR147_6) HC147_6.out A9.out) ?_; rintro w15 hb; replace HB := am (below_step ab1 hb); (try clear hb); (try clear hb2); (try clear hk); (try clear hi)))
         go_roundg k2
         case measure => have := HJ1.out; have := HK2.out; omega
         case rel => exact ⟨(wrap64 (x3_2 + 1)), ab6, H', ⟨by have := HJ1.out; have := HK2.out; omega⟩, ⟨ab1⟩⟩
       ·obtain rfl := Option.some.inj H
        have p147 : 0 ≤ (x3_2 : Int) := of_decide_eq_true ab4
        have q147 : x3_2 < (l0.length : Int) := of_decide_eq_true ab4
        obtain ⟨ad147, A147_3, c147_3, A147_6, c147_6, e147, hx147_0, hx147_1, hx147_2, hx147_3, hx147_4, hx147_5, hx147_6, hl147_3, hi147_3, hl147_6, hi147_6⟩ := at_T38 HR0.out x3_2 p147 q147
        cases e147
        replace hx147_0 := pc_ HB hx147_0
        replace hx147_1 := pc_ HB hx147_1
        replace hx147_2 := pc_ HB hx147_2
        replace hx147_3 := pc_ HB hx147_3
        replace hx147_4 := pc_ HB hx147_4
        replace hx147_5 := pc_ HB hx147_5
        replace hx147_6 := pc_ HB hx147_6
        have HR147_3 := am hi147_3
        have HC147_3 := am hl147_3
        clear hi147_3 hl147_3
        have HR147_6 := am hi147_6
        have HC147_6 := am hl147_6
        clear hi147_6 hl147_6
        replace p147 := eq_true p147
        replace q147 := eq_true q147
        go_wp2_with (first | ((with_reducible refine gf_ 59 ?_); refine gc_ Try.func59 (spec_l6Plain.calls k2 ((rd_T38 l0 x3_2).f0) ((rd_T38 l0 x3_2).f1) ((rd_T38 l0 x3_2).f2) _ _ ((rd_T38 l0 x3_2).f3) ((rd_T38 l0 x3_2).f4) ((rd_T38 l0 x3_2).f5) _ _ ((rd_T38 l0 x3_2).f6) false _ (sc_ HR147_3) HC147_3.out (sc_ HR147_6) HC147_6.out A9.out) ?_; rintro w16 hb; replace HB := am (below_step ab1 hb); (try clear hb); (try clear hb2); (try clear hk); (try clear hi)))
        go_ret
        exact ⟨ab7, ab1⟩
      ·replace H := bi_ H; obtain ⟨t150, A17, H⟩ := H
       replace H := ib_ H; rcases H with ⟨rfl, H⟩ | ⟨rfl, H⟩
       ·obtain ⟨y151, hy151⟩ : ∃ y_ : List Int, y_ = (([] : List Int)) := ⟨_, rfl⟩
        replace H : ((spec_l6Order.f k2 l0 0 y151).bind fun t154 => (some ((t154.length : Int) == (l0.length : Int)))) = some r := by first | (rw [hy151]; with_reducible exact H) | (have H2_ := (Option.bind_some _ _).symm.trans H; rw [hy151]; with_reducible exact H2_) | (have H2_ := (Option.bind_some _ _).symm.trans H; with_reducible exact H2_) | with_reducible exact H | (rw [hy151]; exact H) | exact H
        have Ny151 := am hy151
        clear hy151
        replace H := bi_ H; obtain ⟨t154, A19, H⟩ := H
        obtain rfl := Option.some.inj H
        go_wp2_with (first | ((with_reducible refine gf_ 60 ?_); refine gc_ Try.func60 (spec_l6Links.calls k2 _ _ l0 true _ (sc_ HR0) HC0.out A17.out) ?_; rintro w' ⟨nd, rfl⟩) | ((with_reducible refine gate_dst (N := 43) rfl ?_); (try (refine gate_guard (by rfl) ?_; dsimp only)); refine Kd.R_lit (Kd.int .i64) _ 3 ?hg (N := 43) ?hd (xs := ([] : List Int)) (inner := []) (ok := fun _ => True) (okp := fun _ => True) ?hr ?hp (fun _ hk => hk) trivial (Below.refl _ _) (Nat.le_refl _) (by simp) ?_; (case hd => rfl); (case hg => rfl); (case hr => first | (go_simp; done) | (go_simp; rfl)); (case hp => exact (Reps.none _ _)); intro v152 w20 ho21 hb hg_ hnew_; clear hg_ hnew_; (first | rw [← Ny151.out] at ho21 | (simp only [Int.reduceToNat] at ho21; rw [← Ny151.out] at ho21)); have HO153 := am (Kd.R_lower ho21 (below_size ab1)); replace HB := am (below_step ab1 hb); clear hb ho21; obtain ⟨Ao22, co22, eo22⟩ := Kd.R_slice HO153.out; subst eo22) | (go_at_call 61; (with_reducible refine (spec_l6Order.calls k2 _ _ l0 0 (fun k_ => some k_ = (.slice Ao22 y151.length co22 : Value).ownBlock) (.slice Ao22 y151.length co22) y151 t154 w _ ?side1 (Kd.C_kept_came k38_heap HR0.out ab1 (fun k_ hs_ => (fun e_ => Kd.R_base HO153.out k_ e_.symm) hs_)) HC0.out (Kd.R_tight rfl HO153.out) A19.out).mono ?_); (case side1 => exact (by repeat (first | (with_reducible first | exact HB.out | apply below_alloc | apply pw_below_drewN | apply below_drew1) | exact HB.out))); rintro e w23 ⟨v155, rfl, ho0, hb, hkp⟩; have HO156 := am (Kd.R_mono (ok' := fun k_ => True) ho0 (fun k_ hk_ => trivial)); replace HB := am hb; clear HO153; (try clear hb); (try clear hkp); (try clear ho0); obtain ⟨Ao24, co24, eo24⟩ := Kd.R_slice HO156.out; subst eo24))
        go_ret
        exact ⟨ab7, ab1⟩
       ·obtain rfl := Option.some.inj H
        go_wp2_with (first | ((with_reducible refine gf_ 60 ?_); refine gc_ Try.func60 (spec_l6Links.calls k2 _ _ l0 false _ (sc_ HR0) HC0.out A17.out) ?_; rintro w' ⟨nd, rfl⟩))
        go_ret
        exact ⟨ab7, ab1⟩
def spec_l8Tag.f (l0 : List (S38)) (a1 : Int) (a2 : ByteArray) : Option (Bool) := (spec_l1In.f a1 0 (wrap64 ((l0.length : Int) - 1))).bind fun t157 => (if t157 = true then (if 0 ≤ a1 then (if a1 < (l0.length : Int) then (if ((rd_T38 l0 a1).f0) = 2 then (if a2.toList = ([] : List UInt8) then (some true) else (some (((rd_T38 l0 a1).f2).toList == a2.toList))) else (some false)) else (none)) else (none)) else (some false))
theorem spec_l8Tag.calls (A0 : Option Addr) (c0 : Nat) (l0 : List (S38)) (a1 : Int) (a2 : ByteArray) (r : Bool) (w : World) (hr0 : Kd.C k38 w A0 l0.length l0) (hc0 : l0.length ≤ c0) (h : spec_l8Tag.f l0 a1 a2 = some r) :
  Calls Try.prog 38 #[.slice A0 l0.length c0, .int .i64 a1, .string a2] w fun e w' => e = .returned (.bool r) ∧ Drawn0 w w' := by
 have HR0 := am hr0
 have HC0 := am hc0
 clear hr0 hc0
 have H : ((spec_l1In.f a1 0 (wrap64 ((l0.length : Int) - 1))).bind fun t157 => (if t157 = true then (if 0 ≤ a1 then (if a1 < (l0.length : Int) then (if ((rd_T38 l0 a1).f0) = 2 then (if a2.toList = ([] : List UInt8) then (some true) else (some (((rd_T38 l0 a1).f2).toList == a2.toList))) else (some false)) else (none)) else (none)) else (some false))) = some r := h
 clear h
 replace H := bi_ H; obtain ⟨t157, A4, H⟩ := H
 replace H := ib_ H; rcases H with ⟨rfl, H⟩ | ⟨rfl, H⟩
 ·replace H := iq_ H; obtain ⟨c6b0, H⟩ := H
  replace H := iq_ H; obtain ⟨c7b0, H⟩ := H
  replace H := ie_ H; rcases H with ⟨c8b0, c8b1, H⟩ | ⟨c8, c8b0, c8b1, H⟩
  ·replace H := ie_ H; rcases H with ⟨c9b0, c9b1, H⟩ | ⟨c9, c9b0, c9b1, H⟩
   ·obtain rfl := Option.some.inj H
    go_enter Try.func38, Try.ntmps38
    go_wp2_with (first | ((with_reducible refine gf_ 58 ?_); refine gc_ Try.func58 (spec_l1In.calls a1 0 (wrap64 ((l0.length : Int) - 1)) true _ A4.out) ?_; rintro w' ⟨nd, rfl⟩; have p158 : 0 ≤ (a1 : Int) := of_decide_eq_true ab4; have q158 : a1 < (l0.length : Int) := of_decide_eq_true ab4; obtain ⟨ad158, A158_3, c158_3, A158_6, c158_6, e158, hx158_0, hx158_1, hx158_2, hx158_3, hx158_4, hx158_5, hx158_6, hl158_3, hi158_3, hl158_6, hi158_6⟩ := at_T38 HR0.out a1 p158 q158; cases e158; have HR158_3 := am hi158_3; have HC158_3 := am hl158_3; clear hi158_3 hl158_3; have HR158_6 := am hi158_6; have HC158_6 := am hl158_6; clear hi158_6 hl158_6; replace p158 := eq_true p158; replace q158 := eq_true q158))
    go_ret
    exact ⟨ab6, by repeat (first | exact Drawn0.refl _ | apply Drawn0.step)⟩
   ·obtain rfl := Option.some.inj H
    go_enter Try.func38, Try.ntmps38
    go_wp2_with (first | ((with_reducible refine gf_ 58 ?_); refine gc_ Try.func58 (spec_l1In.calls a1 0 (wrap64 ((l0.length : Int) - 1)) true _ A4.out) ?_; rintro w' ⟨nd, rfl⟩; have p158 : 0 ≤ (a1 : Int) := of_decide_eq_true ab4; have q158 : a1 < (l0.length : Int) := of_decide_eq_true ab4; obtain ⟨ad158, A158_3, c158_3, A158_6, c158_6, e158, hx158_0, hx158_1, hx158_2, hx158_3, hx158_4, hx158_5, hx158_6, hl158_3, hi158_3, hl158_6, hi158_6⟩ := at_T38 HR0.out a1 p158 q158; cases e158; have HR158_3 := am hi158_3; have HC158_3 := am hl158_3; clear hi158_3 hl158_3; have HR158_6 := am hi158_6; have HC158_6 := am hl158_6; clear hi158_6 hl158_6; replace p158 := eq_true p158; replace q158 := eq_true q158; have p159 : 0 ≤ (a1 : Int) := of_decide_eq_true ab4; have q159 : a1 < (l0.length : Int) := of_decide_eq_true ab4; obtain ⟨ad159, A159_3, c159_3, A159_6, c159_6, e159, hx159_0, hx159_1, hx159_2, hx159_3, hx159_4, hx159_5, hx159_6, hl159_3, hi159_3, hl159_6, hi159_6⟩ := at_T38 HR0.out a1 p159 q159; obtain rfl : ad158 = ad159 := (by injection e159); have HR159_3 := am hi159_3; have HC159_3 := am hl159_3; clear hi159_3 hl159_3; have HR159_6 := am hi159_6; have HC159_6 := am hl159_6; clear hi159_6 hl159_6; replace p159 := eq_true p159; replace q159 := eq_true q159; have ea_ := Option.some.inj (hx158_3.symm.trans hx159_3); injection ea_ with ea_ en_ ec_; subst ea_; subst ec_; clear en_; have ea_ := Option.some.inj (hx158_6.symm.trans hx159_6); injection ea_ with ea_ en_ ec_; subst ea_; subst ec_; clear en_))
    go_ret
    exact ⟨ab6, by repeat (first | exact Drawn0.refl _ | apply Drawn0.step)⟩
  ·obtain rfl := Option.some.inj H
   go_enter Try.func38, Try.ntmps38
   go_wp2_with (first | ((with_reducible refine gf_ 58 ?_); refine gc_ Try.func58 (spec_l1In.calls a1 0 (wrap64 ((l0.length : Int) - 1)) true _ A4.out) ?_; rintro w' ⟨nd, rfl⟩; have p158 : 0 ≤ (a1 : Int) := of_decide_eq_true ab4; have q158 : a1 < (l0.length : Int) := of_decide_eq_true ab4; obtain ⟨ad158, A158_3, c158_3, A158_6, c158_6, e158, hx158_0, hx158_1, hx158_2, hx158_3, hx158_4, hx158_5, hx158_6, hl158_3, hi158_3, hl158_6, hi158_6⟩ := at_T38 HR0.out a1 p158 q158; cases e158; have HR158_3 := am hi158_3; have HC158_3 := am hl158_3; clear hi158_3 hl158_3; have HR158_6 := am hi158_6; have HC158_6 := am hl158_6; clear hi158_6 hl158_6; replace p158 := eq_true p158; replace q158 := eq_true q158))
   go_ret
   exact ⟨ab6, by repeat (first | exact Drawn0.refl _ | apply Drawn0.step)⟩
 ·obtain rfl := Option.some.inj H
  go_enter Try.func38, Try.ntmps38
  go_wp2_with (first | ((with_reducible refine gf_ 58 ?_); refine gc_ Try.func58 (spec_l1In.calls a1 0 (wrap64 ((l0.length : Int) - 1)) false _ A4.out) ?_; rintro w' ⟨nd, rfl⟩))
  go_ret
  exact ⟨ab6, by repeat (first | exact Drawn0.refl _ | apply Drawn0.step)⟩
def spec_l7Is.l0 : Nat → ByteArray → List ByteArray → Int → Option (Bool)
 | 0, _, _, _ => none
 | k + 1, x0, x1, x5 => if x5 < (x1.length : Int) then (if 0 ≤ x5 then (if (rdOf ByteArray.empty x1 x5).toList = x0.toList then (some true) else (spec_l7Is.l0 k x0 x1 (wrap64 (x5 + 1)))) else (none)) else (some false)
def spec_l7Is.f (k : Nat) (a0 : ByteArray) (l1 : List ByteArray) : Option (Bool) := spec_l7Is.l0 k a0 l1 0
theorem spec_l7Is.calls (k : Nat) (a0 : ByteArray) (A1 : Option Addr) (c1 : Nat) (l1 : List ByteArray) (r : Bool) (w : World) (hr1 : Kd.C Kd.string w A1 l1.length l1) (hc1 : l1.length ≤ c1) (h : spec_l7Is.f k a0 l1 = some r) :
  Calls Try.prog 63 #[.string a0, .slice A1 l1.length c1] w fun e w' => e = .returned (.bool r) ∧ Drawn0 w w' := by
 have HR1 := am hr1
 have HC1 := am hc1
 clear hr1 hc1
 have H : (spec_l7Is.l0 k a0 l1 0) = some r := h
 clear h
 have H' := am H
 clear H
 go_enter Try.func63, Try.ntmps63
 go_wp2
 go_loopg [5] k (fun kq v5 w' => ∃ (x5_1 : Int), v5 = .int .i64 x5_1 ∧ Aside0 (spec_l7Is.l0 kq a0 l1 x5_1 = some r) ∧ Aside0 (kq ≤ k) ∧ Drawn0 w w')
 case atStart => exact ⟨(0), ab6, H', ⟨Nat.le_refl _⟩, by repeat (first | exact Drawn0.refl _ | apply Drawn0.step)⟩
 case round =>
  clear H'
  (try clear c1); (try clear p2)
  obtain ⟨x5_1, rfl, HA, HK1, ⟨m1, rfl⟩⟩ := hrel
  cases gk with
  | zero => exact absurd HA.out (by simp [spec_l7Is.l0])
  | succ k1 =>
   have H := HA.out
   clear HA
   simp only [spec_l7Is.l0] at H
   replace H := ir_ H; rcases H with ⟨c3b0, H⟩ | ⟨c3b0, H⟩
   ·replace H := iq_ H; obtain ⟨c4b0, H⟩ := H
    replace H := ie_ H; rcases H with ⟨c5b0, c5b1, H⟩ | ⟨c5, c5b0, c5b1, H⟩
    ·obtain rfl := Option.some.inj H
     have p160 : 0 ≤ (x5_1 : Int) := of_decide_eq_true ab4
     have q160 : x5_1 < (l1.length : Int) := of_decide_eq_true ab4
     obtain ⟨ad160, e160, hx160_0⟩ := Kd.at_string HR1.out x5_1 p160 q160
     cases e160
     replace p160 := eq_true p160
     replace q160 := eq_true q160
     go_wp2
     go_ret
     exact ⟨ab6, by repeat (first | exact Drawn0.refl _ | apply Drawn0.step)⟩
    ·have H' := am H
     clear H
     have p160 : 0 ≤ (x5_1 : Int) := of_decide_eq_true ab4
     have q160 : x5_1 < (l1.length : Int) := of_decide_eq_true ab4
     obtain ⟨ad160, e160, hx160_0⟩ := Kd.at_string HR1.out x5_1 p160 q160
     cases e160
     replace p160 := eq_true p160
     replace q160 := eq_true q160
     go_wp2
     go_roundg k1
     case measure => have := HK1.out; omega
     case rel => exact ⟨(wrap64 (x5_1 + 1)), ab6, H', ⟨by have := HK1.out; omega⟩, by repeat (first | exact Drawn0.refl _ | apply Drawn0.step)⟩
   ·obtain rfl := Option.some.inj H
    go_wp2
    go_ret
    exact ⟨ab6, by repeat (first | exact Drawn0.refl _ | apply Drawn0.step)⟩
def spec_Format.f (k : Nat) (a0 : ByteArray) : Option (Bool) := (spec_l7Is.f k a0 (([(⟨#[97]⟩ : ByteArray), (⟨#[98]⟩ : ByteArray), (⟨#[105]⟩ : ByteArray), (⟨#[117]⟩ : ByteArray), (⟨#[101, 109]⟩ : ByteArray), (⟨#[115, 116, 114, 111, 110, 103]⟩ : ByteArray), (⟨#[99, 111, 100, 101]⟩ : ByteArray), (⟨#[115, 109, 97, 108, 108]⟩ : ByteArray)] : List ByteArray))).bind fun t164 => (some t164)
theorem spec_Format.calls (k : Nat) (a0 : ByteArray) (r : Bool) (w : World) (h : spec_Format.f k a0 = some r) :
  Calls Try.prog 40 #[.string a0] w fun e w' => e = .returned (.bool r) ∧ Below w.heap.size w w' := by
 have HB := am (Below.refl w.heap.size w)
 have H : ((spec_l7Is.f k a0 (([(⟨#[97]⟩ : ByteArray), (⟨#[98]⟩ : ByteArray), (⟨#[105]⟩ : ByteArray), (⟨#[117]⟩ : ByteArray), (⟨#[101, 109]⟩ : ByteArray), (⟨#[115, 116, 114, 111, 110, 103]⟩ : ByteArray), (⟨#[99, 111, 100, 101]⟩ : ByteArray), (⟨#[115, 109, 97, 108, 108]⟩ : ByteArray)] : List ByteArray))).bind fun t164 => (some t164)) = some r := h
 clear h
 obtain ⟨y161, hy161⟩ : ∃ y_ : List ByteArray, y_ = (([(⟨#[97]⟩ : ByteArray), (⟨#[98]⟩ : ByteArray), (⟨#[105]⟩ : ByteArray), (⟨#[117]⟩ : ByteArray), (⟨#[101, 109]⟩ : ByteArray), (⟨#[115, 116, 114, 111, 110, 103]⟩ : ByteArray), (⟨#[99, 111, 100, 101]⟩ : ByteArray), (⟨#[115, 109, 97, 108, 108]⟩ : ByteArray)] : List ByteArray)) := ⟨_, rfl⟩
 replace H : ((spec_l7Is.f k a0 y161).bind fun t164 => (some t164)) = some r := by first | (rw [hy161]; with_reducible exact H) | (have H2_ := (Option.bind_some _ _).symm.trans H; rw [hy161]; with_reducible exact H2_) | (have H2_ := (Option.bind_some _ _).symm.trans H; with_reducible exact H2_) | with_reducible exact H | (rw [hy161]; exact H) | exact H
 have Ny161 := am hy161
 clear hy161
 replace H := bi_ H; obtain ⟨t164, A2, H⟩ := H
 obtain rfl := Option.some.inj H
 go_enter Try.func40, Try.ntmps40
 go_wp2_with (first | ((with_reducible refine gate_dst (N := 4) rfl ?_); refine Kd.R_lit Kd.string _ 9 ?hg (N := 4) ?hd (xs := ([(⟨#[97]⟩ : ByteArray), (⟨#[98]⟩ : ByteArray), (⟨#[105]⟩ : ByteArray), (⟨#[117]⟩ : ByteArray), (⟨#[101, 109]⟩ : ByteArray), (⟨#[115, 116, 114, 111, 110, 103]⟩ : ByteArray), (⟨#[99, 111, 100, 101]⟩ : ByteArray), (⟨#[115, 109, 97, 108, 108]⟩ : ByteArray)] : List ByteArray)) (inner := [.string (⟨#[97]⟩ : ByteArray), .string (⟨#[98]⟩ : ByteArray), .string (⟨#[105]⟩ : ByteArray), .string (⟨#[117]⟩ : ByteArray), .string (⟨#[101, 109]⟩ : ByteArray), .string (⟨#[115, 116, 114, 111, 110, 103]⟩ : ByteArray), .string (⟨#[99, 111, 100, 101]⟩ : ByteArray), .string (⟨#[115, 109, 97, 108, 108]⟩ : ByteArray)]) (ok := fun _ => True) (okp := fun _ => True) ?hr ?hp (fun _ hk => hk) trivial (Below.refl _ _) (Nat.le_refl _) (by simp) ?_; (case hd => rfl); (case hg => rfl); (case hr => first | (go_simp; done) | (go_simp; rfl)); (case hp => exact (Reps.one (show Kd.M Kd.string _ _ _ (⟨#[97]⟩ : ByteArray) [.string (⟨#[97]⟩ : ByteArray)] from rfl) (Reps.one (show Kd.M Kd.string _ _ _ (⟨#[98]⟩ : ByteArray) [.string (⟨#[98]⟩ : ByteArray)] from rfl) (Reps.one (show Kd.M Kd.string _ _ _ (⟨#[105]⟩ : ByteArray) [.string (⟨#[105]⟩ : ByteArray)] from rfl) (Reps.one (show Kd.M Kd.string _ _ _ (⟨#[117]⟩ : ByteArray) [.string (⟨#[117]⟩ : ByteArray)] from rfl) (Reps.one (show Kd.M Kd.string _ _ _ (⟨#[101, 109]⟩ : ByteArray) [.string (⟨#[101, 109]⟩ : ByteArray)] from rfl) (Reps.one (show Kd.M Kd.string _ _ _ (⟨#[115, 116, 114, 111, 110, 103]⟩ : ByteArray) [.string (⟨#[115, 116, 114, 111, 110, 103]⟩ : ByteArray)] from rfl) (Reps.one (show Kd.M Kd.string _ _ _ (⟨#[99, 111, 100, 101]⟩ : ByteArray) [.string (⟨#[99, 111, 100, 101]⟩ : ByteArray)] from rfl) (Reps.one (show Kd.M Kd.string _ _ _ (⟨#[115, 109, 97, 108, 108]⟩ : ByteArray) [.string (⟨#[115, 109, 97, 108, 108]⟩ : ByteArray)] from rfl) (Reps.none _ _)))))))))); intro v162 w3 ho4 hb hg_ hnew_; clear hg_ hnew_; (first | rw [← Ny161.out] at ho4 | (simp only [Int.reduceToNat] at ho4; rw [← Ny161.out] at ho4)); have HO163 := am (Kd.R_lower ho4 (below_size ab1)); replace HB := am (below_step ab1 hb); clear hb ho4; obtain ⟨Ao5, co5, eo5⟩ := Kd.R_slice HO163.out; subst eo5) | ((with_reducible refine gf_ 63 ?_); refine gc_ Try.func63 (spec_l7Is.calls k a0 _ _ y161 t164 _ ?side1 ((Kd.R_reads' HO163.out).2.1) A2.out) ?_; (case side1 => exact (by repeat (first | exact (Kd.R_reads' HO163.out).2.2 | (with_reducible refine Kd.C_alloc ?_ _) | (with_reducible refine Kd.C_drewN ?_ _) | (with_reducible refine Kd.C_drew ?_)))); rintro w' ⟨nd, rfl⟩))
 go_ret
 exact ⟨ab7, ab1⟩
end Go.Proofs.Ytekkalnafngfeaa.P
