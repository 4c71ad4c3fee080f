-- WRITTEN BY hprint.py
import Derived.Test.YthpdpnpojgegiaaGreatDoorPw0
import Derived.Test.YthpdpnpojgegiaaGreatDoorPw1
namespace Go.Proofs.YthpdpnpojgegiaaGreatDoor.P
open Go.RowKit Go.Proofs.YthpdpnpojgegiaaGreatDoorW.PrintWords Go.Proofs.YthpdpnpojgegiaaGreatDoorW.PrintLast Go.Proofs.YthpdpnpojgegiaaGreatDoorW.PrintMore
attribute [local go_sem] max2_int min2_int max_two min_two max_three min_three max_four min_four
set_option linter.unusedVariables false
set_option linter.unusedSimpArgs false
set_option maxHeartbeats 8000000
set_option maxRecDepth 100000

/-! ### spec_GetSign: function 74 -/
mutual
def spec_GetSign.j0 : Nat → ByteArray → Int → Bool → Option (Int × Int)
 | 0, _, _, _ => none
 | k + 1, x0, x1, x17 => if x17 = true then (some (0, 0)) else (if 0 ≤ x1 then (if x1 < (x0.size : Int) then ((spec_l1Many.f (wrap64 (bt x0 x1))).bind fun t131 => (if t131 < 2 then (if t131 = 1 then (some (wrap64 (bt x0 x1), 1)) else (some (65533, 1))) else (if 0 ≤ t131 then (spec_GetSign.l0 k x0 x1 (wrap64 (bt x0 x1)) t131 (Go.bits .and .i64 (wrap64 (bt x0 x1)) (shr .i64 127 t131)) 1) else (none)))) else (none)) else (none))
def spec_GetSign.l0 : Nat → ByteArray → Int → Int → Int → Int → Int → Option (Int × Int)
 | 0, _, _, _, _, _, _ => none
 | k + 1, x0, x1, x6, x7, x8, x9 => if x9 < x7 then (if (wrap64 (x1 + x9)) ≥ (x0.size : Int) then (some (65533, x9)) else (if x9 = 1 then (if 0 ≤ (wrap64 (x1 + 1)) then (if (wrap64 (x1 + 1)) < (x0.size : Int) then ((spec_l1Second.f x6 (wrap64 (bt x0 (wrap64 (x1 + 1))))).bind fun t132 => (if t132 = true then (if 0 ≤ (wrap64 (x1 + x9)) then (if (wrap64 (x1 + x9)) < (x0.size : Int) then ((spec_l1In.f (wrap64 (bt x0 (wrap64 (x1 + x9)))) 128 191).bind fun t133 => (if t133 = true then (spec_GetSign.l0 k x0 x1 x6 x7 (wrap64 ((wrap64 (x8 * 64)) + (Go.bits .and .i64 (wrap64 (bt x0 (wrap64 (x1 + x9)))) 63))) (wrap64 (x9 + 1))) else (some (65533, x9)))) else (none)) else (none)) else (some (65533, x9)))) else (none)) else (none)) else (if 0 ≤ (wrap64 (x1 + x9)) then (if (wrap64 (x1 + x9)) < (x0.size : Int) then ((spec_l1In.f (wrap64 (bt x0 (wrap64 (x1 + x9)))) 128 191).bind fun t134 => (if t134 = true then (spec_GetSign.l0 k x0 x1 x6 x7 (wrap64 ((wrap64 (x8 * 64)) + (Go.bits .and .i64 (wrap64 (bt x0 (wrap64 (x1 + x9)))) 63))) (wrap64 (x9 + 1))) else (some (65533, x9)))) else (none)) else (none)))) else (some (x8, x7))
end
def spec_GetSign.f (k : Nat) (a0 : ByteArray) (a1 : Int) : Option (Int × Int) := if a1 < 0 then (spec_GetSign.j0 k a0 a1 true) else (spec_GetSign.j0 k a0 a1 (decide (a1 ≥ (a0.size : Int))))
theorem spec_GetSign.mono_l : ∀ k, (∀ y0 y1 y2, LeO (spec_GetSign.j0 k y0 y1 y2) (spec_GetSign.j0 (k + 1) y0 y1 y2)) ∧ (∀ y0 y1 y2 y3 y4 y5, LeO (spec_GetSign.l0 k y0 y1 y2 y3 y4 y5) (spec_GetSign.l0 (k + 1) y0 y1 y2 y3 y4 y5))
 | 0 => ⟨fun _ _ _ r h => by simp [spec_GetSign.j0] at h, fun _ _ _ _ _ _ r h => by simp [spec_GetSign.l0] at h⟩
 | k + 1 => by
  obtain ⟨ih0, ih1⟩ := spec_GetSign.mono_l k
  refine ⟨?_, ?_⟩
  ·intro y0 y1 y2
   unfold spec_GetSign.j0
   repeat' with_reducible first | exact ih0 _ _ _ | exact ih1 _ _ _ _ _ _ | exact LeO.refl _ | exact LeO.none _ | refine LeO.ite ?_ ?_ | refine LeO.bind ?_ fun _ => ?_
  ·intro y0 y1 y2 y3 y4 y5
   unfold spec_GetSign.l0
   repeat' with_reducible first | exact ih0 _ _ _ | exact ih1 _ _ _ _ _ _ | exact LeO.refl _ | exact LeO.none _ | refine LeO.ite ?_ ?_ | refine LeO.bind ?_ fun _ => ?_
theorem spec_GetSign.mono : ∀ a0 a1 k, LeO (spec_GetSign.f k a0 a1) (spec_GetSign.f (k + 1) a0 a1) := by
 intro a0 a1 k
 obtain ⟨ih0, ih1⟩ := spec_GetSign.mono_l k
 unfold spec_GetSign.f
 repeat' with_reducible first | exact ih0 _ _ _ | exact ih1 _ _ _ _ _ _ | exact LeO.refl _ | exact LeO.none _ | refine LeO.ite ?_ ?_ | refine LeO.bind ?_ fun _ => ?_
theorem spec_GetSign.calls (k : Nat) (a0 : ByteArray) (a1 : Int) (r1 : Int) (r2 : Int) (w : World) (h : spec_GetSign.f k a0 a1 = some (r1, r2)) :
  Calls Tryz.prog 74 #[.string a0, .int .i64 a1] w fun e w' => e = .returned (.tuple #[.int .i64 r1, .int .i64 r2]) ∧ Drawn0 w w' := by
 have H : (if a1 < 0 then (spec_GetSign.j0 k a0 a1 true) else (spec_GetSign.j0 k a0 a1 (decide (a1 ≥ (a0.size : Int))))) = some (r1, r2) := h
 clear h
 have HC3 := am H
 clear H
 go_enter Tryz.func74, Tryz.ntmps74
 go_upto_region 1 with (fail)
 go_cut [17] (fun v17 wc => ∃ (kq : Nat) (x17_2 : Bool), v17 = .bool x17_2 ∧ Aside0 (spec_GetSign.j0 kq a0 a1 x17_2 = some (r1, r2)) ∧ Aside0 (kq ≤ k) ∧ Drawn0 w wc)
 case first =>
  have H := HC3.out
  clear HC3
  replace H := ir_ H; rcases H with ⟨c4b0, H⟩ | ⟨c4b0, H⟩
  ·(first | rw [c4b0] | (simp only [i64_w, i32_w]; rw [c4b0]) | skip)
   (try (generalize hgzc4 : decide (a1 < 0) = bqc4 at *; subst c4b0; have c4b0 := hgzc4; clear hgzc4))
   have H' := am H
   clear H
   go_wp2
   first | go_meet | (subst hji13; go_meet) | (subst hji17; go_meet) | (subst hji23; go_meet) | (subst hji30; go_meet)
   case rel => exact ⟨_, (true), ab6, (by first | exact H' | (rw [hji13]; exact H') | (rw [hji17]; exact H') | (rw [hji23]; exact H') | (rw [hji30]; exact H') | (have h_ := H'.out; rw [c4b0] at h_; exact ⟨h_⟩)), ⟨by first | omega | exact Nat.le_refl _⟩, by repeat (first | exact Drawn0.refl _ | apply Drawn0.step)⟩
  ·(first | rw [c4b0] | (simp only [i64_w, i32_w]; rw [c4b0]) | skip)
   (try (generalize hgzc4 : decide (a1 < 0) = bqc4 at *; subst c4b0; have c4b0 := hgzc4; clear hgzc4))
   have H' := am H
   clear H
   go_wp2
   first | go_meet | (subst hji13; go_meet) | (subst hji17; go_meet) | (subst hji23; go_meet) | (subst hji30; go_meet)
   case rel => exact ⟨_, (decide (a1 ≥ (a0.size : Int))), ab6, (by first | exact H' | (rw [hji13]; exact H') | (rw [hji17]; exact H') | (rw [hji23]; exact H') | (rw [hji30]; exact H') | (have h_ := H'.out; rw [c4b0] at h_; exact ⟨h_⟩)), ⟨by first | omega | exact Nat.le_refl _⟩, by repeat (first | exact Drawn0.refl _ | apply Drawn0.step)⟩
 case rest =>
  clear HC3
  (try clear p2); (try clear c4); (try clear c4b0)
  obtain ⟨kq, x17_2, rfl, HA, HJ2, ⟨mc2, rfl⟩⟩ := hcut
  cases kq with
  | zero => exact absurd HA.out (by simp [spec_GetSign.j0])
  | succ kj2 =>
   have H := HA.out
   clear HA
   simp only [spec_GetSign.j0] at H
   replace H := ib_ H; rcases H with ⟨rfl, H⟩ | ⟨rfl, H⟩
   ·simp only [Option.some.injEq, Prod.mk.injEq] at H
    obtain ⟨rfl, rfl⟩ := H
    go_wp2
    go_ret2
    exact ⟨ab6, by repeat (first | exact Drawn0.refl _ | apply Drawn0.step)⟩
   ·replace H := iq_ H; obtain ⟨c6b0, H⟩ := H
    replace H := iq_ H; obtain ⟨c7b0, H⟩ := H
    replace H := bi_ H; obtain ⟨t131, A9, H⟩ := H
    replace H := ir_ H; rcases H with ⟨c10b0, H⟩ | ⟨c10b0, H⟩
    ·replace H := ie_ H; rcases H with ⟨c11b0, c11b1, H⟩ | ⟨c11, c11b0, c11b1, H⟩
     ·simp only [Option.some.injEq, Prod.mk.injEq] at H
      obtain ⟨rfl, rfl⟩ := H
      have p8 : 0 ≤ (a1 : Int) := of_decide_eq_true ab4
      have q8 : a1 < (a0.size : Int) := of_decide_eq_true ab4
      have hx8 := bt_at a0 a1
      replace p8 := eq_true p8
      replace q8 := eq_true q8
      go_wp2_with (first | ((with_reducible refine gf_ 92 ?_); refine gc_ Tryz.func92 (spec_l1Many.calls (wrap64 (bt a0 a1)) t131 _ A9.out) ?_; rintro w' ⟨nd, rfl⟩))
      go_ret2
      exact ⟨ab6, by repeat (first | exact Drawn0.refl _ | apply Drawn0.step)⟩
     ·simp only [Option.some.injEq, Prod.mk.injEq] at H
      obtain ⟨rfl, rfl⟩ := H
      have p8 : 0 ≤ (a1 : Int) := of_decide_eq_true ab4
      have q8 : a1 < (a0.size : Int) := of_decide_eq_true ab4
      have hx8 := bt_at a0 a1
      replace p8 := eq_true p8
      replace q8 := eq_true q8
      go_wp2_with (first | ((with_reducible refine gf_ 92 ?_); refine gc_ Tryz.func92 (spec_l1Many.calls (wrap64 (bt a0 a1)) t131 _ A9.out) ?_; rintro w' ⟨nd, rfl⟩))
      go_ret2
      exact ⟨ab6, by repeat (first | exact Drawn0.refl _ | apply Drawn0.step)⟩
    ·by_cases c12 : 0 ≤ t131
     case neg => rw [if_neg c12] at H; exact absurd H (by simp)
     rw [if_pos c12] at H
     have c12b0 := eq_true c12
     have c12b1 := decide_eq_true c12
     clear c12
     obtain ⟨ji13, hji13⟩ : ∃ j_ : Int, (shr .i64 127 t131) = j_ := ⟨_, rfl⟩
     replace H : (spec_GetSign.l0 kj2 a0 a1 (wrap64 (bt a0 a1)) t131 (Go.bits .and .i64 (wrap64 (bt a0 a1)) (ji13)) 1) = some (r1, r2) := by first | (rw [hji13] at H; exact H) | (simp only [hji13] at H ⊢; exact H)
     (try rw [hji13] at A9)
     have hji13_ : (127 / 2 ^ min t131.toNat 64) = ji13 := hji13
     have hji13z : t131 ≤ 64 → (127 / 2 ^ t131.toNat) = ji13 := shr_small hji13
     have H' := am H
     clear H
     have p8 : 0 ≤ (a1 : Int) := of_decide_eq_true ab4
     have q8 : a1 < (a0.size : Int) := of_decide_eq_true ab4
     have hx8 := bt_at a0 a1
     replace p8 := eq_true p8
     replace q8 := eq_true q8
     go_wp2_with (first | ((with_reducible refine gf_ 92 ?_); refine gc_ Tryz.func92 (spec_l1Many.calls (wrap64 (bt a0 a1)) t131 _ A9.out) ?_; rintro w' ⟨nd, rfl⟩))
     go_loopg [8, 9] kj2 (fun kq v8 v9 w' => ∃ (x8_2 : Int) (x9_2 : Int), v8 = .int .i64 x8_2 ∧ v9 = .int .i64 x9_2 ∧ Aside0 (spec_GetSign.l0 kq a0 a1 (wrap64 (bt a0 a1)) t131 x8_2 x9_2 = some (r1, r2)) ∧ Aside0 (kq ≤ kj2) ∧ Drawn0 w w')
     case atStart => exact ⟨(Go.bits .and .i64 (wrap64 (bt a0 a1)) (ji13)), (1), (by first | rfl | (simp; done) | (simp only [← hji13] <;> (first | rfl | simp)) | (simp [*]; done)), ab6, H', ⟨Nat.le_refl _⟩, by repeat (first | exact Drawn0.refl _ | apply Drawn0.step)⟩
     case round =>
      clear H'
      (try clear c1); (try clear c2); (try clear p2); (try clear c4); (try clear c4b0); (try clear c5); (try clear c6); (try clear c6b0); (try clear p6); (try clear c7); (try clear c7b0); (try clear p8); (try clear q8); (try clear hx8); (try clear c9); (try clear c10); (try clear c10b0); (try clear c11); (try clear c11b0); (try clear c11b1); (try clear c12); (try clear c12b0); (try clear c12b1); (try clear p2); (try clear p8); (try clear q8)
      obtain ⟨x8_2, x9_2, rfl, rfl, HA, HK2, ⟨m2, rfl⟩⟩ := hrel
      cases gk with
      | zero => exact absurd HA.out (by simp [spec_GetSign.l0])
      | succ k2 =>
       have H := HA.out
       clear HA
       simp only [spec_GetSign.l0] at H
       replace H := ir_ H; rcases H with ⟨c14b0, H⟩ | ⟨c14b0, H⟩
       ·by_cases c15 : (wrap64 (a1 + x9_2)) ≥ (a0.size : Int)
        ·rw [if_pos c15] at H
         have c15b0 : decide ((a0.size : Int) ≤ (wrap64 (a1 + x9_2))) = true := decide_eq_true c15
         clear c15
         simp only [Option.some.injEq, Prod.mk.injEq] at H
         obtain ⟨rfl, rfl⟩ := H
         go_wp2
         go_ret2
         exact ⟨by first | rfl | (simp; done) | (simp only [← hji13] <;> (first | rfl | simp)) | (simp [*]; done), by repeat (first | exact Drawn0.refl _ | apply Drawn0.step)⟩
        ·rw [if_neg c15] at H
         have c15b0 : decide ((a0.size : Int) ≤ (wrap64 (a1 + x9_2))) = false := decide_eq_false c15
         clear c15
         replace H := ie_ H; rcases H with ⟨c16b0, c16b1, H⟩ | ⟨c16, c16b0, c16b1, H⟩
         ·obtain ⟨ji17, hji17⟩ : ∃ j_ : Int, (wrap64 (a1 + 1)) = j_ := ⟨_, rfl⟩
          replace H : (if 0 ≤ (ji17) then (if (ji17) < (a0.size : Int) then ((spec_l1Second.f (wrap64 (bt a0 a1)) (wrap64 (bt a0 (ji17)))).bind fun t132 => (if t132 = true then (if 0 ≤ (wrap64 (a1 + x9_2)) then (if (wrap64 (a1 + x9_2)) < (a0.size : Int) then ((spec_l1In.f (wrap64 (bt a0 (wrap64 (a1 + x9_2)))) 128 191).bind fun t133 => (if t133 = true then (spec_GetSign.l0 k2 a0 a1 (wrap64 (bt a0 a1)) t131 (wrap64 ((wrap64 (x8_2 * 64)) + (Go.bits .and .i64 (wrap64 (bt a0 (wrap64 (a1 + x9_2)))) 63))) (wrap64 (x9_2 + 1))) else (some (65533, x9_2)))) else (none)) else (none)) else (some (65533, x9_2)))) else (none)) else (none)) = some (r1, r2) := by first | (rw [hji17] at H; exact H) | (simp only [hji17] at H ⊢; exact H)
          (try rw [hji17] at A9)
          (try rw [hji17] at A9)
          have hji17w : (IntKind.i64.wrap (a1 + 1)) = ji17 := (i64_w _).trans hji17
          replace H := iq_ H; obtain ⟨c18b0, H⟩ := H
          replace H := iq_ H; obtain ⟨c19b0, H⟩ := H
          replace H := bi_ H; obtain ⟨t132, A21, H⟩ := H
          replace H := ib_ H; rcases H with ⟨rfl, H⟩ | ⟨rfl, H⟩
          ·obtain ⟨ji23, hji23⟩ : ∃ j_ : Int, (wrap64 (a1 + x9_2)) = j_ := ⟨_, rfl⟩
           replace H : (if 0 ≤ (ji23) then (if (ji23) < (a0.size : Int) then ((spec_l1In.f (wrap64 (bt a0 (ji23))) 128 191).bind fun t133 => (if t133 = true then (spec_GetSign.l0 k2 a0 a1 (wrap64 (bt a0 a1)) t131 (wrap64 ((wrap64 (x8_2 * 64)) + (Go.bits .and .i64 (wrap64 (bt a0 (ji23))) 63))) (wrap64 (x9_2 + 1))) else (some (65533, x9_2)))) else (none)) else (none)) = some (r1, r2) := by first | (rw [hji23] at H; exact H) | (simp only [hji23] at H ⊢; exact H)
           (try rw [hji23] at c15b0)
           (try rw [hji23] at A21)
           (try rw [hji23] at A9)
           (try rw [hji23] at A9)
           have hji23w : (IntKind.i64.wrap (a1 + x9_2)) = ji23 := (i64_w _).trans hji23
           replace H := iq_ H; obtain ⟨c24b0, H⟩ := H
           replace H := iq_ H; obtain ⟨c25b0, H⟩ := H
           replace H := bi_ H; obtain ⟨t133, A27, H⟩ := H
           replace H := ib_ H; rcases H with ⟨rfl, H⟩ | ⟨rfl, H⟩
           ·have H' := am H
            clear H
            have p20 : 0 ≤ ((ji17) : Int) := of_decide_eq_true ab4
            have q20 : (ji17) < (a0.size : Int) := of_decide_eq_true ab4
            have hx20 := bt_at a0 (ji17)
            replace p20 := eq_true p20
            replace q20 := eq_true q20
            go_wp2_with (first | (go_at_call 93; (with_reducible refine (spec_l1Second.calls (wrap64 (bt a0 a1)) (wrap64 (bt a0 (ji17))) true _ A21.out).mono ?_); rintro e w' ⟨rfl, ⟨nd, rfl⟩⟩; have p26 : 0 ≤ ((ji23) : Int) := of_decide_eq_true ab4; have q26 : (ji23) < (a0.size : Int) := of_decide_eq_true ab4; have hx26 := bt_at a0 (ji23); replace p26 := eq_true p26; replace q26 := eq_true q26) | (go_at_call 42; (with_reducible refine (spec_l1In.calls (wrap64 (bt a0 (ji23))) 128 191 true _ A27.out).mono ?_); rintro e w' ⟨rfl, ⟨nd, rfl⟩⟩; have p29 : 0 ≤ ((ji23) : Int) := of_decide_eq_true ab4; have q29 : (ji23) < (a0.size : Int) := of_decide_eq_true ab4; have hx29 := bt_at a0 (ji23); replace p29 := eq_true p29; replace q29 := eq_true q29))
            go_roundg k2
            case measure => have := HJ2.out; have := HK2.out; omega
            case rel => exact ⟨(wrap64 ((wrap64 (x8_2 * 64)) + (Go.bits .and .i64 (wrap64 (bt a0 (ji23))) 63))), (wrap64 (x9_2 + 1)), (by first | rfl | (simp; done) | (simp only [← hji23] <;> (first | rfl | simp)) | (simp [*]; done)), ab6, H', ⟨by have := HJ2.out; have := HK2.out; omega⟩, by repeat (first | exact Drawn0.refl _ | apply Drawn0.step)⟩
           ·simp only [Option.some.injEq, Prod.mk.injEq] at H
            obtain ⟨rfl, rfl⟩ := H
            have p20 : 0 ≤ ((ji17) : Int) := of_decide_eq_true ab4
            have q20 : (ji17) < (a0.size : Int) := of_decide_eq_true ab4
            have hx20 := bt_at a0 (ji17)
            replace p20 := eq_true p20
            replace q20 := eq_true q20
            go_wp2_with (first | (go_at_call 93; (with_reducible refine (spec_l1Second.calls (wrap64 (bt a0 a1)) (wrap64 (bt a0 (ji17))) true _ A21.out).mono ?_); rintro e w' ⟨rfl, ⟨nd, rfl⟩⟩; have p26 : 0 ≤ ((ji23) : Int) := of_decide_eq_true ab4; have q26 : (ji23) < (a0.size : Int) := of_decide_eq_true ab4; have hx26 := bt_at a0 (ji23); replace p26 := eq_true p26; replace q26 := eq_true q26) | (go_at_call 42; (with_reducible refine (spec_l1In.calls (wrap64 (bt a0 (ji23))) 128 191 false _ A27.out).mono ?_); rintro e w' ⟨rfl, ⟨nd, rfl⟩⟩))
            go_ret2
            exact ⟨by first | rfl | (simp; done) | (simp only [← hji13, ← hji17, ← hji23] <;> (first | rfl | simp)) | (simp [*]; done), by repeat (first | exact Drawn0.refl _ | apply Drawn0.step)⟩
          ·simp only [Option.some.injEq, Prod.mk.injEq] at H
           obtain ⟨rfl, rfl⟩ := H
           have p20 : 0 ≤ ((ji17) : Int) := of_decide_eq_true ab4
           have q20 : (ji17) < (a0.size : Int) := of_decide_eq_true ab4
           have hx20 := bt_at a0 (ji17)
           replace p20 := eq_true p20
           replace q20 := eq_true q20
           go_wp2_with (first | (go_at_call 93; (with_reducible refine (spec_l1Second.calls (wrap64 (bt a0 a1)) (wrap64 (bt a0 (ji17))) false _ A21.out).mono ?_); rintro e w' ⟨rfl, ⟨nd, rfl⟩⟩))
           go_ret2
           exact ⟨by first | rfl | (simp; done) | (simp only [← hji13, ← hji17] <;> (first | rfl | simp)) | (simp [*]; done), by repeat (first | exact Drawn0.refl _ | apply Drawn0.step)⟩
         ·obtain ⟨ji30, hji30⟩ : ∃ j_ : Int, (wrap64 (a1 + x9_2)) = j_ := ⟨_, rfl⟩
          replace H : (if 0 ≤ (ji30) then (if (ji30) < (a0.size : Int) then ((spec_l1In.f (wrap64 (bt a0 (ji30))) 128 191).bind fun t134 => (if t134 = true then (spec_GetSign.l0 k2 a0 a1 (wrap64 (bt a0 a1)) t131 (wrap64 ((wrap64 (x8_2 * 64)) + (Go.bits .and .i64 (wrap64 (bt a0 (ji30))) 63))) (wrap64 (x9_2 + 1))) else (some (65533, x9_2)))) else (none)) else (none)) = some (r1, r2) := by first | (rw [hji30] at H; exact H) | (simp only [hji30] at H ⊢; exact H)
          (try rw [hji30] at c15b0)
          (try rw [hji30] at A9)
          (try rw [hji30] at c15b0)
          (try rw [hji30] at A21)
          (try rw [hji30] at A9)
          (try rw [hji30] at c15b0)
          (try rw [hji30] at A21)
          have hji30w : (IntKind.i64.wrap (a1 + x9_2)) = ji30 := (i64_w _).trans hji30
          replace H := iq_ H; obtain ⟨c31b0, H⟩ := H
          replace H := iq_ H; obtain ⟨c32b0, H⟩ := H
          replace H := bi_ H; obtain ⟨t134, A34, H⟩ := H
          replace H := ib_ H; rcases H with ⟨rfl, H⟩ | ⟨rfl, H⟩
          ·have H' := am H
           clear H
           have p33 : 0 ≤ ((ji30) : Int) := of_decide_eq_true ab4
           have q33 : (ji30) < (a0.size : Int) := of_decide_eq_true ab4
           have hx33 := bt_at a0 (ji30)
           replace p33 := eq_true p33
           replace q33 := eq_true q33
           go_wp2_with (first | (go_at_call 42; (with_reducible refine (spec_l1In.calls (wrap64 (bt a0 (ji30))) 128 191 true _ A34.out).mono ?_); rintro e w' ⟨rfl, ⟨nd, rfl⟩⟩; have p36 : 0 ≤ ((ji30) : Int) := of_decide_eq_true ab4; have q36 : (ji30) < (a0.size : Int) := of_decide_eq_true ab4; have hx36 := bt_at a0 (ji30); replace p36 := eq_true p36; replace q36 := eq_true q36))
           go_roundg k2
           case measure => have := HJ2.out; have := HK2.out; omega
           case rel => exact ⟨(wrap64 ((wrap64 (x8_2 * 64)) + (Go.bits .and .i64 (wrap64 (bt a0 (ji30))) 63))), (wrap64 (x9_2 + 1)), (by first | rfl | (simp; done) | (simp only [← hji30] <;> (first | rfl | simp)) | (simp [*]; done)), ab6, H', ⟨by have := HJ2.out; have := HK2.out; omega⟩, by repeat (first | exact Drawn0.refl _ | apply Drawn0.step)⟩
          ·simp only [Option.some.injEq, Prod.mk.injEq] at H
           obtain ⟨rfl, rfl⟩ := H
           have p33 : 0 ≤ ((ji30) : Int) := of_decide_eq_true ab4
           have q33 : (ji30) < (a0.size : Int) := of_decide_eq_true ab4
           have hx33 := bt_at a0 (ji30)
           replace p33 := eq_true p33
           replace q33 := eq_true q33
           go_wp2_with (first | (go_at_call 42; (with_reducible refine (spec_l1In.calls (wrap64 (bt a0 (ji30))) 128 191 false _ A34.out).mono ?_); rintro e w' ⟨rfl, ⟨nd, rfl⟩⟩))
           go_ret2
           exact ⟨by first | rfl | (simp; done) | (simp only [← hji13, ← hji30] <;> (first | rfl | simp)) | (simp [*]; done), by repeat (first | exact Drawn0.refl _ | apply Drawn0.step)⟩
       ·simp only [Option.some.injEq, Prod.mk.injEq] at H
        obtain ⟨rfl, rfl⟩ := H
        go_wp2
        go_ret2
        exact ⟨by first | rfl | (simp; done) | (simp only [← hji13] <;> (first | rfl | simp)) | (simp [*]; done), by repeat (first | exact Drawn0.refl _ | apply Drawn0.step)⟩

/-! ### spec_Signs: function 56 -/
def spec_Signs.l0 : Nat → ByteArray → List Int → Int → Option (List Int)
 | 0, _, _, _ => none
 | k + 1, x0, x3, x4 => if x4 < (x0.size : Int) then ((spec_GetSign.f k x0 x4).bind fun bt138 => (if x3.length < 17592186044416 then (spec_Signs.l0 k x0 (x3 ++ [bt138.1]) (wrap64 (x4 + bt138.2))) else (none))) else (some x3)
def spec_Signs.f (k : Nat) (a0 : ByteArray) : Option (List Int) := spec_Signs.l0 k a0 (([] : List Int)) 0
theorem spec_Signs.mono_l : ∀ k, (∀ y0 y1 y2, LeO (spec_Signs.l0 k y0 y1 y2) (spec_Signs.l0 (k + 1) y0 y1 y2))
 | 0 => fun _ _ _ r h => by simp [spec_Signs.l0] at h
 | k + 1 => by
  have ih0 := spec_Signs.mono_l k
  ·intro y0 y1 y2
   unfold spec_Signs.l0
   repeat' with_reducible first | exact ih0 _ _ _ | exact spec_GetSign.mono _ _ _ | exact LeO.refl _ | exact LeO.none _ | refine LeO.ite ?_ ?_ | refine LeO.bind ?_ fun _ => ?_
theorem spec_Signs.mono : ∀ a0 k, LeO (spec_Signs.f k a0) (spec_Signs.f (k + 1) a0) := by
 intro a0 k
 have ih0 := spec_Signs.mono_l k
 unfold spec_Signs.f
 repeat' with_reducible first | exact ih0 _ _ _ | exact spec_GetSign.mono _ _ _ | exact LeO.refl _ | exact LeO.none _ | refine LeO.ite ?_ ?_ | refine LeO.bind ?_ fun _ => ?_
theorem spec_Signs.calls (k : Nat) (a0 : ByteArray) (r : List Int) (w : World) (h : spec_Signs.f k a0 = some r) :
  Calls Tryz.prog 56 #[.string a0] w fun e w' => ∃ v0_ : Value, e = .returned (v0_) ∧ Kd.R (Kd.int .i64) 3 w' w.heap.size (fun _ => True) v0_ r ∧ Below w.heap.size w w' := by
 have HB := am (Below.refl w.heap.size w)
 have H : (spec_Signs.l0 k a0 (([] : List Int)) 0) = some r := h
 clear h
 obtain ⟨y135, hy135⟩ : ∃ y_ : List Int, y_ = (([] : List Int)) := ⟨_, rfl⟩
 replace H : (spec_Signs.l0 k a0 y135 0) = some r := by first | (rw [hy135]; with_reducible exact H) | (have H2_ := (Option.bind_some _ _).symm.trans H; rw [hy135]; with_reducible exact H2_) | (have H2_ := (Option.bind_some _ _).symm.trans H; with_reducible exact H2_) | with_reducible exact H | (rw [hy135]; exact H) | exact H
 have Ny135 := am hy135
 clear hy135
 have H' := am H
 clear H
 go_enter Tryz.func56, Tryz.ntmps56
 go_wp2_with (first | ((with_reducible refine gate_dst (N := 7) rfl ?_); refine Kd.R_lit (Kd.int .i64) _ 3 ?hg (N := 7) ?hd (xs := ([] : List Int)) (inner := []) (ok := fun _ => True) (okp := fun _ => True) ?hr ?hp (fun _ hk => hk) trivial (Below.refl _ _) (Nat.le_refl _) (by simp) ?_; (case hd => rfl); (case hg => rfl); (case hr => first | (go_simp; done) | (go_simp; rfl)); (case hp => exact (Reps.none _ _)); intro v136 w2 ho3 hb hg_ hnew_; clear hg_ hnew_; (first | rw [← Ny135.out] at ho3 | (simp only [Int.reduceToNat] at ho3; rw [← Ny135.out] at ho3)); have HO137 := am (Kd.R_lower ho3 (below_size ab1)); replace HB := am (below_step ab1 hb); clear hb ho3))
 go_loopg [3, 4] k (fun kq v3 v4 w' => ∃ (x3_1 : List Int) (x4_1 : Int), v4 = .int .i64 x4_1 ∧ Aside0 (spec_Signs.l0 kq a0 x3_1 x4_1 = some r) ∧ Aside0 (kq ≤ k) ∧ Aside0 (Kd.R (Kd.int .i64) 3 w' w.heap.size (fun _ => True) v3 x3_1) ∧ Aside0 (Below w.heap.size w w'))
 case atStart => exact ⟨(y135), (0), ab6, H', ⟨Nat.le_refl _⟩, ⟨ab8 HO137⟩, ⟨ab1⟩⟩
 case round =>
  clear H'
  try clear p2
  obtain ⟨x3_1, x4_1, rfl, HA, HK1, HO_3, HB⟩ := hrel
  cases gk with
  | zero => exact absurd HA.out (by simp [spec_Signs.l0])
  | succ k1 =>
   have H := HA.out
   clear HA
   simp only [spec_Signs.l0] at H
   replace H := ir_ H; rcases H with ⟨c4b0, H⟩ | ⟨c4b0, H⟩
   ·replace H := Option.bind_eq_some_iff.mp H
    obtain ⟨⟨t138, t139⟩, A50, H⟩ := H
    try dsimp only at H
    have A5 := am A50
    clear A50
    by_cases c6 : x3_1.length < 17592186044416
    case neg => rw [if_neg c6] at H; exact absurd H (by simp)
    rw [if_pos c6] at H
    have LMc6 := am c6
    clear c6
    obtain ⟨y140, hy140⟩ : ∃ y_ : List Int, y_ = (x3_1 ++ [t138]) := ⟨_, rfl⟩
    replace H : (spec_Signs.l0 k1 a0 y140 (wrap64 (x4_1 + t139))) = some r := by first | (rw [hy140]; with_reducible exact H) | (have H2_ := (Option.bind_some _ _).symm.trans H; rw [hy140]; with_reducible exact H2_) | (have H2_ := (Option.bind_some _ _).symm.trans H; with_reducible exact H2_) | with_reducible exact H | (rw [hy140]; exact H) | exact H
    have Ny140 := am hy140
    clear hy140
    have H' := am H
    clear H
    go_wp2_with (first | ((with_reducible refine gf_ 74 ?_); refine gc_ Tryz.func74 (spec_GetSign.calls k1 a0 x4_1 t138 t139 _ A5.out) ?_; rintro w' ⟨nd, rfl⟩) | ((with_reducible refine gate_builtin (b := .append) (xs := #[.tmp 18, .tmp 20]) rfl ?_); at_builtin; refine Kd.R_append (Kd.int .i64) (w0 := w) w.heap.size rfl (.tmp 18) (.tmp 20) 79 3 (.int .i64 0) 8 rfl Tryz.underlying79 info3 rfl (by decide) (by omega) u3 x3_1 t138 [.int .i64 t138] (fun _ => True) (fun _ => False) rfl rfl ?aP (fun _ hk => hk.elim) ?aF ?aO ?aB ?aS ?aL ?_; (case aP => exact rfl); (case aB => exact ab1); (case aF => exact (fun _ _ => trivial)); (case aO => exact (ab8 HO_3)); (case aS => exact (below_size ab1)); (case aL => have := LMc6.out; omega); intro v141 w7 ho hb hg hat; rw [← Ny140.out] at ho; replace HB := am hb; have HO142 := am ho; clear HO_3; clear ho hb hg hat))
    go_roundg k1
    case measure => have := HK1.out; omega
    case rel => exact ⟨(y140), (wrap64 (x4_1 + t139)), ab6, H', ⟨by have := HK1.out; omega⟩, ⟨ab8 HO142⟩, ⟨ab1⟩⟩
   ·obtain rfl := Option.some.inj H
    go_wp2
    go_ret
    exact ⟨_, ab7, ab8 HO_3, ab1⟩

/-! ### spec_IsLetter: function 75 -/
def spec_IsLetter.f (a0 : Int) : Option (Bool) := (spec_l1In.f a0 97 122).bind fun t143 => (if t143 = true then (some true) else ((spec_l1In.f a0 65 90).bind fun t144 => (some t144)))
theorem spec_IsLetter.calls (a0 : Int) (r : Bool) (w : World) (h : spec_IsLetter.f a0 = some r) :
  Calls Tryz.prog 75 #[.int .i64 a0] w fun e w' => e = .returned (.bool r) ∧ Drawn0 w w' := by
 have H : ((spec_l1In.f a0 97 122).bind fun t143 => (if t143 = true then (some true) else ((spec_l1In.f a0 65 90).bind fun t144 => (some t144)))) = some r := h
 clear h
 replace H := bi_ H; obtain ⟨t143, A2, H⟩ := H
 replace H := ib_ H; rcases H with ⟨rfl, H⟩ | ⟨rfl, H⟩
 ·obtain rfl := Option.some.inj H
  go_enter Tryz.func75, Tryz.ntmps75
  go_wp2_with (first | ((with_reducible refine gf_ 42 ?_); refine gc_ Tryz.func42 (spec_l1In.calls a0 97 122 true _ A2.out) ?_; rintro w' ⟨nd, rfl⟩))
  go_ret
  exact ⟨ab6, by repeat (first | exact Drawn0.refl _ | apply Drawn0.step)⟩
 ·replace H := bi_ H; obtain ⟨t144, A4, H⟩ := H
  obtain rfl := Option.some.inj H
  go_enter Tryz.func75, Tryz.ntmps75
  go_wp2_with (first | ((with_reducible refine gf_ 42 ?_); refine gc_ Tryz.func42 (spec_l1In.calls a0 97 122 false _ A2.out) ?_; rintro w' ⟨nd, rfl⟩) | (go_at_call 42; (with_reducible refine (spec_l1In.calls a0 65 90 t144 _ A4.out).mono ?_); rintro e w' ⟨rfl, ⟨nd, rfl⟩⟩))
  go_ret
  exact ⟨ab6, by repeat (first | exact Drawn0.refl _ | apply Drawn0.step)⟩

/-! ### spec_l2Within: function 76 -/
def spec_l2Within.l0 : Nat → List Int → Int → Int → Option (Bool)
 | 0, _, _, _ => none
 | k + 1, x0, x1, x5 => if (wrap64 (x5 + 1)) < (x0.length : Int) then (if 0 ≤ x5 then (if x5 < (x0.length : Int) then (if 0 ≤ (wrap64 (x5 + 1)) then ((spec_l1In.f x1 (rd x0 x5) (rd x0 (wrap64 (x5 + 1)))).bind fun t147 => (if t147 = true then (some true) else (spec_l2Within.l0 k x0 x1 (wrap64 (x5 + 2))))) else (none)) else (none)) else (none)) else (some false)
def spec_l2Within.f (k : Nat) (l0 : List Int) (a1 : Int) : Option (Bool) := spec_l2Within.l0 k l0 a1 0
theorem spec_l2Within.mono_l : ∀ k, (∀ y0 y1 y2, LeO (spec_l2Within.l0 k y0 y1 y2) (spec_l2Within.l0 (k + 1) y0 y1 y2))
 | 0 => fun _ _ _ r h => by simp [spec_l2Within.l0] at h
 | k + 1 => by
  have ih0 := spec_l2Within.mono_l k
  ·intro y0 y1 y2
   unfold spec_l2Within.l0
   repeat' with_reducible first | exact ih0 _ _ _ | exact LeO.refl _ | exact LeO.none _ | refine LeO.ite ?_ ?_ | refine LeO.bind ?_ fun _ => ?_
theorem spec_l2Within.mono : ∀ a0 a1 k, LeO (spec_l2Within.f k a0 a1) (spec_l2Within.f (k + 1) a0 a1) := by
 intro a0 a1 k
 have ih0 := spec_l2Within.mono_l k
 unfold spec_l2Within.f
 repeat' with_reducible first | exact ih0 _ _ _ | exact LeO.refl _ | exact LeO.none _ | refine LeO.ite ?_ ?_ | refine LeO.bind ?_ fun _ => ?_
theorem spec_l2Within.calls (k : Nat) (A0 : Option Addr) (c0 : Nat) (l0 : List Int) (a1 : Int) (r : Bool) (w : World) (hr0 : Kd.C (Kd.int .i64) w A0 l0.length l0) (hc0 : l0.length ≤ c0) (h : spec_l2Within.f k l0 a1 = some r) :
  Calls Tryz.prog 76 #[.slice A0 l0.length c0, .int .i64 a1] w fun e w' => e = .returned (.bool r) ∧ Drawn0 w w' := by
 have HR0 := am hr0
 have HC0 := am hc0
 clear hr0 hc0
 have H : (spec_l2Within.l0 k l0 a1 0) = some r := h
 clear h
 have H' := am H
 clear H
 go_enter Tryz.func76, Tryz.ntmps76
 go_wp2
 repeat (go_quiet (fail); try go_wp2)
 go_loopg [5] k (fun kq v5 w' => ∃ (x5_1 : Int), v5 = .int .i64 x5_1 ∧ Aside0 (spec_l2Within.l0 kq l0 a1 x5_1 = some r) ∧ Aside0 (kq ≤ k) ∧ Drawn0 w w')
 case atStart => exact ⟨(0), ab6, H', ⟨Nat.le_refl _⟩, by repeat (first | exact Drawn0.refl _ | apply Drawn0.step)⟩
 case round =>
  clear H'
  try clear p2
  obtain ⟨x5_1, rfl, HA, HK1, ⟨m1, rfl⟩⟩ := hrel
  cases gk with
  | zero => exact absurd HA.out (by simp [spec_l2Within.l0])
  | succ k1 =>
   have H := HA.out
   clear HA
   simp only [spec_l2Within.l0] at H
   replace H := ir_ H; rcases H with ⟨c3b0, H⟩ | ⟨c3b0, H⟩
   ·replace H := iq_ H; obtain ⟨c4b0, H⟩ := H
    replace H := iq_ H; obtain ⟨c5b0, H⟩ := H
    obtain ⟨ji6, hji6⟩ : ∃ j_ : Int, (wrap64 (x5_1 + 1)) = j_ := ⟨_, rfl⟩
    replace H : (if 0 ≤ (ji6) then ((spec_l1In.f a1 (rd l0 x5_1) (rd l0 (ji6))).bind fun t147 => (if t147 = true then (some true) else (spec_l2Within.l0 k1 l0 a1 (wrap64 (x5_1 + 2))))) else (none)) = some r := by first | (rw [hji6] at H; exact H) | (simp only [hji6] at H ⊢; exact H)
    (try rw [hji6] at c3b0)
    have hji6w : (IntKind.i64.wrap (x5_1 + 1)) = ji6 := (i64_w _).trans hji6
    replace H := iq_ H; obtain ⟨c7b0, H⟩ := H
    replace H := bi_ H; obtain ⟨t147, A8, H⟩ := H
    replace H := ib_ H; rcases H with ⟨rfl, H⟩ | ⟨rfl, H⟩
    ·obtain rfl := Option.some.inj H
     have p145 : 0 ≤ (x5_1 : Int) := of_decide_eq_true ab4
     have q145 : x5_1 < (l0.length : Int) := of_decide_eq_true ab4
     obtain ⟨ad145, e145, hx145_0⟩ := Kd.at_int HR0.out x5_1 p145 q145
     cases e145
     replace p145 := eq_true p145
     replace q145 := eq_true q145
     have p146 : 0 ≤ ((ji6) : Int) := of_decide_eq_true ab4
     have q146 : (ji6) < (l0.length : Int) := of_decide_eq_true ab4
     obtain ⟨ad146, e146, hx146_0⟩ := Kd.at_int HR0.out (ji6) p146 q146
     obtain rfl : ad145 = ad146 := (by injection e146)
     replace p146 := eq_true p146
     replace q146 := eq_true q146
     go_wp2_with (first | (go_at_call 42; (with_reducible refine (spec_l1In.calls a1 (rd l0 x5_1) (rd l0 (ji6)) true _ A8.out).mono ?_); rintro e w' ⟨rfl, ⟨nd, rfl⟩⟩; (try first | exact ⟨rfl, _, World.drewN_drewN _ _ _⟩ | exact ⟨rfl, _, Eq.trans (World.drewN_drewN _ _ _) (congrArg (World.drewN _) (Nat.add_assoc _ _ _))⟩)))
     repeat (go_quiet (first | (go_at_call 42; (with_reducible refine (spec_l1In.calls a1 (rd l0 x5_1) (rd l0 (ji6)) true _ A8.out).mono ?_); rintro e w' ⟨rfl, ⟨nd, rfl⟩⟩; (try first | exact ⟨rfl, _, World.drewN_drewN _ _ _⟩ | exact ⟨rfl, _, Eq.trans (World.drewN_drewN _ _ _) (congrArg (World.drewN _) (Nat.add_assoc _ _ _))⟩))); try go_wp2_with (first | (go_at_call 42; (with_reducible refine (spec_l1In.calls a1 (rd l0 x5_1) (rd l0 (ji6)) true _ A8.out).mono ?_); rintro e w' ⟨rfl, ⟨nd, rfl⟩⟩; (try first | exact ⟨rfl, _, World.drewN_drewN _ _ _⟩ | exact ⟨rfl, _, Eq.trans (World.drewN_drewN _ _ _) (congrArg (World.drewN _) (Nat.add_assoc _ _ _))⟩))))
     go_ret
     exact ⟨by first | rfl | (simp; done) | (simp only [← hji6] <;> (first | rfl | simp)) | (simp [*]; done), by repeat (first | exact Drawn0.refl _ | apply Drawn0.step)⟩
    ·have H' := am H
     clear H
     have p145 : 0 ≤ (x5_1 : Int) := of_decide_eq_true ab4
     have q145 : x5_1 < (l0.length : Int) := of_decide_eq_true ab4
     obtain ⟨ad145, e145, hx145_0⟩ := Kd.at_int HR0.out x5_1 p145 q145
     cases e145
     replace p145 := eq_true p145
     replace q145 := eq_true q145
     have p146 : 0 ≤ ((ji6) : Int) := of_decide_eq_true ab4
     have q146 : (ji6) < (l0.length : Int) := of_decide_eq_true ab4
     obtain ⟨ad146, e146, hx146_0⟩ := Kd.at_int HR0.out (ji6) p146 q146
     obtain rfl : ad145 = ad146 := (by injection e146)
     replace p146 := eq_true p146
     replace q146 := eq_true q146
     go_wp2_with (first | (go_at_call 42; (with_reducible refine (spec_l1In.calls a1 (rd l0 x5_1) (rd l0 (ji6)) false _ A8.out).mono ?_); rintro e w' ⟨rfl, ⟨nd, rfl⟩⟩; (try first | exact ⟨rfl, _, World.drewN_drewN _ _ _⟩ | exact ⟨rfl, _, Eq.trans (World.drewN_drewN _ _ _) (congrArg (World.drewN _) (Nat.add_assoc _ _ _))⟩)))
     repeat (go_quiet (first | (go_at_call 42; (with_reducible refine (spec_l1In.calls a1 (rd l0 x5_1) (rd l0 (ji6)) false _ A8.out).mono ?_); rintro e w' ⟨rfl, ⟨nd, rfl⟩⟩; (try first | exact ⟨rfl, _, World.drewN_drewN _ _ _⟩ | exact ⟨rfl, _, Eq.trans (World.drewN_drewN _ _ _) (congrArg (World.drewN _) (Nat.add_assoc _ _ _))⟩))); try go_wp2_with (first | (go_at_call 42; (with_reducible refine (spec_l1In.calls a1 (rd l0 x5_1) (rd l0 (ji6)) false _ A8.out).mono ?_); rintro e w' ⟨rfl, ⟨nd, rfl⟩⟩; (try first | exact ⟨rfl, _, World.drewN_drewN _ _ _⟩ | exact ⟨rfl, _, Eq.trans (World.drewN_drewN _ _ _) (congrArg (World.drewN _) (Nat.add_assoc _ _ _))⟩))))
     go_roundg k1
     case measure => have := HK1.out; omega
     case rel => exact ⟨(wrap64 (x5_1 + 2)), ab6, H', ⟨by have := HK1.out; omega⟩, by repeat (first | exact Drawn0.refl _ | apply Drawn0.step)⟩
   ·obtain rfl := Option.some.inj H
    go_wp2
    repeat (go_quiet (fail); try go_wp2)
    go_ret
    exact ⟨ab6, by repeat (first | exact Drawn0.refl _ | apply Drawn0.step)⟩

/-! ### spec_IsFirst: function 57 -/
def spec_IsFirst.f (k : Nat) (a0 : Int) : Option (Bool) := (spec_IsLetter.f a0).bind fun t148 => (if t148 = true then (some true) else (if a0 = 95 then (some true) else ((spec_l2Within.f k (([192, 214, 216, 246, 248, 767, 880, 893, 895, 8191, 8204, 8205, 8304, 8591, 11264, 12271, 12289, 55295, 63744, 64975, 65008, 65533, 65536, 983039] : List Int)) a0).bind fun t152 => (some t152))))
theorem spec_IsFirst.mono : ∀ a0 k, LeO (spec_IsFirst.f k a0) (spec_IsFirst.f (k + 1) a0) := by
 intro a0 k
 unfold spec_IsFirst.f
 repeat' with_reducible first | exact spec_l2Within.mono _ _ _ | exact LeO.refl _ | exact LeO.none _ | refine LeO.ite ?_ ?_ | refine LeO.bind ?_ fun _ => ?_
theorem spec_IsFirst.calls (k : Nat) (a0 : Int) (r : Bool) (w : World) (h : spec_IsFirst.f k a0 = some r) :
  Calls Tryz.prog 57 #[.int .i64 a0] w fun e w' => e = .returned (.bool r) ∧ Below w.heap.size w w' := by
 have HB := am (Below.refl w.heap.size w)
 have H : ((spec_IsLetter.f a0).bind fun t148 => (if t148 = true then (some true) else (if a0 = 95 then (some true) else ((spec_l2Within.f k (([192, 214, 216, 246, 248, 767, 880, 893, 895, 8191, 8204, 8205, 8304, 8591, 11264, 12271, 12289, 55295, 63744, 64975, 65008, 65533, 65536, 983039] : List Int)) a0).bind fun t152 => (some t152))))) = some r := h
 clear h
 replace H := bi_ H; obtain ⟨t148, A2, H⟩ := H
 replace H := ib_ H; rcases H with ⟨rfl, H⟩ | ⟨rfl, H⟩
 ·obtain rfl := Option.some.inj H
  go_enter Tryz.func57, Tryz.ntmps57
  go_wp2_with (first | ((with_reducible refine gf_ 75 ?_); refine gc_ Tryz.func75 (spec_IsLetter.calls a0 true _ A2.out) ?_; rintro w' ⟨nd, rfl⟩))
  go_ret
  exact ⟨ab7, ab1⟩
 ·replace H := ie_ H; rcases H with ⟨c4b0, c4b1, H⟩ | ⟨c4, c4b0, c4b1, H⟩
  ·obtain rfl := Option.some.inj H
   go_enter Tryz.func57, Tryz.ntmps57
   go_wp2_with (first | ((with_reducible refine gf_ 75 ?_); refine gc_ Tryz.func75 (spec_IsLetter.calls a0 false _ A2.out) ?_; rintro w' ⟨nd, rfl⟩))
   go_ret
   exact ⟨ab7, ab1⟩
  ·obtain ⟨y149, hy149⟩ : ∃ y_ : List Int, y_ = (([192, 214, 216, 246, 248, 767, 880, 893, 895, 8191, 8204, 8205, 8304, 8591, 11264, 12271, 12289, 55295, 63744, 64975, 65008, 65533, 65536, 983039] : List Int)) := ⟨_, rfl⟩
   replace H : ((spec_l2Within.f k y149 a0).bind fun t152 => (some t152)) = some r := by first | (rw [hy149]; with_reducible exact H) | (have H2_ := (Option.bind_some _ _).symm.trans H; rw [hy149]; with_reducible exact H2_) | (have H2_ := (Option.bind_some _ _).symm.trans H; with_reducible exact H2_) | with_reducible exact H | (rw [hy149]; exact H) | exact H
   have Ny149 := am hy149
   clear hy149
   replace H := bi_ H; obtain ⟨t152, A5, H⟩ := H
   obtain rfl := Option.some.inj H
   go_enter Tryz.func57, Tryz.ntmps57
   go_wp2_with (first | ((with_reducible refine gf_ 75 ?_); refine gc_ Tryz.func75 (spec_IsLetter.calls a0 false _ A2.out) ?_; rintro w' ⟨nd, rfl⟩) | ((with_reducible refine gate_dst (N := 10) rfl ?_); (try (refine gate_guard (by rfl) ?_; dsimp only)); refine Kd.R_lit (Kd.int .i64) _ 3 ?hg (N := 10) ?hd (xs := ([192, 214, 216, 246, 248, 767, 880, 893, 895, 8191, 8204, 8205, 8304, 8591, 11264, 12271, 12289, 55295, 63744, 64975, 65008, 65533, 65536, 983039] : List Int)) (inner := [.int .i64 192, .int .i64 214, .int .i64 216, .int .i64 246, .int .i64 248, .int .i64 767, .int .i64 880, .int .i64 893, .int .i64 895, .int .i64 8191, .int .i64 8204, .int .i64 8205, .int .i64 8304, .int .i64 8591, .int .i64 11264, .int .i64 12271, .int .i64 12289, .int .i64 55295, .int .i64 63744, .int .i64 64975, .int .i64 65008, .int .i64 65533, .int .i64 65536, .int .i64 983039]) (ok := fun _ => True) (okp := fun _ => True) ?hr ?hp (fun _ hk => hk) trivial (Below.refl _ _) (Nat.le_refl _) (by simp) ?_; (case hd => rfl); (case hg => rfl); (case hr => first | (go_simp; done) | (go_simp; rfl)); (case hp => exact (Reps.one (show Kd.M (Kd.int .i64) _ _ _ 192 [.int .i64 192] from rfl) (Reps.one (show Kd.M (Kd.int .i64) _ _ _ 214 [.int .i64 214] from rfl) (Reps.one (show Kd.M (Kd.int .i64) _ _ _ 216 [.int .i64 216] from rfl) (Reps.one (show Kd.M (Kd.int .i64) _ _ _ 246 [.int .i64 246] from rfl) (Reps.one (show Kd.M (Kd.int .i64) _ _ _ 248 [.int .i64 248] from rfl) (Reps.one (show Kd.M (Kd.int .i64) _ _ _ 767 [.int .i64 767] from rfl) (Reps.one (show Kd.M (Kd.int .i64) _ _ _ 880 [.int .i64 880] from rfl) (Reps.one (show Kd.M (Kd.int .i64) _ _ _ 893 [.int .i64 893] from rfl) (Reps.one (show Kd.M (Kd.int .i64) _ _ _ 895 [.int .i64 895] from rfl) (Reps.one (show Kd.M (Kd.int .i64) _ _ _ 8191 [.int .i64 8191] from rfl) (Reps.one (show Kd.M (Kd.int .i64) _ _ _ 8204 [.int .i64 8204] from rfl) (Reps.one (show Kd.M (Kd.int .i64) _ _ _ 8205 [.int .i64 8205] from rfl) (Reps.one (show Kd.M (Kd.int .i64) _ _ _ 8304 [.int .i64 8304] from rfl) (Reps.one (show Kd.M (Kd.int .i64) _ _ _ 8591 [.int .i64 8591] from rfl) (Reps.one (show Kd.M (Kd.int .i64) _ _ _ 11264 [.int .i64 11264] from rfl) (Reps.one (show Kd.M (Kd.int .i64) _ _ _ 12271 [.int .i64 12271] from rfl) (Reps.one (show Kd.M (Kd.int .i64) _ _ _ 12289 [.int .i64 12289] from rfl) (Reps.one (show Kd.M (Kd.int .i64) _ _ _ 55295 [.int .i64 55295] from rfl) (Reps.one (show Kd.M (Kd.int .i64) _ _ _ 63744 [.int .i64 63744] from rfl) (Reps.one (show Kd.M (Kd.int .i64) _ _ _ 64975 [.int .i64 64975] from rfl) (Reps.one (show Kd.M (Kd.int .i64) _ _ _ 65008 [.int .i64 65008] from rfl) (Reps.one (show Kd.M (Kd.int .i64) _ _ _ 65533 [.int .i64 65533] from rfl) (Reps.one (show Kd.M (Kd.int .i64) _ _ _ 65536 [.int .i64 65536] from rfl) (Reps.one (show Kd.M (Kd.int .i64) _ _ _ 983039 [.int .i64 983039] from rfl) (Reps.none _ _)))))))))))))))))))))))))); intro v150 w6 ho7 hb hg_ hnew_; clear hg_ hnew_; (first | rw [← Ny149.out] at ho7 | (simp only [Int.reduceToNat] at ho7; rw [← Ny149.out] at ho7)); have HO151 := am (Kd.R_lower ho7 (below_size ab1)); replace HB := am (below_step ab1 hb); clear hb ho7; obtain ⟨Ao8, co8, eo8⟩ := Kd.R_slice HO151.out; subst eo8) | (go_at_call 76; (with_reducible refine (spec_l2Within.calls k _ _ y149 a0 t152 _ ?side1 ?side2 A5.out).mono ?_); (case side1 => repeat (first | exact (Kd.R_reads' HO151.out).2.2 | (with_reducible refine Kd.C_alloc ?_ _) | (with_reducible refine Kd.C_drewN ?_ _) | (with_reducible refine Kd.C_drew ?_))); (case side2 => exact (Kd.R_reads' HO151.out).2.1); rintro e w' ⟨rfl, ⟨nd, rfl⟩⟩))
   go_ret
   exact ⟨ab7, ab1⟩

/-! ### spec_IsNext: function 58 -/
def spec_IsNext.f (k : Nat) (a0 : Int) : Option (Bool) := (spec_IsFirst.f k a0).bind fun t153 => (if t153 = true then (some true) else (if a0 = 45 then (some true) else (if a0 = 46 then (some true) else (if a0 = 183 then (some true) else ((spec_l2Within.f k (([48, 57, 768, 879, 8255, 8256] : List Int)) a0).bind fun t157 => (some t157))))))
theorem spec_IsNext.mono : ∀ a0 k, LeO (spec_IsNext.f k a0) (spec_IsNext.f (k + 1) a0) := by
 intro a0 k
 unfold spec_IsNext.f
 repeat' with_reducible first | exact spec_IsFirst.mono _ _ | exact spec_l2Within.mono _ _ _ | exact LeO.refl _ | exact LeO.none _ | refine LeO.ite ?_ ?_ | refine LeO.bind ?_ fun _ => ?_
theorem spec_IsNext.calls (k : Nat) (a0 : Int) (r : Bool) (w : World) (h : spec_IsNext.f k a0 = some r) :
  Calls Tryz.prog 58 #[.int .i64 a0] w fun e w' => e = .returned (.bool r) ∧ Below w.heap.size w w' := by
 have HB := am (Below.refl w.heap.size w)
 have H : ((spec_IsFirst.f k a0).bind fun t153 => (if t153 = true then (some true) else (if a0 = 45 then (some true) else (if a0 = 46 then (some true) else (if a0 = 183 then (some true) else ((spec_l2Within.f k (([48, 57, 768, 879, 8255, 8256] : List Int)) a0).bind fun t157 => (some t157))))))) = some r := h
 clear h
 replace H := bi_ H; obtain ⟨t153, A2, H⟩ := H
 replace H := ib_ H; rcases H with ⟨rfl, H⟩ | ⟨rfl, H⟩
 ·obtain rfl := Option.some.inj H
  go_enter Tryz.func58, Tryz.ntmps58
  go_wp2_with (first | ((with_reducible refine gf_ 57 ?_); refine gc_ Tryz.func57 (spec_IsFirst.calls k a0 true _ A2.out) ?_; rintro w4 hb; replace HB := am (below_step ab1 hb); (try clear hb); (try clear hb2); (try clear hk); (try clear hi)))
  go_ret
  exact ⟨ab7, ab1⟩
 ·replace H := ie_ H; rcases H with ⟨c5b0, c5b1, H⟩ | ⟨c5, c5b0, c5b1, H⟩
  ·obtain rfl := Option.some.inj H
   go_enter Tryz.func58, Tryz.ntmps58
   go_wp2_with (first | ((with_reducible refine gf_ 57 ?_); refine gc_ Tryz.func57 (spec_IsFirst.calls k a0 false _ A2.out) ?_; rintro w6 hb; replace HB := am (below_step ab1 hb); (try clear hb); (try clear hb2); (try clear hk); (try clear hi)))
   go_ret
   exact ⟨ab7, ab1⟩
  ·replace H := ie_ H; rcases H with ⟨c7b0, c7b1, H⟩ | ⟨c7, c7b0, c7b1, H⟩
   ·obtain rfl := Option.some.inj H
    go_enter Tryz.func58, Tryz.ntmps58
    go_wp2_with (first | ((with_reducible refine gf_ 57 ?_); refine gc_ Tryz.func57 (spec_IsFirst.calls k a0 false _ A2.out) ?_; rintro w8 hb; replace HB := am (below_step ab1 hb); (try clear hb); (try clear hb2); (try clear hk); (try clear hi)))
    go_ret
    exact ⟨ab7, ab1⟩
   ·replace H := ie_ H; rcases H with ⟨c9b0, c9b1, H⟩ | ⟨c9, c9b0, c9b1, H⟩
    ·obtain rfl := Option.some.inj H
     go_enter Tryz.func58, Tryz.ntmps58
     go_wp2_with (first | ((with_reducible refine gf_ 57 ?_); refine gc_ Tryz.func57 (spec_IsFirst.calls k a0 false _ A2.out) ?_; rintro w10 hb; replace HB := am (below_step ab1 hb); (try clear hb); (try clear hb2); (try clear hk); (try clear hi)))
     go_ret
     exact ⟨ab7, ab1⟩
    ·obtain ⟨y154, hy154⟩ : ∃ y_ : List Int, y_ = (([48, 57, 768, 879, 8255, 8256] : List Int)) := ⟨_, rfl⟩
     replace H : ((spec_l2Within.f k y154 a0).bind fun t157 => (some t157)) = some r := by first | (rw [hy154]; with_reducible exact H) | (have H2_ := (Option.bind_some _ _).symm.trans H; rw [hy154]; with_reducible exact H2_) | (have H2_ := (Option.bind_some _ _).symm.trans H; with_reducible exact H2_) | with_reducible exact H | (rw [hy154]; exact H) | exact H
     have Ny154 := am hy154
     clear hy154
     replace H := bi_ H; obtain ⟨t157, A11, H⟩ := H
     obtain rfl := Option.some.inj H
     go_enter Tryz.func58, Tryz.ntmps58
     go_wp2_with (first | ((with_reducible refine gf_ 57 ?_); refine gc_ Tryz.func57 (spec_IsFirst.calls k a0 false _ A2.out) ?_; rintro w12 hb; replace HB := am (below_step ab1 hb); (try clear hb); (try clear hb2); (try clear hk); (try clear hi)) | ((with_reducible refine gate_dst (N := 18) rfl ?_); (try (refine gate_guard (by rfl) ?_; dsimp only)); refine Kd.R_lit (Kd.int .i64) _ 3 ?hg (N := 18) ?hd (xs := ([48, 57, 768, 879, 8255, 8256] : List Int)) (inner := [.int .i64 48, .int .i64 57, .int .i64 768, .int .i64 879, .int .i64 8255, .int .i64 8256]) (ok := fun _ => True) (okp := fun _ => True) ?hr ?hp (fun _ hk => hk) trivial (Below.refl _ _) (Nat.le_refl _) (by simp) ?_; (case hd => rfl); (case hg => rfl); (case hr => first | (go_simp; done) | (go_simp; rfl)); (case hp => exact (Reps.one (show Kd.M (Kd.int .i64) _ _ _ 48 [.int .i64 48] from rfl) (Reps.one (show Kd.M (Kd.int .i64) _ _ _ 57 [.int .i64 57] from rfl) (Reps.one (show Kd.M (Kd.int .i64) _ _ _ 768 [.int .i64 768] from rfl) (Reps.one (show Kd.M (Kd.int .i64) _ _ _ 879 [.int .i64 879] from rfl) (Reps.one (show Kd.M (Kd.int .i64) _ _ _ 8255 [.int .i64 8255] from rfl) (Reps.one (show Kd.M (Kd.int .i64) _ _ _ 8256 [.int .i64 8256] from rfl) (Reps.none _ _)))))))); intro v155 w13 ho14 hb hg_ hnew_; clear hg_ hnew_; (first | rw [← Ny154.out] at ho14 | (simp only [Int.reduceToNat] at ho14; rw [← Ny154.out] at ho14)); have HO156 := am (Kd.R_lower ho14 (below_size ab1)); replace HB := am (below_step ab1 hb); clear hb ho14; obtain ⟨Ao15, co15, eo15⟩ := Kd.R_slice HO156.out; subst eo15) | (go_at_call 76; (with_reducible refine (spec_l2Within.calls k _ _ y154 a0 t157 _ ?side1 ?side2 A11.out).mono ?_); (case side1 => repeat (first | exact (Kd.R_reads' HO156.out).2.2 | (with_reducible refine Kd.C_alloc ?_ _) | (with_reducible refine Kd.C_drewN ?_ _) | (with_reducible refine Kd.C_drew ?_))); (case side2 => exact (Kd.R_reads' HO156.out).2.1); rintro e w' ⟨rfl, ⟨nd, rfl⟩⟩))
     go_ret
     exact ⟨ab7, ab1⟩

end Go.Proofs.YthpdpnpojgegiaaGreatDoor.P
