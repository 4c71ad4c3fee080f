-- WRITTEN BY hprint.py, this session's own program, over the kit's printer: not typed by hand; Lean checks it
import Derived.Test.YtaomfbbbdddlmaaQs0
import Derived.Test.YtaomfbbbdddlmaaQs3
import Derived.Test.YtaomfbbbdddlmaaQs6
namespace Go.Proofs.Ytaomfbbbdddlmaa.P
open Go.RowKit Go.Proofs.YtaomfbbbdddlmaaW.PrintWords Go.Proofs.YtaomfbbbdddlmaaW.PrintLast Go.Proofs.YtaomfbbbdddlmaaW.PrintMore
attribute [local go_sem] max2_int min2_int max_two min_two max_three min_three max_four min_four   -- for this text's walks alone
set_option linter.unusedVariables false
set_option linter.unusedSimpArgs false

/-! ### spec_GetSign: function 129 -/
mutual
def spec_GetSign.j0 : Nat → ByteArray → Int → Bool → Option (Int × Int)
 | 0, _, _, _ => none
 | k + 1, x0, x1, x17 => if x17 = true then (some (0, 0)) else (if 0 ≤ x1 then (if x1 < (x0.size : Int) then ((spec_l1Many.f (wrap64 (bt x0 x1))).bind fun t215 => (if t215 < 2 then (if t215 = 1 then (some (wrap64 (bt x0 x1), 1)) else (some (65533, 1))) else (if 0 ≤ t215 then (spec_GetSign.l0 k x0 x1 (wrap64 (bt x0 x1)) t215 (Go.bits .and .i64 (wrap64 (bt x0 x1)) (shr .i64 127 t215)) 1) else (none)))) else (none)) else (none))
def spec_GetSign.l0 : Nat → ByteArray → Int → Int → Int → Int → Int → Option (Int × Int)
 | 0, _, _, _, _, _, _ => none
 | k + 1, x0, x1, x6, x7, x8, x9 => if x9 < x7 then (if (wrap64 (x1 + x9)) ≥ (x0.size : Int) then (some (65533, x9)) else (if x9 = 1 then (if 0 ≤ (wrap64 (x1 + 1)) then (if (wrap64 (x1 + 1)) < (x0.size : Int) then ((spec_l1Second.f x6 (wrap64 (bt x0 (wrap64 (x1 + 1))))).bind fun t216 => (if t216 = true then (if 0 ≤ (wrap64 (x1 + x9)) then (if (wrap64 (x1 + x9)) < (x0.size : Int) then ((spec_l1In.f (wrap64 (bt x0 (wrap64 (x1 + x9)))) 128 191).bind fun t217 => (if t217 = true then (spec_GetSign.l0 k x0 x1 x6 x7 (wrap64 ((wrap64 (x8 * 64)) + (Go.bits .and .i64 (wrap64 (bt x0 (wrap64 (x1 + x9)))) 63))) (wrap64 (x9 + 1))) else (some (65533, x9)))) else (none)) else (none)) else (some (65533, x9)))) else (none)) else (none)) else (if 0 ≤ (wrap64 (x1 + x9)) then (if (wrap64 (x1 + x9)) < (x0.size : Int) then ((spec_l1In.f (wrap64 (bt x0 (wrap64 (x1 + x9)))) 128 191).bind fun t218 => (if t218 = true then (spec_GetSign.l0 k x0 x1 x6 x7 (wrap64 ((wrap64 (x8 * 64)) + (Go.bits .and .i64 (wrap64 (bt x0 (wrap64 (x1 + x9)))) 63))) (wrap64 (x9 + 1))) else (some (65533, x9)))) else (none)) else (none)))) else (some (x8, x7))
end
def spec_GetSign.f (k : Nat) (a0 : ByteArray) (a1 : Int) : Option (Int × Int) := if a1 < 0 then (spec_GetSign.j0 k a0 a1 true) else (spec_GetSign.j0 k a0 a1 (decide (a1 ≥ (a0.size : Int))))
theorem spec_GetSign.mono_l : ∀ k, (∀ y0 y1 y2, LeO (spec_GetSign.j0 k y0 y1 y2) (spec_GetSign.j0 (k + 1) y0 y1 y2)) ∧ (∀ y0 y1 y2 y3 y4 y5, LeO (spec_GetSign.l0 k y0 y1 y2 y3 y4 y5) (spec_GetSign.l0 (k + 1) y0 y1 y2 y3 y4 y5))
 | 0 => ⟨fun _ _ _ r h => by simp [spec_GetSign.j0] at h, fun _ _ _ _ _ _ r h => by simp [spec_GetSign.l0] at h⟩
 | k + 1 => by
  obtain ⟨ih0, ih1⟩ := spec_GetSign.mono_l k
  refine ⟨?_, ?_⟩
  ·intro y0 y1 y2
   unfold spec_GetSign.j0
   repeat' first
   | (with_reducible exact ih0 _ _ _)
   | (with_reducible exact ih1 _ _ _ _ _ _)
   | (with_reducible exact LeO.refl _)
   | (with_reducible exact LeO.none _)
   | (with_reducible refine LeO.ite ?_ ?_)
   | (with_reducible refine LeO.bind ?_ (fun _ => ?_))
  ·intro y0 y1 y2 y3 y4 y5
   unfold spec_GetSign.l0
   repeat' first
   | (with_reducible exact ih0 _ _ _)
   | (with_reducible exact ih1 _ _ _ _ _ _)
   | (with_reducible exact LeO.refl _)
   | (with_reducible exact LeO.none _)
   | (with_reducible refine LeO.ite ?_ ?_)
   | (with_reducible refine LeO.bind ?_ (fun _ => ?_))
theorem spec_GetSign.mono : ∀ a0 a1 k, LeO (spec_GetSign.f k a0 a1) (spec_GetSign.f (k + 1) a0 a1) := by
 intro a0 a1 k
 obtain ⟨ih0, ih1⟩ := spec_GetSign.mono_l k
 unfold spec_GetSign.f
 repeat' first
   | (with_reducible exact ih0 _ _ _)
   | (with_reducible exact ih1 _ _ _ _ _ _)
   | (with_reducible exact LeO.refl _)
   | (with_reducible exact LeO.none _)
   | (with_reducible refine LeO.ite ?_ ?_)
   | (with_reducible refine LeO.bind ?_ (fun _ => ?_))
set_option maxHeartbeats 8000000 in
set_option maxRecDepth 100000 in
theorem spec_GetSign.calls (k : Nat) (a0 : ByteArray) (a1 : Int) (r1 : Int) (r2 : Int) (w : World) (h : spec_GetSign.f k a0 a1 = some (r1, r2)) :
  Calls Try.prog 129 #[.string a0, .int .i64 a1] w fun e w' => e = .returned (.tuple #[.int .i64 r1, .int .i64 r2]) ∧ Drawn0 w w' := by
 have H : (if a1 < 0 then (spec_GetSign.j0 k a0 a1 true) else (spec_GetSign.j0 k a0 a1 (decide (a1 ≥ (a0.size : Int))))) = some (r1, r2) := h
 clear h
 have HC3 := Aside0.mk H
 clear H
 go_enter Try.func129, Try.ntmps129
 go_upto_region 1 with (fail)
 go_cut [17] (fun v17 wc => ∃ (kq : Nat) (x17_2 : Bool), v17 = .bool x17_2 ∧ Aside0 (spec_GetSign.j0 kq a0 a1 x17_2 = some (r1, r2)) ∧ Aside0 (kq ≤ k) ∧ Drawn0 w wc)
 case first =>
  have H := HC3.out
  clear HC3
  by_cases c4 : a1 < 0
  ·rw [if_pos c4] at H
   have c4b0 := decide_eq_true c4
   clear c4
   (first | rw [c4b0] | (simp only [i64_w, i32_w]; rw [c4b0]) | skip)
   (try (generalize hgzc4 : decide (a1 < 0) = bqc4 at *; subst c4b0; have c4b0 := hgzc4; clear hgzc4))
   have H' := Aside0.mk H
   clear H
   go_wp2
   go_meet
   case rel => exact ⟨_, (true), ab6, (by first | exact H' | (have h_ := H'.out; rw [c4b0] at h_; exact ⟨h_⟩)), ⟨by first | omega | exact Nat.le_refl _⟩, by repeat (first | exact Drawn0.refl _ | apply Drawn0.step)⟩
  ·rw [if_neg c4] at H
   have c4b0 := decide_eq_false c4
   clear c4
   (first | rw [c4b0] | (simp only [i64_w, i32_w]; rw [c4b0]) | skip)
   (try (generalize hgzc4 : decide (a1 < 0) = bqc4 at *; subst c4b0; have c4b0 := hgzc4; clear hgzc4))
   have H' := Aside0.mk H
   clear H
   go_wp2
   go_meet
   case rel => exact ⟨_, (decide (a1 ≥ (a0.size : Int))), ab6, (by first | exact H' | (have h_ := H'.out; rw [c4b0] at h_; exact ⟨h_⟩)), ⟨by first | omega | exact Nat.le_refl _⟩, by repeat (first | exact Drawn0.refl _ | apply Drawn0.step)⟩
 case rest =>
  clear HC3
  (try clear c1); (try clear p2); (try clear c4); (try clear c4b0)
  obtain ⟨kq, x17_2, rfl, HA, HJ2, ⟨mc2, rfl⟩⟩ := hcut
  cases kq with
  | zero => exact absurd HA.out (by simp [spec_GetSign.j0])
  | succ kj2 =>
   have H := HA.out
   clear HA
   simp only [spec_GetSign.j0] at H
   by_cases c5 : x17_2 = true
   ·subst c5
    rw [if_pos rfl] at H
    simp only [Option.some.injEq, Prod.mk.injEq] at H
    obtain ⟨rfl, rfl⟩ := H
    go_wp2
    go_ret2
    exact ⟨ab6, by repeat (first | exact Drawn0.refl _ | apply Drawn0.step)⟩
   ·replace c5 := Bool.eq_false_iff.mpr c5
    subst c5
    rw [if_neg (show ¬ (false = true) by decide)] at H
    by_cases c6 : 0 ≤ a1
    case neg => rw [if_neg c6] at H; exact absurd H (by simp)
    rw [if_pos c6] at H
    have c6b0 := decide_eq_true c6
    clear c6
    by_cases c7 : a1 < (a0.size : Int)
    case neg => rw [if_neg c7] at H; exact absurd H (by simp)
    rw [if_pos c7] at H
    have c7b0 := decide_eq_true c7
    clear c7
    replace H := Option.bind_eq_some_iff.mp H
    obtain ⟨t215, A90, H⟩ := H
    try dsimp only at H
    have A9 := Aside0.mk A90
    clear A90
    by_cases c10 : t215 < 2
    ·rw [if_pos c10] at H
     have c10b0 := decide_eq_true c10
     clear c10
     by_cases c11 : t215 = 1
     ·rw [if_pos c11] at H
      have c11b0 : (t215 == 1) = true := beq_iff_eq.mpr c11
      have c11b1 : (t215 != 1) = false := bne_eq_false_iff_eq.mpr c11
      clear c11
      simp only [Option.some.injEq, Prod.mk.injEq] at H
      obtain ⟨rfl, rfl⟩ := H
      have p8 : 0 ≤ (a1 : Int) := of_decide_eq_true ab4
      have q8 : a1 < (a0.size : Int) := of_decide_eq_true ab4
      have hx8 := bt_at a0 a1
      replace p8 := eq_true p8
      replace q8 := eq_true q8
      go_wp2_with (first | ((with_reducible refine gate_callee (f := 159) rfl ?_); refine goesL_ (some 23) rfl rfl Try.func159 (by kernel_rfl) rfl #[.int .i64 (wrap64 (bt a0 a1))] rfl ab5 ?_; (with_reducible refine (spec_l1Many.calls (wrap64 (bt a0 a1)) t215 _ A9.out).mono ?_); rintro e w' ⟨rfl, ⟨nd, rfl⟩⟩; refine ⟨_, rfl, ?_⟩))
      go_ret2
      exact ⟨ab6, by repeat (first | exact Drawn0.refl _ | apply Drawn0.step)⟩
     ·rw [if_neg c11] at H
      have c11b0 : (t215 == 1) = false := beq_eq_false_iff_ne.mpr c11
      have c11b1 : (t215 != 1) = true := bne_iff_ne.mpr c11
      simp only [Option.some.injEq, Prod.mk.injEq] at H
      obtain ⟨rfl, rfl⟩ := H
      have p8 : 0 ≤ (a1 : Int) := of_decide_eq_true ab4
      have q8 : a1 < (a0.size : Int) := of_decide_eq_true ab4
      have hx8 := bt_at a0 a1
      replace p8 := eq_true p8
      replace q8 := eq_true q8
      go_wp2_with (first | ((with_reducible refine gate_callee (f := 159) rfl ?_); refine goesL_ (some 23) rfl rfl Try.func159 (by kernel_rfl) rfl #[.int .i64 (wrap64 (bt a0 a1))] rfl ab5 ?_; (with_reducible refine (spec_l1Many.calls (wrap64 (bt a0 a1)) t215 _ A9.out).mono ?_); rintro e w' ⟨rfl, ⟨nd, rfl⟩⟩; refine ⟨_, rfl, ?_⟩))
      go_ret2
      exact ⟨ab6, by repeat (first | exact Drawn0.refl _ | apply Drawn0.step)⟩
    ·rw [if_neg c10] at H
     have c10b0 := decide_eq_false c10
     clear c10
     by_cases c12 : 0 ≤ t215
     case neg => rw [if_neg c12] at H; exact absurd H (by simp)
     rw [if_pos c12] at H
     have c12b0 := eq_true c12
     have c12b1 := decide_eq_true c12
     clear c12
     obtain ⟨ji13, hji13⟩ : ∃ j_ : Int, (shr .i64 127 t215) = j_ := ⟨_, rfl⟩
     replace H : (spec_GetSign.l0 kj2 a0 a1 (wrap64 (bt a0 a1)) t215 (Go.bits .and .i64 (wrap64 (bt a0 a1)) (ji13)) 1) = some (r1, r2) := by first | (rw [hji13] at H; exact H) | (simp only [hji13] at H ⊢; exact H)
     (try rw [hji13] at A9)
     have hji13_ : (127 / 2 ^ min t215.toNat 64) = ji13 := hji13
     have hji13z : t215 ≤ 64 → (127 / 2 ^ t215.toNat) = ji13 := shr_small hji13
     have H' := Aside0.mk H
     clear H
     have p8 : 0 ≤ (a1 : Int) := of_decide_eq_true ab4
     have q8 : a1 < (a0.size : Int) := of_decide_eq_true ab4
     have hx8 := bt_at a0 a1
     replace p8 := eq_true p8
     replace q8 := eq_true q8
     go_wp2_with (first | ((with_reducible refine gate_callee (f := 159) rfl ?_); refine goesL_ (some 23) rfl rfl Try.func159 (by kernel_rfl) rfl #[.int .i64 (wrap64 (bt a0 a1))] rfl ab5 ?_; (with_reducible refine (spec_l1Many.calls (wrap64 (bt a0 a1)) t215 _ A9.out).mono ?_); rintro e w' ⟨rfl, ⟨nd, rfl⟩⟩; refine ⟨_, rfl, ?_⟩))
     go_loopg [8, 9] kj2 (fun kq v8 v9 w' => ∃ (x8_2 : Int) (x9_2 : Int), v8 = .int .i64 x8_2 ∧ v9 = .int .i64 x9_2 ∧ Aside0 (spec_GetSign.l0 kq a0 a1 (wrap64 (bt a0 a1)) t215 x8_2 x9_2 = some (r1, r2)) ∧ Aside0 (kq ≤ kj2) ∧ Drawn0 w w')
     case atStart => exact ⟨(Go.bits .and .i64 (wrap64 (bt a0 a1)) (ji13)), (1), (by first | rfl | (simp; done) | (simp only [← hji13] <;> (first | rfl | simp)) | (simp [*]; done)), ab6, H', ⟨Nat.le_refl _⟩, by repeat (first | exact Drawn0.refl _ | apply Drawn0.step)⟩
     case round =>
      clear H'
      (try clear c1); (try clear c2); (try clear p2); (try clear c4); (try clear c4b0); (try clear c5); (try clear c6); (try clear c6b0); (try clear p6); (try clear c7); (try clear c7b0); (try clear p8); (try clear q8); (try clear hx8); (try clear c10); (try clear c10b0); (try clear c11); (try clear c11b0); (try clear c11b1); (try clear c12); (try clear c12b0); (try clear c12b1); (try clear p2); (try clear p8); (try clear q8)
      obtain ⟨x8_2, x9_2, rfl, rfl, HA, HK2, ⟨m2, rfl⟩⟩ := hrel
      cases gk with
      | zero => exact absurd HA.out (by simp [spec_GetSign.l0])
      | succ k2 =>
       have H := HA.out
       clear HA
       simp only [spec_GetSign.l0] at H
       by_cases c14 : x9_2 < t215
       ·rw [if_pos c14] at H
        have c14b0 := decide_eq_true c14
        clear c14
        by_cases c15 : (wrap64 (a1 + x9_2)) ≥ (a0.size : Int)
        ·rw [if_pos c15] at H
         have c15b0 : decide ((a0.size : Int) ≤ (wrap64 (a1 + x9_2))) = true := decide_eq_true c15
         clear c15
         simp only [Option.some.injEq, Prod.mk.injEq] at H
         obtain ⟨rfl, rfl⟩ := H
         go_wp2
         go_ret2
         exact ⟨by first | rfl | (simp; done) | (simp only [← hji13] <;> (first | rfl | simp)) | (simp [*]; done), by repeat (first | exact Drawn0.refl _ | apply Drawn0.step)⟩
        ·rw [if_neg c15] at H
         have c15b0 : decide ((a0.size : Int) ≤ (wrap64 (a1 + x9_2))) = false := decide_eq_false c15
         clear c15
         by_cases c16 : x9_2 = 1
         ·rw [if_pos c16] at H
          have c16b0 : (x9_2 == 1) = true := beq_iff_eq.mpr c16
          have c16b1 : (x9_2 != 1) = false := bne_eq_false_iff_eq.mpr c16
          clear c16
          obtain ⟨ji17, hji17⟩ : ∃ j_ : Int, (wrap64 (a1 + 1)) = j_ := ⟨_, rfl⟩
          replace H : (if 0 ≤ (ji17) then (if (ji17) < (a0.size : Int) then ((spec_l1Second.f (wrap64 (bt a0 a1)) (wrap64 (bt a0 (ji17)))).bind fun t216 => (if t216 = true then (if 0 ≤ (wrap64 (a1 + x9_2)) then (if (wrap64 (a1 + x9_2)) < (a0.size : Int) then ((spec_l1In.f (wrap64 (bt a0 (wrap64 (a1 + x9_2)))) 128 191).bind fun t217 => (if t217 = true then (spec_GetSign.l0 k2 a0 a1 (wrap64 (bt a0 a1)) t215 (wrap64 ((wrap64 (x8_2 * 64)) + (Go.bits .and .i64 (wrap64 (bt a0 (wrap64 (a1 + x9_2)))) 63))) (wrap64 (x9_2 + 1))) else (some (65533, x9_2)))) else (none)) else (none)) else (some (65533, x9_2)))) else (none)) else (none)) = some (r1, r2) := by first | (rw [hji17] at H; exact H) | (simp only [hji17] at H ⊢; exact H)
          have hji17w : (IntKind.i64.wrap (a1 + 1)) = ji17 := (i64_w _).trans hji17
          by_cases c18 : 0 ≤ (ji17)
          case neg => rw [if_neg c18] at H; exact absurd H (by simp)
          rw [if_pos c18] at H
          have c18b0 := decide_eq_true c18
          clear c18
          by_cases c19 : (ji17) < (a0.size : Int)
          case neg => rw [if_neg c19] at H; exact absurd H (by simp)
          rw [if_pos c19] at H
          have c19b0 := decide_eq_true c19
          clear c19
          replace H := Option.bind_eq_some_iff.mp H
          obtain ⟨t216, A210, H⟩ := H
          try dsimp only at H
          have A21 := Aside0.mk A210
          clear A210
          by_cases c22 : t216 = true
          ·subst c22
           rw [if_pos rfl] at H
           obtain ⟨ji23, hji23⟩ : ∃ j_ : Int, (wrap64 (a1 + x9_2)) = j_ := ⟨_, rfl⟩
           replace H : (if 0 ≤ (ji23) then (if (ji23) < (a0.size : Int) then ((spec_l1In.f (wrap64 (bt a0 (ji23))) 128 191).bind fun t217 => (if t217 = true then (spec_GetSign.l0 k2 a0 a1 (wrap64 (bt a0 a1)) t215 (wrap64 ((wrap64 (x8_2 * 64)) + (Go.bits .and .i64 (wrap64 (bt a0 (ji23))) 63))) (wrap64 (x9_2 + 1))) else (some (65533, x9_2)))) else (none)) else (none)) = some (r1, r2) := by first | (rw [hji23] at H; exact H) | (simp only [hji23] at H ⊢; exact H)
           (try rw [hji23] at c15b0)
           (try rw [hji23] at A21)
           have hji23w : (IntKind.i64.wrap (a1 + x9_2)) = ji23 := (i64_w _).trans hji23
           by_cases c24 : 0 ≤ (ji23)
           case neg => rw [if_neg c24] at H; exact absurd H (by simp)
           rw [if_pos c24] at H
           have c24b0 := decide_eq_true c24
           clear c24
           by_cases c25 : (ji23) < (a0.size : Int)
           case neg => rw [if_neg c25] at H; exact absurd H (by simp)
           rw [if_pos c25] at H
           have c25b0 := decide_eq_true c25
           clear c25
           replace H := Option.bind_eq_some_iff.mp H
           obtain ⟨t217, A270, H⟩ := H
           try dsimp only at H
           have A27 := Aside0.mk A270
           clear A270
           by_cases c28 : t217 = true
           ·subst c28
            rw [if_pos rfl] at H
            have H' := Aside0.mk H
            clear H
            have p20 : 0 ≤ ((ji17) : Int) := of_decide_eq_true ab4
            have q20 : (ji17) < (a0.size : Int) := of_decide_eq_true ab4
            have hx20 := bt_at a0 (ji17)
            replace p20 := eq_true p20
            replace q20 := eq_true q20
            go_wp2_with (first | (go_at_call 160; (with_reducible refine (spec_l1Second.calls (wrap64 (bt a0 a1)) (wrap64 (bt a0 (ji17))) true _ A21.out).mono ?_); rintro e w' ⟨rfl, ⟨nd, rfl⟩⟩; have p26 : 0 ≤ ((ji23) : Int) := of_decide_eq_true ab4; have q26 : (ji23) < (a0.size : Int) := of_decide_eq_true ab4; have hx26 := bt_at a0 (ji23); replace p26 := eq_true p26; replace q26 := eq_true q26) | (go_at_call 93; (with_reducible refine (spec_l1In.calls (wrap64 (bt a0 (ji23))) 128 191 true _ A27.out).mono ?_); rintro e w' ⟨rfl, ⟨nd, rfl⟩⟩; have p29 : 0 ≤ ((ji23) : Int) := of_decide_eq_true ab4; have q29 : (ji23) < (a0.size : Int) := of_decide_eq_true ab4; have hx29 := bt_at a0 (ji23); replace p29 := eq_true p29; replace q29 := eq_true q29))
            go_roundg k2
            case measure => have := HJ2.out; have := HK2.out; omega
            case rel => exact ⟨(wrap64 ((wrap64 (x8_2 * 64)) + (Go.bits .and .i64 (wrap64 (bt a0 (ji23))) 63))), (wrap64 (x9_2 + 1)), (by first | rfl | (simp; done) | (simp only [← hji23] <;> (first | rfl | simp)) | (simp [*]; done)), ab6, H', ⟨by have := HJ2.out; have := HK2.out; omega⟩, by repeat (first | exact Drawn0.refl _ | apply Drawn0.step)⟩
           ·replace c28 := Bool.eq_false_iff.mpr c28
            subst c28
            rw [if_neg (show ¬ (false = true) by decide)] at H
            simp only [Option.some.injEq, Prod.mk.injEq] at H
            obtain ⟨rfl, rfl⟩ := H
            have p20 : 0 ≤ ((ji17) : Int) := of_decide_eq_true ab4
            have q20 : (ji17) < (a0.size : Int) := of_decide_eq_true ab4
            have hx20 := bt_at a0 (ji17)
            replace p20 := eq_true p20
            replace q20 := eq_true q20
            go_wp2_with (first | (go_at_call 160; (with_reducible refine (spec_l1Second.calls (wrap64 (bt a0 a1)) (wrap64 (bt a0 (ji17))) true _ A21.out).mono ?_); rintro e w' ⟨rfl, ⟨nd, rfl⟩⟩; have p26 : 0 ≤ ((ji23) : Int) := of_decide_eq_true ab4; have q26 : (ji23) < (a0.size : Int) := of_decide_eq_true ab4; have hx26 := bt_at a0 (ji23); replace p26 := eq_true p26; replace q26 := eq_true q26) | (go_at_call 93; (with_reducible refine (spec_l1In.calls (wrap64 (bt a0 (ji23))) 128 191 false _ A27.out).mono ?_); rintro e w' ⟨rfl, ⟨nd, rfl⟩⟩))
            go_ret2
            exact ⟨by first | rfl | (simp; done) | (simp only [← hji13, ← hji17, ← hji23] <;> (first | rfl | simp)) | (simp [*]; done), by repeat (first | exact Drawn0.refl _ | apply Drawn0.step)⟩
          ·replace c22 := Bool.eq_false_iff.mpr c22
           subst c22
           rw [if_neg (show ¬ (false = true) by decide)] at H
           simp only [Option.some.injEq, Prod.mk.injEq] at H
           obtain ⟨rfl, rfl⟩ := H
           have p20 : 0 ≤ ((ji17) : Int) := of_decide_eq_true ab4
           have q20 : (ji17) < (a0.size : Int) := of_decide_eq_true ab4
           have hx20 := bt_at a0 (ji17)
           replace p20 := eq_true p20
           replace q20 := eq_true q20
           go_wp2_with (first | (go_at_call 160; (with_reducible refine (spec_l1Second.calls (wrap64 (bt a0 a1)) (wrap64 (bt a0 (ji17))) false _ A21.out).mono ?_); rintro e w' ⟨rfl, ⟨nd, rfl⟩⟩))
           go_ret2
           exact ⟨by first | rfl | (simp; done) | (simp only [← hji13, ← hji17] <;> (first | rfl | simp)) | (simp [*]; done), by repeat (first | exact Drawn0.refl _ | apply Drawn0.step)⟩
         ·rw [if_neg c16] at H
          have c16b0 : (x9_2 == 1) = false := beq_eq_false_iff_ne.mpr c16
          have c16b1 : (x9_2 != 1) = true := bne_iff_ne.mpr c16
          obtain ⟨ji30, hji30⟩ : ∃ j_ : Int, (wrap64 (a1 + x9_2)) = j_ := ⟨_, rfl⟩
          replace H : (if 0 ≤ (ji30) then (if (ji30) < (a0.size : Int) then ((spec_l1In.f (wrap64 (bt a0 (ji30))) 128 191).bind fun t218 => (if t218 = true then (spec_GetSign.l0 k2 a0 a1 (wrap64 (bt a0 a1)) t215 (wrap64 ((wrap64 (x8_2 * 64)) + (Go.bits .and .i64 (wrap64 (bt a0 (ji30))) 63))) (wrap64 (x9_2 + 1))) else (some (65533, x9_2)))) else (none)) else (none)) = some (r1, r2) := by first | (rw [hji30] at H; exact H) | (simp only [hji30] at H ⊢; exact H)
          (try rw [hji30] at c15b0)
          have hji30w : (IntKind.i64.wrap (a1 + x9_2)) = ji30 := (i64_w _).trans hji30
          by_cases c31 : 0 ≤ (ji30)
          case neg => rw [if_neg c31] at H; exact absurd H (by simp)
          rw [if_pos c31] at H
          have c31b0 := decide_eq_true c31
          clear c31
          by_cases c32 : (ji30) < (a0.size : Int)
          case neg => rw [if_neg c32] at H; exact absurd H (by simp)
          rw [if_pos c32] at H
          have c32b0 := decide_eq_true c32
          clear c32
          replace H := Option.bind_eq_some_iff.mp H
          obtain ⟨t218, A340, H⟩ := H
          try dsimp only at H
          have A34 := Aside0.mk A340
          clear A340
          by_cases c35 : t218 = true
          ·subst c35
           rw [if_pos rfl] at H
           have H' := Aside0.mk H
           clear H
           have p33 : 0 ≤ ((ji30) : Int) := of_decide_eq_true ab4
           have q33 : (ji30) < (a0.size : Int) := of_decide_eq_true ab4
           have hx33 := bt_at a0 (ji30)
           replace p33 := eq_true p33
           replace q33 := eq_true q33
           go_wp2_with (first | (go_at_call 93; (with_reducible refine (spec_l1In.calls (wrap64 (bt a0 (ji30))) 128 191 true _ A34.out).mono ?_); rintro e w' ⟨rfl, ⟨nd, rfl⟩⟩; have p36 : 0 ≤ ((ji30) : Int) := of_decide_eq_true ab4; have q36 : (ji30) < (a0.size : Int) := of_decide_eq_true ab4; have hx36 := bt_at a0 (ji30); replace p36 := eq_true p36; replace q36 := eq_true q36))
           go_roundg k2
           case measure => have := HJ2.out; have := HK2.out; omega
           case rel => exact ⟨(wrap64 ((wrap64 (x8_2 * 64)) + (Go.bits .and .i64 (wrap64 (bt a0 (ji30))) 63))), (wrap64 (x9_2 + 1)), (by first | rfl | (simp; done) | (simp only [← hji30] <;> (first | rfl | simp)) | (simp [*]; done)), ab6, H', ⟨by have := HJ2.out; have := HK2.out; omega⟩, by repeat (first | exact Drawn0.refl _ | apply Drawn0.step)⟩
          ·replace c35 := Bool.eq_false_iff.mpr c35
           subst c35
           rw [if_neg (show ¬ (false = true) by decide)] at H
           simp only [Option.some.injEq, Prod.mk.injEq] at H
           obtain ⟨rfl, rfl⟩ := H
           have p33 : 0 ≤ ((ji30) : Int) := of_decide_eq_true ab4
           have q33 : (ji30) < (a0.size : Int) := of_decide_eq_true ab4
           have hx33 := bt_at a0 (ji30)
           replace p33 := eq_true p33
           replace q33 := eq_true q33
           go_wp2_with (first | (go_at_call 93; (with_reducible refine (spec_l1In.calls (wrap64 (bt a0 (ji30))) 128 191 false _ A34.out).mono ?_); rintro e w' ⟨rfl, ⟨nd, rfl⟩⟩))
           go_ret2
           exact ⟨by first | rfl | (simp; done) | (simp only [← hji13, ← hji30] <;> (first | rfl | simp)) | (simp [*]; done), by repeat (first | exact Drawn0.refl _ | apply Drawn0.step)⟩
       ·rw [if_neg c14] at H
        have c14b0 := decide_eq_false c14
        clear c14
        simp only [Option.some.injEq, Prod.mk.injEq] at H
        obtain ⟨rfl, rfl⟩ := H
        go_wp2
        go_ret2
        exact ⟨by first | rfl | (simp; done) | (simp only [← hji13] <;> (first | rfl | simp)) | (simp [*]; done), by repeat (first | exact Drawn0.refl _ | apply Drawn0.step)⟩

/-! ### spec_Signs: function 69 -/
def spec_Signs.l0 : Nat → ByteArray → List Int → Int → Option (List Int)
 | 0, _, _, _ => none
 | k + 1, x0, x3, x4 => if x4 < (x0.size : Int) then ((spec_GetSign.f k x0 x4).bind fun bt222 => (if x3.length < 17592186044416 then (spec_Signs.l0 k x0 (x3 ++ [bt222.1]) (wrap64 (x4 + bt222.2))) else (none))) else (some x3)
def spec_Signs.f (k : Nat) (a0 : ByteArray) : Option (List Int) := spec_Signs.l0 k a0 (([] : List Int)) 0
theorem spec_Signs.mono_l : ∀ k, (∀ y0 y1 y2, LeO (spec_Signs.l0 k y0 y1 y2) (spec_Signs.l0 (k + 1) y0 y1 y2))
 | 0 => fun _ _ _ r h => by simp [spec_Signs.l0] at h
 | k + 1 => by
  have ih0 := spec_Signs.mono_l k
  ·intro y0 y1 y2
   unfold spec_Signs.l0
   repeat' first
   | (with_reducible exact ih0 _ _ _)
   | (with_reducible exact spec_GetSign.mono _ _ _)
   | (with_reducible exact LeO.refl _)
   | (with_reducible exact LeO.none _)
   | (with_reducible refine LeO.ite ?_ ?_)
   | (with_reducible refine LeO.bind ?_ (fun _ => ?_))
theorem spec_Signs.mono : ∀ a0 k, LeO (spec_Signs.f k a0) (spec_Signs.f (k + 1) a0) := by
 intro a0 k
 have ih0 := spec_Signs.mono_l k
 unfold spec_Signs.f
 repeat' first
   | (with_reducible exact ih0 _ _ _)
   | (with_reducible exact spec_GetSign.mono _ _ _)
   | (with_reducible exact LeO.refl _)
   | (with_reducible exact LeO.none _)
   | (with_reducible refine LeO.ite ?_ ?_)
   | (with_reducible refine LeO.bind ?_ (fun _ => ?_))
set_option maxHeartbeats 8000000 in
set_option maxRecDepth 100000 in
theorem spec_Signs.calls (k : Nat) (a0 : ByteArray) (r : List Int) (w : World) (h : spec_Signs.f k a0 = some r) :
  Calls Try.prog 69 #[.string a0] w fun e w' => ∃ v0_ : Value, e = .returned (v0_) ∧ Kd.R (Kd.int .i64) 3 w' w.heap.size (fun _ => True) v0_ r ∧ Below w.heap.size w w' := by
 have HB := Aside0.mk (Below.refl w.heap.size w)
 have H : (spec_Signs.l0 k a0 (([] : List Int)) 0) = some r := h
 clear h
 obtain ⟨y219, hy219⟩ : ∃ y_ : List Int, y_ = (([] : List Int)) := ⟨_, rfl⟩
 replace H : (spec_Signs.l0 k a0 y219 0) = some r := by first | (rw [hy219]; with_reducible exact H) | (have H2_ := (Option.bind_some _ _).symm.trans H; rw [hy219]; with_reducible exact H2_) | (have H2_ := (Option.bind_some _ _).symm.trans H; with_reducible exact H2_) | with_reducible exact H | (rw [hy219]; exact H) | exact H
 have Ny219 := Aside0.mk hy219
 clear hy219
 have H' := Aside0.mk H
 clear H
 go_enter Try.func69, Try.ntmps69
 go_wp2_with (first | ((with_reducible refine gate_dst (N := 7) rfl ?_); refine Kd.R_lit (Kd.int .i64) _ 3 ?hg (N := 7) ?hd (xs := ([] : List Int)) (inner := []) (ok := fun _ => True) (okp := fun _ => True) ?hr ?hp (fun _ hk => hk) trivial (Below.refl _ _) (Nat.le_refl _) (by simp) ?_; (case hd => rfl); (case hg => rfl); (case hr => first | (go_simp; done) | (go_simp; rfl)); (case hp => exact (Reps.none _ _)); intro v220 w2 ho3 hb hg_ hnew_; clear hg_ hnew_; (first | rw [← Ny219.out] at ho3 | (simp only [Int.reduceToNat] at ho3; rw [← Ny219.out] at ho3)); have n0_ := Aside0.mk (Kd.R_lower ho3 (below_size ab1)); have n1_ := Aside0.mk (below_step ab1 hb); clear HB; have HO221 := n0_; have HB := n1_; clear n0_ n1_; clear hb ho3))
 go_loopg [3, 4] k (fun kq v3 v4 w' => ∃ (x3_1 : List Int) (x4_1 : Int), v4 = .int .i64 x4_1 ∧ Aside0 (spec_Signs.l0 kq a0 x3_1 x4_1 = some r) ∧ Aside0 (kq ≤ k) ∧ Aside0 (Kd.R (Kd.int .i64) 3 w' w.heap.size (fun _ => True) v3 x3_1) ∧ Aside0 (Below w.heap.size w w'))
 case atStart => exact ⟨(y219), (0), ab6, H', ⟨Nat.le_refl _⟩, ⟨ab8 HO221⟩, ⟨ab1⟩⟩
 case round =>
  clear H'
  try clear p2
  obtain ⟨x3_1, x4_1, rfl, HA, HK1, HO_3, HB⟩ := hrel
  cases gk with
  | zero => exact absurd HA.out (by simp [spec_Signs.l0])
  | succ k1 =>
   have H := HA.out
   clear HA
   simp only [spec_Signs.l0] at H
   by_cases c4 : x4_1 < (a0.size : Int)
   ·rw [if_pos c4] at H
    have c4b0 := decide_eq_true c4
    clear c4
    replace H := Option.bind_eq_some_iff.mp H
    obtain ⟨⟨t222, t223⟩, A50, H⟩ := H
    try dsimp only at H
    have A5 := Aside0.mk A50
    clear A50
    by_cases c6 : x3_1.length < 17592186044416
    case neg => rw [if_neg c6] at H; exact absurd H (by simp)
    rw [if_pos c6] at H
    have LMc6 := Aside0.mk c6
    clear c6
    obtain ⟨y224, hy224⟩ : ∃ y_ : List Int, y_ = (x3_1 ++ [t222]) := ⟨_, rfl⟩
    replace H : (spec_Signs.l0 k1 a0 y224 (wrap64 (x4_1 + t223))) = some r := by first | (rw [hy224]; with_reducible exact H) | (have H2_ := (Option.bind_some _ _).symm.trans H; rw [hy224]; with_reducible exact H2_) | (have H2_ := (Option.bind_some _ _).symm.trans H; with_reducible exact H2_) | with_reducible exact H | (rw [hy224]; exact H) | exact H
    have Ny224 := Aside0.mk hy224
    clear hy224
    have H' := Aside0.mk H
    clear H
    go_wp2_with (first | ((with_reducible refine gate_callee (f := 129) rfl ?_); refine goesL_ (some 15) rfl rfl Try.func129 (by kernel_rfl) rfl #[.string a0, .int .i64 x4_1] rfl ab5 ?_; (with_reducible refine (spec_GetSign.calls k1 a0 x4_1 t222 t223 _ A5.out).mono ?_); rintro e w' ⟨rfl, ⟨nd, rfl⟩⟩; refine ⟨_, rfl, ?_⟩) | ((with_reducible refine gate_builtin (b := .append) (xs := #[.tmp 18, .tmp 20]) rfl ?_); at_builtin; refine Kd.R_append (Kd.int .i64) (w0 := w) w.heap.size rfl (.tmp 18) (.tmp 20) 68 3 (.int .i64 0) 8 rfl Try.underlying68 info3 rfl (by decide) (by omega) u3 x3_1 t222 [.int .i64 t222] (fun _ => True) (fun _ => False) rfl rfl ?aP (fun _ hk => hk.elim) ?aF ?aO ?aB ?aS ?aL ?_; (case aP => exact rfl); (case aB => exact ab1); (case aF => exact (fun _ _ => trivial)); (case aO => exact (ab8 HO_3)); (case aS => exact (below_size ab1)); (case aL => have := LMc6.out; omega); intro v225 w7 ho hb hg hat; rw [← Ny224.out] at ho; have n0_ := Aside0.mk (hb); have n1_ := Aside0.mk (ho); clear HB; clear HO_3; have HB := n0_; have HO226 := n1_; clear n0_ n1_; clear ho hb hg hat))
    go_roundg k1
    case measure => have := HK1.out; omega
    case rel => exact ⟨(y224), (wrap64 (x4_1 + t223)), ab6, H', ⟨by have := HK1.out; omega⟩, ⟨ab8 HO226⟩, ⟨ab1⟩⟩
   ·rw [if_neg c4] at H
    have c4b0 := decide_eq_false c4
    clear c4
    obtain rfl := Option.some.inj H
    go_wp2
    go_ret
    exact ⟨_, ab7, ab8 HO_3, ab1⟩

/-! ### spec_SignOk: function 131 -/
def spec_SignOk.f (a0 : Int) : Option (Bool) := (spec_l1In.f a0 0 1114111).bind fun t227 => (if t227 = true then ((spec_l1In.f a0 55296 57343).bind fun t228 => (some (!t228))) else (some false))
set_option maxHeartbeats 8000000 in
set_option maxRecDepth 100000 in
theorem spec_SignOk.calls (a0 : Int) (r : Bool) (w : World) (h : spec_SignOk.f a0 = some r) :
  Calls Try.prog 131 #[.int .i64 a0] w fun e w' => e = .returned (.bool r) ∧ Drawn0 w w' := by
 have H : ((spec_l1In.f a0 0 1114111).bind fun t227 => (if t227 = true then ((spec_l1In.f a0 55296 57343).bind fun t228 => (some (!t228))) else (some false))) = some r := h
 clear h
 replace H := Option.bind_eq_some_iff.mp H
 obtain ⟨t227, A20, H⟩ := H
 try dsimp only at H
 have A2 := Aside0.mk A20
 clear A20
 by_cases c3 : t227 = true
 ·subst c3
  rw [if_pos rfl] at H
  replace H := Option.bind_eq_some_iff.mp H
  obtain ⟨t228, A40, H⟩ := H
  try dsimp only at H
  have A4 := Aside0.mk A40
  clear A40
  obtain rfl := Option.some.inj H
  go_enter Try.func131, Try.ntmps131
  go_wp2_with (first | ((with_reducible refine gate_callee (f := 93) rfl ?_); refine goesL_ (some 4) rfl rfl Try.func93 (by kernel_rfl) rfl #[.int .i64 a0, .int .i64 0, .int .i64 1114111] rfl ab5 ?_; (with_reducible refine (spec_l1In.calls a0 0 1114111 true _ A2.out).mono ?_); rintro e w' ⟨rfl, ⟨nd, rfl⟩⟩; refine ⟨_, rfl, ?_⟩) | (go_at_call 93; (with_reducible refine (spec_l1In.calls a0 55296 57343 t228 _ A4.out).mono ?_); rintro e w' ⟨rfl, ⟨nd, rfl⟩⟩))
  go_ret
  exact ⟨ab6, by repeat (first | exact Drawn0.refl _ | apply Drawn0.step)⟩
 ·replace c3 := Bool.eq_false_iff.mpr c3
  subst c3
  rw [if_neg (show ¬ (false = true) by decide)] at H
  obtain rfl := Option.some.inj H
  go_enter Try.func131, Try.ntmps131
  go_wp2_with (first | ((with_reducible refine gate_callee (f := 93) rfl ?_); refine goesL_ (some 4) rfl rfl Try.func93 (by kernel_rfl) rfl #[.int .i64 a0, .int .i64 0, .int .i64 1114111] rfl ab5 ?_; (with_reducible refine (spec_l1In.calls a0 0 1114111 false _ A2.out).mono ?_); rintro e w' ⟨rfl, ⟨nd, rfl⟩⟩; refine ⟨_, rfl, ?_⟩))
  go_ret
  exact ⟨ab6, by repeat (first | exact Drawn0.refl _ | apply Drawn0.step)⟩

/-! ### spec_PutSign: function 72 -/
def spec_PutSign.j0 : Nat → Int → Option (ByteArray)
 | 0, _ => none
 | k + 1, x0 => if x0 < 128 then (some (strOfNums (([(x0) % 256] : List Int)))) else (if x0 < 2048 then (some (strOfNums (([(wrap64 (192 + (x0 / 64))) % 256, (wrap64 (128 + (Go.bits .and .i64 x0 63))) % 256] : List Int)))) else (if x0 < 65536 then (some (strOfNums (([(wrap64 (224 + (x0 / 4096))) % 256, (wrap64 (128 + (Go.bits .and .i64 (x0 / 64) 63))) % 256, (wrap64 (128 + (Go.bits .and .i64 x0 63))) % 256] : List Int)))) else (some (strOfNums (([(wrap64 (240 + (x0 / 262144))) % 256, (wrap64 (128 + (Go.bits .and .i64 (x0 / 4096) 63))) % 256, (wrap64 (128 + (Go.bits .and .i64 (x0 / 64) 63))) % 256, (wrap64 (128 + (Go.bits .and .i64 x0 63))) % 256] : List Int))))))
def spec_PutSign.f (k : Nat) (a0 : Int) : Option (ByteArray) := (spec_SignOk.f a0).bind fun t229 => (if t229 = true then (spec_PutSign.j0 k a0) else (spec_PutSign.j0 k 65533))
theorem spec_PutSign.mono_l : ∀ k, (∀ y0, LeO (spec_PutSign.j0 k y0) (spec_PutSign.j0 (k + 1) y0))
 | 0 => fun _ r h => by simp [spec_PutSign.j0] at h
 | k + 1 => by
  have ih0 := spec_PutSign.mono_l k
  ·intro y0
   unfold spec_PutSign.j0
   repeat' first
   | (with_reducible exact ih0 _)
   | (with_reducible exact LeO.refl _)
   | (with_reducible exact LeO.none _)
   | (with_reducible refine LeO.ite ?_ ?_)
   | (with_reducible refine LeO.bind ?_ (fun _ => ?_))
theorem spec_PutSign.mono : ∀ a0 k, LeO (spec_PutSign.f k a0) (spec_PutSign.f (k + 1) a0) := by
 intro a0 k
 have ih0 := spec_PutSign.mono_l k
 unfold spec_PutSign.f
 repeat' first
   | (with_reducible exact ih0 _)
   | (with_reducible exact LeO.refl _)
   | (with_reducible exact LeO.none _)
   | (with_reducible refine LeO.ite ?_ ?_)
   | (with_reducible refine LeO.bind ?_ (fun _ => ?_))
set_option maxHeartbeats 8000000 in
set_option maxRecDepth 100000 in
theorem spec_PutSign.calls (k : Nat) (a0 : Int) (r : ByteArray) (w : World) (h : spec_PutSign.f k a0 = some r) :
  Calls Try.prog 72 #[.int .i64 a0] w fun e w' => e = .returned (.string r) ∧ Below w.heap.size w w' := by
 have HB := Aside0.mk (Below.refl w.heap.size w)
 have H : ((spec_SignOk.f a0).bind fun t229 => (if t229 = true then (spec_PutSign.j0 k a0) else (spec_PutSign.j0 k 65533))) = some r := h
 clear h
 replace H := Option.bind_eq_some_iff.mp H
 obtain ⟨t229, A20, H⟩ := H
 try dsimp only at H
 have A2 := Aside0.mk A20
 clear A20
 have HC3 := Aside0.mk H
 clear H
 go_enter Try.func72, Try.ntmps72
 go_upto_if 5 with (first | ((with_reducible refine gate_callee (f := 131) rfl ?_); refine goesL_ (some 4) rfl rfl Try.func131 (by kernel_rfl) rfl #[.int .i64 a0] rfl ab5 ?_; (with_reducible refine (spec_SignOk.calls a0 t229 _ A2.out).mono ?_); rintro e w' ⟨rfl, ⟨nd, rfl⟩⟩; refine ⟨_, rfl, ?_⟩))
 (try simp only [Act.put, List.setIfInBounds_toArray, List.set_cons_zero, List.set_cons_succ])
 go_cut [0] (fun v0 wc => ∃ (kq : Nat) (x0_2 : Int), v0 = .int .i64 x0_2 ∧ Aside0 (spec_PutSign.j0 kq x0_2 = some r) ∧ Aside0 (kq ≤ k) ∧ Aside0 (Below w.heap.size w wc))
 case first =>
  have H := HC3.out
  clear HC3
  by_cases c4 : t229 = true
  ·subst c4
   rw [if_pos rfl] at H
   have H' := Aside0.mk H
   clear H
   go_wp2
   go_meet
   case rel => exact ⟨_, (a0), ab6, H', ⟨by first | omega | exact Nat.le_refl _⟩, ⟨ab1⟩⟩
  ·replace c4 := Bool.eq_false_iff.mpr c4
   subst c4
   rw [if_neg (show ¬ (false = true) by decide)] at H
   have H' := Aside0.mk H
   clear H
   go_wp2
   go_meet
   case rel => exact ⟨_, (65533), ab6, H', ⟨by first | omega | exact Nat.le_refl _⟩, ⟨ab1⟩⟩
 case rest =>
  clear HC3
  (try clear c1); (try clear p2); (try clear c4)
  obtain ⟨kq, x0_2, rfl, HA, HJ2, HB⟩ := hcut
  cases kq with
  | zero => exact absurd HA.out (by simp [spec_PutSign.j0])
  | succ kj2 =>
   have H := HA.out
   clear HA
   simp only [spec_PutSign.j0] at H
   by_cases c5 : x0_2 < 128
   ·rw [if_pos c5] at H
    have c5b0 := decide_eq_true c5
    clear c5
    obtain ⟨y230, hy230⟩ : ∃ y_ : List Int, y_ = (([(x0_2) % 256] : List Int)) := ⟨_, rfl⟩
    replace H : (some (strOfNums y230)) = some r := by first | (rw [hy230]; with_reducible exact H) | (have H2_ := (Option.bind_some _ _).symm.trans H; rw [hy230]; with_reducible exact H2_) | (have H2_ := (Option.bind_some _ _).symm.trans H; with_reducible exact H2_) | with_reducible exact H | (rw [hy230]; exact H) | exact H
    have Ny230 := Aside0.mk hy230
    clear hy230
    obtain rfl := Option.some.inj H
    go_wp2_with (first | ((with_reducible refine gate_dst (N := 11) rfl ?_); refine Kd.R_lit (Kd.int .u8) _ 5 ?hg (N := 11) ?hd (xs := ([(x0_2) % 256] : List Int)) (inner := [.int .u8 ((x0_2) % 256)]) (ok := fun _ => True) (okp := fun _ => True) ?hr ?hp (fun _ hk => hk) trivial (Below.refl _ _) (Nat.le_refl _) (by simp) ?_; (case hd => rfl); (case hg => rfl); (case hr => first | (go_simp; done) | (go_simp; rfl)); (case hp => exact (Reps.one (show Kd.M (Kd.int .u8) _ _ _ ((x0_2) % 256) [.int .u8 ((x0_2) % 256)] from rfl) (Reps.none _ _))); intro v231 w6 ho7 hb hg_ hnew_; clear hg_ hnew_; (first | rw [← Ny230.out] at ho7 | (simp only [Int.reduceToNat] at ho7; rw [← Ny230.out] at ho7)); have n0_ := Aside0.mk (Kd.R_lower ho7 (below_size ab1)); have n1_ := Aside0.mk (below_step ab1 hb); clear HB; have HO232 := n0_; have HB := n1_; clear n0_ n1_; clear hb ho7; have hcv8 := own_string (P := Try.prog) Try.underlying92 Try.underlying5 Try.underlying9 (Kd.own_of_R HO232.out)))
    go_ret
    exact ⟨ab7, ab1⟩
   ·rw [if_neg c5] at H
    have c5b0 := decide_eq_false c5
    clear c5
    by_cases c9 : x0_2 < 2048
    ·rw [if_pos c9] at H
     have c9b0 := decide_eq_true c9
     clear c9
     obtain ⟨y233, hy233⟩ : ∃ y_ : List Int, y_ = (([(wrap64 (192 + (x0_2 / 64))) % 256, (wrap64 (128 + (Go.bits .and .i64 x0_2 63))) % 256] : List Int)) := ⟨_, rfl⟩
     replace H : (some (strOfNums y233)) = some r := by first | (rw [hy233]; with_reducible exact H) | (have H2_ := (Option.bind_some _ _).symm.trans H; rw [hy233]; with_reducible exact H2_) | (have H2_ := (Option.bind_some _ _).symm.trans H; with_reducible exact H2_) | with_reducible exact H | (rw [hy233]; exact H) | exact H
     have Ny233 := Aside0.mk hy233
     clear hy233
     obtain rfl := Option.some.inj H
     go_wp2_with (first | ((with_reducible refine gate_dst (N := 24) rfl ?_); refine Kd.R_lit (Kd.int .u8) _ 5 ?hg (N := 24) ?hd (xs := ([(wrap64 (192 + (x0_2 / 64))) % 256, (wrap64 (128 + (Go.bits .and .i64 x0_2 63))) % 256] : List Int)) (inner := [.int .u8 ((wrap64 (192 + (x0_2 / 64))) % 256), .int .u8 ((wrap64 (128 + (Go.bits .and .i64 x0_2 63))) % 256)]) (ok := fun _ => True) (okp := fun _ => True) ?hr ?hp (fun _ hk => hk) trivial (Below.refl _ _) (Nat.le_refl _) (by simp) ?_; (case hd => rfl); (case hg => rfl); (case hr => first | (go_simp; done) | (go_simp; rfl)); (case hp => exact (Reps.one (show Kd.M (Kd.int .u8) _ _ _ ((wrap64 (192 + (x0_2 / 64))) % 256) [.int .u8 ((wrap64 (192 + (x0_2 / 64))) % 256)] from rfl) (Reps.one (show Kd.M (Kd.int .u8) _ _ _ ((wrap64 (128 + (Go.bits .and .i64 x0_2 63))) % 256) [.int .u8 ((wrap64 (128 + (Go.bits .and .i64 x0_2 63))) % 256)] from rfl) (Reps.none _ _)))); intro v234 w10 ho11 hb hg_ hnew_; clear hg_ hnew_; (first | rw [← Ny233.out] at ho11 | (simp only [Int.reduceToNat] at ho11; rw [← Ny233.out] at ho11)); have n0_ := Aside0.mk (Kd.R_lower ho11 (below_size ab1)); have n1_ := Aside0.mk (below_step ab1 hb); clear HB; have HO235 := n0_; have HB := n1_; clear n0_ n1_; clear hb ho11; have hcv12 := own_string (P := Try.prog) Try.underlying92 Try.underlying5 Try.underlying9 (Kd.own_of_R HO235.out)))
     go_ret
     exact ⟨ab7, ab1⟩
    ·rw [if_neg c9] at H
     have c9b0 := decide_eq_false c9
     clear c9
     by_cases c13 : x0_2 < 65536
     ·rw [if_pos c13] at H
      have c13b0 := decide_eq_true c13
      clear c13
      obtain ⟨y236, hy236⟩ : ∃ y_ : List Int, y_ = (([(wrap64 (224 + (x0_2 / 4096))) % 256, (wrap64 (128 + (Go.bits .and .i64 (x0_2 / 64) 63))) % 256, (wrap64 (128 + (Go.bits .and .i64 x0_2 63))) % 256] : List Int)) := ⟨_, rfl⟩
      replace H : (some (strOfNums y236)) = some r := by first | (rw [hy236]; with_reducible exact H) | (have H2_ := (Option.bind_some _ _).symm.trans H; rw [hy236]; with_reducible exact H2_) | (have H2_ := (Option.bind_some _ _).symm.trans H; with_reducible exact H2_) | with_reducible exact H | (rw [hy236]; exact H) | exact H
      have Ny236 := Aside0.mk hy236
      clear hy236
      obtain rfl := Option.some.inj H
      go_wp2_with (first | ((with_reducible refine gate_dst (N := 42) rfl ?_); refine Kd.R_lit (Kd.int .u8) _ 5 ?hg (N := 42) ?hd (xs := ([(wrap64 (224 + (x0_2 / 4096))) % 256, (wrap64 (128 + (Go.bits .and .i64 (x0_2 / 64) 63))) % 256, (wrap64 (128 + (Go.bits .and .i64 x0_2 63))) % 256] : List Int)) (inner := [.int .u8 ((wrap64 (224 + (x0_2 / 4096))) % 256), .int .u8 ((wrap64 (128 + (Go.bits .and .i64 (x0_2 / 64) 63))) % 256), .int .u8 ((wrap64 (128 + (Go.bits .and .i64 x0_2 63))) % 256)]) (ok := fun _ => True) (okp := fun _ => True) ?hr ?hp (fun _ hk => hk) trivial (Below.refl _ _) (Nat.le_refl _) (by simp) ?_; (case hd => rfl); (case hg => rfl); (case hr => first | (go_simp; done) | (go_simp; rfl)); (case hp => exact (Reps.one (show Kd.M (Kd.int .u8) _ _ _ ((wrap64 (224 + (x0_2 / 4096))) % 256) [.int .u8 ((wrap64 (224 + (x0_2 / 4096))) % 256)] from rfl) (Reps.one (show Kd.M (Kd.int .u8) _ _ _ ((wrap64 (128 + (Go.bits .and .i64 (x0_2 / 64) 63))) % 256) [.int .u8 ((wrap64 (128 + (Go.bits .and .i64 (x0_2 / 64) 63))) % 256)] from rfl) (Reps.one (show Kd.M (Kd.int .u8) _ _ _ ((wrap64 (128 + (Go.bits .and .i64 x0_2 63))) % 256) [.int .u8 ((wrap64 (128 + (Go.bits .and .i64 x0_2 63))) % 256)] from rfl) (Reps.none _ _))))); intro v237 w14 ho15 hb hg_ hnew_; clear hg_ hnew_; (first | rw [← Ny236.out] at ho15 | (simp only [Int.reduceToNat] at ho15; rw [← Ny236.out] at ho15)); have n0_ := Aside0.mk (Kd.R_lower ho15 (below_size ab1)); have n1_ := Aside0.mk (below_step ab1 hb); clear HB; have HO238 := n0_; have HB := n1_; clear n0_ n1_; clear hb ho15; have hcv16 := own_string (P := Try.prog) Try.underlying92 Try.underlying5 Try.underlying9 (Kd.own_of_R HO238.out)))
      go_ret
      exact ⟨ab7, ab1⟩
     ·rw [if_neg c13] at H
      have c13b0 := decide_eq_false c13
      clear c13
      obtain ⟨y239, hy239⟩ : ∃ y_ : List Int, y_ = (([(wrap64 (240 + (x0_2 / 262144))) % 256, (wrap64 (128 + (Go.bits .and .i64 (x0_2 / 4096) 63))) % 256, (wrap64 (128 + (Go.bits .and .i64 (x0_2 / 64) 63))) % 256, (wrap64 (128 + (Go.bits .and .i64 x0_2 63))) % 256] : List Int)) := ⟨_, rfl⟩
      replace H : (some (strOfNums y239)) = some r := by first | (rw [hy239]; with_reducible exact H) | (have H2_ := (Option.bind_some _ _).symm.trans H; rw [hy239]; with_reducible exact H2_) | (have H2_ := (Option.bind_some _ _).symm.trans H; with_reducible exact H2_) | with_reducible exact H | (rw [hy239]; exact H) | exact H
      have Ny239 := Aside0.mk hy239
      clear hy239
      obtain rfl := Option.some.inj H
      go_wp2_with (first | ((with_reducible refine gate_dst (N := 62) rfl ?_); refine Kd.R_lit (Kd.int .u8) _ 5 ?hg (N := 62) ?hd (xs := ([(wrap64 (240 + (x0_2 / 262144))) % 256, (wrap64 (128 + (Go.bits .and .i64 (x0_2 / 4096) 63))) % 256, (wrap64 (128 + (Go.bits .and .i64 (x0_2 / 64) 63))) % 256, (wrap64 (128 + (Go.bits .and .i64 x0_2 63))) % 256] : List Int)) (inner := [.int .u8 ((wrap64 (240 + (x0_2 / 262144))) % 256), .int .u8 ((wrap64 (128 + (Go.bits .and .i64 (x0_2 / 4096) 63))) % 256), .int .u8 ((wrap64 (128 + (Go.bits .and .i64 (x0_2 / 64) 63))) % 256), .int .u8 ((wrap64 (128 + (Go.bits .and .i64 x0_2 63))) % 256)]) (ok := fun _ => True) (okp := fun _ => True) ?hr ?hp (fun _ hk => hk) trivial (Below.refl _ _) (Nat.le_refl _) (by simp) ?_; (case hd => rfl); (case hg => rfl); (case hr => first | (go_simp; done) | (go_simp; rfl)); (case hp => exact (Reps.one (show Kd.M (Kd.int .u8) _ _ _ ((wrap64 (240 + (x0_2 / 262144))) % 256) [.int .u8 ((wrap64 (240 + (x0_2 / 262144))) % 256)] from rfl) (Reps.one (show Kd.M (Kd.int .u8) _ _ _ ((wrap64 (128 + (Go.bits .and .i64 (x0_2 / 4096) 63))) % 256) [.int .u8 ((wrap64 (128 + (Go.bits .and .i64 (x0_2 / 4096) 63))) % 256)] from rfl) (Reps.one (show Kd.M (Kd.int .u8) _ _ _ ((wrap64 (128 + (Go.bits .and .i64 (x0_2 / 64) 63))) % 256) [.int .u8 ((wrap64 (128 + (Go.bits .and .i64 (x0_2 / 64) 63))) % 256)] from rfl) (Reps.one (show Kd.M (Kd.int .u8) _ _ _ ((wrap64 (128 + (Go.bits .and .i64 x0_2 63))) % 256) [.int .u8 ((wrap64 (128 + (Go.bits .and .i64 x0_2 63))) % 256)] from rfl) (Reps.none _ _)))))); intro v240 w17 ho18 hb hg_ hnew_; clear hg_ hnew_; (first | rw [← Ny239.out] at ho18 | (simp only [Int.reduceToNat] at ho18; rw [← Ny239.out] at ho18)); have n0_ := Aside0.mk (Kd.R_lower ho18 (below_size ab1)); have n1_ := Aside0.mk (below_step ab1 hb); clear HB; have HO241 := n0_; have HB := n1_; clear n0_ n1_; clear hb ho18; have hcv19 := own_string (P := Try.prog) Try.underlying92 Try.underlying5 Try.underlying9 (Kd.own_of_R HO241.out)))
      go_ret
      exact ⟨ab7, ab1⟩

/-! ### spec_SignText: function 75 -/
def spec_SignText.l0 : Nat → List Int → List Int → Int → Option (ByteArray)
 | 0, _, _, _ => none
 | k + 1, x0, x3, x4 => if x4 < (x0.length : Int) then (if 0 ≤ x4 then ((spec_PutSign.f k (rd x0 x4)).bind fun t246 => (if x3.length + (bytesOf t246).length < 140737488355328 then (spec_SignText.l0 k x0 (x3 ++ (bytesOf t246)) (wrap64 (x4 + 1))) else (none))) else (none)) else (some (strOfNums x3))
def spec_SignText.f (k : Nat) (l0 : List Int) : Option (ByteArray) := spec_SignText.l0 k l0 (([] : List Int)) 0
theorem spec_SignText.mono_l : ∀ k, (∀ y0 y1 y2, LeO (spec_SignText.l0 k y0 y1 y2) (spec_SignText.l0 (k + 1) y0 y1 y2))
 | 0 => fun _ _ _ r h => by simp [spec_SignText.l0] at h
 | k + 1 => by
  have ih0 := spec_SignText.mono_l k
  ·intro y0 y1 y2
   unfold spec_SignText.l0
   repeat' first
   | (with_reducible exact ih0 _ _ _)
   | (with_reducible exact spec_PutSign.mono _ _)
   | (with_reducible exact LeO.refl _)
   | (with_reducible exact LeO.none _)
   | (with_reducible refine LeO.ite ?_ ?_)
   | (with_reducible refine LeO.bind ?_ (fun _ => ?_))
theorem spec_SignText.mono : ∀ a0 k, LeO (spec_SignText.f k a0) (spec_SignText.f (k + 1) a0) := by
 intro a0 k
 have ih0 := spec_SignText.mono_l k
 unfold spec_SignText.f
 repeat' first
   | (with_reducible exact ih0 _ _ _)
   | (with_reducible exact spec_PutSign.mono _ _)
   | (with_reducible exact LeO.refl _)
   | (with_reducible exact LeO.none _)
   | (with_reducible refine LeO.ite ?_ ?_)
   | (with_reducible refine LeO.bind ?_ (fun _ => ?_))
set_option maxHeartbeats 8000000 in
set_option maxRecDepth 100000 in
theorem spec_SignText.calls (k : Nat) (A0 : Option Addr) (c0 : Nat) (l0 : List Int) (r : ByteArray) (w : World) (hr0 : Kd.C (Kd.int .i64) w A0 l0.length l0) (hc0 : l0.length ≤ c0) (h : spec_SignText.f k l0 = some r) :
  Calls Try.prog 75 #[.slice A0 l0.length c0] w fun e w' => e = .returned (.string r) ∧ Below w.heap.size w w' := by
 have hconv9_92 := fun (s_ : ByteArray) (W_ : World) => Go.run_bytes_of_string (P := Try.prog) W_ 9 92 5 s_ Try.underlying9 Try.underlying92 Try.underlying5
 have HR0 := Aside0.mk hr0
 have HC0 := Aside0.mk hc0
 clear hr0 hc0
 have HB := Aside0.mk (Below.refl w.heap.size w)
 have H : (spec_SignText.l0 k l0 (([] : List Int)) 0) = some r := h
 clear h
 obtain ⟨y242, hy242⟩ : ∃ y_ : List Int, y_ = (([] : List Int)) := ⟨_, rfl⟩
 replace H : (spec_SignText.l0 k l0 y242 0) = some r := by first | (rw [hy242]; with_reducible exact H) | (have H2_ := (Option.bind_some _ _).symm.trans H; rw [hy242]; with_reducible exact H2_) | (have H2_ := (Option.bind_some _ _).symm.trans H; with_reducible exact H2_) | with_reducible exact H | (rw [hy242]; exact H) | exact H
 have Ny242 := Aside0.mk hy242
 clear hy242
 have H' := Aside0.mk H
 clear H
 go_enter Try.func75, Try.ntmps75
 go_wp2_with (first | ((with_reducible refine gate_dst (N := 5) rfl ?_); refine Kd.R_lit (Kd.int .u8) _ 5 ?hg (N := 5) ?hd (xs := ([] : List Int)) (inner := []) (ok := fun _ => True) (okp := fun _ => True) ?hr ?hp (fun _ hk => hk) trivial (Below.refl _ _) (Nat.le_refl _) (by simp) ?_; (case hd => rfl); (case hg => rfl); (case hr => first | (go_simp; done) | (go_simp; rfl)); (case hp => exact (Reps.none _ _)); intro v243 w2 ho3 hb hg_ hnew_; clear hg_ hnew_; (first | rw [← Ny242.out] at ho3 | (simp only [Int.reduceToNat] at ho3; rw [← Ny242.out] at ho3)); have n0_ := Aside0.mk (Kd.R_lower ho3 (below_size ab1)); have n1_ := Aside0.mk (below_step ab1 hb); clear HB; have HO244 := n0_; have HB := n1_; clear n0_ n1_; clear hb ho3))
 go_loopg [3, 4] k (fun kq v3 v4 w' => ∃ (x3_1 : List Int) (x4_1 : Int), v4 = .int .i64 x4_1 ∧ Aside0 (spec_SignText.l0 kq l0 x3_1 x4_1 = some r) ∧ Aside0 (kq ≤ k) ∧ Aside0 (Kd.R (Kd.int .u8) 5 w' w.heap.size (fun _ => True) v3 x3_1) ∧ Aside0 (Below w.heap.size w w'))
 case atStart => exact ⟨(y242), (0), ab6, H', ⟨Nat.le_refl _⟩, ⟨ab8 HO244⟩, ⟨ab1⟩⟩
 case round =>
  clear H'
  try clear p2
  obtain ⟨x3_1, x4_1, rfl, HA, HK1, HO_3, HB⟩ := hrel
  cases gk with
  | zero => exact absurd HA.out (by simp [spec_SignText.l0])
  | succ k1 =>
   have H := HA.out
   clear HA
   simp only [spec_SignText.l0] at H
   by_cases c4 : x4_1 < (l0.length : Int)
   ·rw [if_pos c4] at H
    have c4b0 := decide_eq_true c4
    clear c4
    by_cases c5 : 0 ≤ x4_1
    case neg => rw [if_neg c5] at H; exact absurd H (by simp)
    rw [if_pos c5] at H
    have c5b0 := decide_eq_true c5
    clear c5
    replace H := Option.bind_eq_some_iff.mp H
    obtain ⟨t246, A60, H⟩ := H
    try dsimp only at H
    have A6 := Aside0.mk A60
    clear A60
    by_cases c7 : x3_1.length + (bytesOf t246).length < 140737488355328
    case neg => rw [if_neg c7] at H; exact absurd H (by simp)
    rw [if_pos c7] at H
    have LMc7 := Aside0.mk c7
    clear c7
    obtain ⟨y248, hy248⟩ : ∃ y_ : List Int, y_ = (x3_1 ++ (bytesOf t246)) := ⟨_, rfl⟩
    replace H : (spec_SignText.l0 k1 l0 y248 (wrap64 (x4_1 + 1))) = some r := by first | (rw [hy248]; with_reducible exact H) | (have H2_ := (Option.bind_some _ _).symm.trans H; rw [hy248]; with_reducible exact H2_) | (have H2_ := (Option.bind_some _ _).symm.trans H; with_reducible exact H2_) | with_reducible exact H | (rw [hy248]; exact H) | exact H
    have Ny248 := Aside0.mk hy248
    clear hy248
    have H' := Aside0.mk H
    clear H
    have p245 : 0 ≤ (x4_1 : Int) := of_decide_eq_true ab4
    have q245 : x4_1 < (l0.length : Int) := of_decide_eq_true ab4
    obtain ⟨ad245, e245, hx245_0⟩ := Kd.at_int HR0.out x4_1 p245 q245
    cases e245
    replace hx245_0 := pw_cell_below HB.out hx245_0
    replace p245 := eq_true p245
    replace q245 := eq_true q245
    go_wp2_with (first | ((with_reducible refine gate_callee (f := 72) rfl ?_); refine goesL_ (some 17) rfl rfl Try.func72 (by kernel_rfl) rfl #[.int .i64 (rd l0 x4_1)] rfl ab5 ?_; (with_reducible refine (spec_PutSign.calls k1 (rd l0 x4_1) t246 _ A6.out).mono ?_); rintro e w8 ⟨rfl, hb⟩; refine ⟨_, rfl, ?_⟩; have n0_ := Aside0.mk (Kd.R_below (ab8 HO_3) hb); have n1_ := Aside0.mk (below_step ab1 hb); clear HO_3; clear HB; have HO_3 := n0_; have HB := n1_; clear n0_ n1_; (try clear hb); (try clear hb2); (try clear hk); (try clear hi)) | ((with_reducible refine gate_builtin (b := .append) (xs := #[.tmp 12, .tmp 18]) rfl ?_); at_builtin; refine Kd.R_append_rows (Kd.int .u8) (w0 := w) w.heap.size rfl (.tmp 12) (.tmp 18) 92 5 (.int .u8 0) 1 rfl Try.underlying92 info5 rfl (by decide) (by omega) u3 x3_1 (bytesOf t246) _ _ _ (fun _ => True) (fun _ => False) rfl rfl ?aO ?aR (fun _ _ h => h) (fun _ h => h.elim) ?aF ?aB ?aS ?aL ?_; (case aR => rw [show t246.size = (bytesOf t246).length from (Op.bytesOf_len t246)]; (with_reducible repeat (first | apply Kd.C_drew | apply Kd.C_drewN)); exact Op.C_conv _ _ _ _ _ (by have := LMc7.out; rw [← Op.bytesOf_len] at this; omega)); (case aB => exact ab1); (case aF => exact (fun _ _ => trivial)); (case aO => exact (ab8 HO_3)); (case aS => exact (below_size ab1)); (case aL => have := LMc7.out; have hlx_ := (Op.bytesOf_len t246); omega); intro v249 w9 ho hb hg hat; rw [← Ny248.out] at ho; have n0_ := Aside0.mk (hb); have n1_ := Aside0.mk (ho); clear HB; clear HO_3; have HB := n0_; have HO250 := n1_; clear n0_ n1_; clear ho hb hg hat))
    go_roundg k1
    case measure => have := HK1.out; omega
    case rel => exact ⟨(y248), (wrap64 (x4_1 + 1)), ab6, H', ⟨by have := HK1.out; omega⟩, ⟨ab8 HO250⟩, ⟨ab1⟩⟩
   ·rw [if_neg c4] at H
    have c4b0 := decide_eq_false c4
    clear c4
    obtain rfl := Option.some.inj H
    have hcv10 := own_string (P := Try.prog) Try.underlying92 Try.underlying5 Try.underlying9 (Kd.own_of_R HO_3.out)
    go_wp2
    go_ret
    exact ⟨ab7, ab1⟩

/-! ### spec_Clean: function 169 -/
def spec_Clean.f (k : Nat) (a0 : ByteArray) : Option (ByteArray) := (spec_Signs.f k a0).bind fun t251 => ((spec_SignText.f k t251).bind fun t254 => (some t254))
theorem spec_Clean.mono : ∀ a0 k, LeO (spec_Clean.f k a0) (spec_Clean.f (k + 1) a0) := by
 intro a0 k
 unfold spec_Clean.f
 repeat' first
   | (with_reducible exact spec_SignText.mono _ _)
   | (with_reducible exact spec_Signs.mono _ _)
   | (with_reducible exact LeO.refl _)
   | (with_reducible exact LeO.none _)
   | (with_reducible refine LeO.ite ?_ ?_)
   | (with_reducible refine LeO.bind ?_ (fun _ => ?_))
set_option maxHeartbeats 8000000 in
set_option maxRecDepth 100000 in
theorem spec_Clean.calls (k : Nat) (a0 : ByteArray) (r : ByteArray) (w : World) (h : spec_Clean.f k a0 = some r) :
  Calls Try.prog 169 #[.string a0] w fun e w' => e = .returned (.string r) ∧ Below w.heap.size w w' := by
 have HB := Aside0.mk (Below.refl w.heap.size w)
 have H : ((spec_Signs.f k a0).bind fun t251 => ((spec_SignText.f k t251).bind fun t254 => (some t254))) = some r := h
 clear h
 replace H := Option.bind_eq_some_iff.mp H
 obtain ⟨t251, A20, H⟩ := H
 try dsimp only at H
 have A2 := Aside0.mk A20
 clear A20
 replace H := Option.bind_eq_some_iff.mp H
 obtain ⟨t254, A30, H⟩ := H
 try dsimp only at H
 have A3 := Aside0.mk A30
 clear A30
 obtain rfl := Option.some.inj H
 go_enter Try.func169, Try.ntmps169
 go_wp2_with (first | ((with_reducible refine gate_callee (f := 69) rfl ?_); refine goesL_ (some 4) rfl rfl Try.func69 (by kernel_rfl) rfl #[.string a0] rfl ab5 ?_; (with_reducible refine (spec_Signs.calls k a0 t251 _ A2.out).mono ?_); rintro e w4 ⟨v252, rfl, ho0, hb⟩; refine ⟨_, rfl, ?_⟩; have n0_ := Aside0.mk (Kd.R_lower ho0 (below_size ab1)); have n1_ := Aside0.mk (below_step ab1 hb); clear HB; have HO253 := n0_; have HB := n1_; clear n0_ n1_; (try clear hb); (try clear hb2); (try clear hk); (try clear hi); (try clear ho0); obtain ⟨Ao5, co5, eo5⟩ := Kd.R_slice HO253.out; subst eo5) | ((with_reducible refine gate_callee (f := 75) rfl ?_); refine goesL_ (some 5) rfl rfl Try.func75 (by kernel_rfl) rfl #[.slice Ao5 t251.length co5] rfl ab5 ?_; (with_reducible refine (spec_SignText.calls k _ _ t251 t254 _ ?side1 ?side2 A3.out).mono ?_); (case side1 => repeat (first | exact (Kd.R_reads' HO253.out).2.2 | (with_reducible refine Kd.C_alloc ?_ _) | (with_reducible refine Kd.C_drewN ?_ _) | (with_reducible refine Kd.C_drew ?_))); (case side2 => exact (Kd.R_reads' HO253.out).2.1); rintro e w6 ⟨rfl, hb⟩; refine ⟨_, rfl, ?_⟩; have n0_ := Aside0.mk (Kd.R_below (ab8 HO253) hb); have n1_ := Aside0.mk (below_step ab1 hb); clear HO253; clear HB; have HO253 := n0_; have HB := n1_; clear n0_ n1_; (try clear hb); (try clear hb2); (try clear hk); (try clear hi)))
 go_ret
 exact ⟨ab7, ab1⟩

/-! ### spec_CleanOk: function 150 -/
def spec_CleanOk.f (k : Nat) (a0 : ByteArray) : Option (Bool) := (spec_Clean.f k a0).bind fun t255 => (some (t255.toList == a0.toList))
theorem spec_CleanOk.mono : ∀ a0 k, LeO (spec_CleanOk.f k a0) (spec_CleanOk.f (k + 1) a0) := by
 intro a0 k
 unfold spec_CleanOk.f
 repeat' first
   | (with_reducible exact spec_Clean.mono _ _)
   | (with_reducible exact LeO.refl _)
   | (with_reducible exact LeO.none _)
   | (with_reducible refine LeO.ite ?_ ?_)
   | (with_reducible refine LeO.bind ?_ (fun _ => ?_))
set_option maxHeartbeats 8000000 in
set_option maxRecDepth 100000 in
theorem spec_CleanOk.calls (k : Nat) (a0 : ByteArray) (r : Bool) (w : World) (h : spec_CleanOk.f k a0 = some r) :
  Calls Try.prog 150 #[.string a0] w fun e w' => e = .returned (.bool r) ∧ Below w.heap.size w w' := by
 have HB := Aside0.mk (Below.refl w.heap.size w)
 have H : ((spec_Clean.f k a0).bind fun t255 => (some (t255.toList == a0.toList))) = some r := h
 clear h
 replace H := Option.bind_eq_some_iff.mp H
 obtain ⟨t255, A20, H⟩ := H
 try dsimp only at H
 have A2 := Aside0.mk A20
 clear A20
 obtain rfl := Option.some.inj H
 go_enter Try.func150, Try.ntmps150
 go_wp2_with (first | ((with_reducible refine gate_callee (f := 169) rfl ?_); refine goesL_ (some 4) rfl rfl Try.func169 (by kernel_rfl) rfl #[.string a0] rfl ab5 ?_; (with_reducible refine (spec_Clean.calls k a0 t255 _ A2.out).mono ?_); rintro e w3 ⟨rfl, hb⟩; refine ⟨_, rfl, ?_⟩; have n0_ := Aside0.mk (below_step ab1 hb); clear HB; have HB := n0_; clear n0_; (try clear hb); (try clear hb2); (try clear hk); (try clear hi)))
 go_ret
 exact ⟨ab7, ab1⟩

end Go.Proofs.Ytaomfbbbdddlmaa.P
