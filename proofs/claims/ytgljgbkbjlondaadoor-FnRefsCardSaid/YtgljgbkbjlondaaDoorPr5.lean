-- WRITTEN BY hprint.py, this session's own program, over the kit's printer: not typed by hand; Lean checks it
import Derived.Test.YtgljgbkbjlondaaDoorPr0
import Derived.Test.YtgljgbkbjlondaaDoorPr3
import Derived.Test.YtgljgbkbjlondaaDoorPr4
namespace Go.Proofs.YtgljgbkbjlondaaDoor.P
open Go.RowKit Go.Proofs.YtgljgbkbjlondaaDoorW.PrintWords Go.Proofs.YtgljgbkbjlondaaDoorW.PrintLast Go.Proofs.YtgljgbkbjlondaaDoorW.PrintMore
attribute [local go_sem] max2_int min2_int max_two min_two max_three min_three max_four min_four   -- for this text's walks alone
set_option linter.unusedVariables false
set_option linter.unusedSimpArgs false

/-! ### impl_withEnd: function 60 -/
def impl_withEnd.f (a0 : ByteArray) (a1 : Int) : Option (Int) := if a1 < (a0.size : Int) then (if 0 ≤ a1 then (if (bt a0 a1) = 59 then (some (wrap64 (a1 + 1))) else (some a1)) else (none)) else (some a1)
set_option maxHeartbeats 8000000 in
set_option maxRecDepth 100000 in
theorem impl_withEnd.calls (a0 : ByteArray) (a1 : Int) (r : Int) (w : World) (h : impl_withEnd.f a0 a1 = some r) :
  Calls Tryd.prog 60 #[.string a0, .int .i64 a1] w fun e w' => e = .returned (.int .i64 r) ∧ Drawn0 w w' := by
 have H : (if a1 < (a0.size : Int) then (if 0 ≤ a1 then (if (bt a0 a1) = 59 then (some (wrap64 (a1 + 1))) else (some a1)) else (none)) else (some a1)) = some r := h
 clear h
 by_cases c3 : a1 < (a0.size : Int)
 ·rw [if_pos c3] at H
  have c3b0 := decide_eq_true c3
  clear c3
  by_cases c4 : 0 ≤ a1
  case neg => rw [if_neg c4] at H; exact absurd H (by simp)
  rw [if_pos c4] at H
  have c4b0 := decide_eq_true c4
  clear c4
  by_cases c6 : (bt a0 a1) = 59
  ·rw [if_pos c6] at H
   have c6b0 : ((bt a0 a1) == 59) = true := beq_iff_eq.mpr c6
   have c6b1 : ((bt a0 a1) != 59) = false := bne_eq_false_iff_eq.mpr c6
   clear c6
   obtain rfl := Option.some.inj H
   have p5 : 0 ≤ (a1 : Int) := of_decide_eq_true ab4
   have q5 : a1 < (a0.size : Int) := of_decide_eq_true ab4
   have hx5 := bt_at a0 a1
   replace p5 := eq_true p5
   replace q5 := eq_true q5
   go_enter Tryd.func60, Tryd.ntmps60
   go_wp2
   go_ret
   exact ⟨ab6, by repeat (first | exact Drawn0.refl _ | apply Drawn0.step)⟩
  ·rw [if_neg c6] at H
   have c6b0 : ((bt a0 a1) == 59) = false := beq_eq_false_iff_ne.mpr c6
   have c6b1 : ((bt a0 a1) != 59) = true := bne_iff_ne.mpr c6
   obtain rfl := Option.some.inj H
   have p5 : 0 ≤ (a1 : Int) := of_decide_eq_true ab4
   have q5 : a1 < (a0.size : Int) := of_decide_eq_true ab4
   have hx5 := bt_at a0 a1
   replace p5 := eq_true p5
   replace q5 := eq_true q5
   go_enter Tryd.func60, Tryd.ntmps60
   go_wp2
   go_ret
   exact ⟨ab6, by repeat (first | exact Drawn0.refl _ | apply Drawn0.step)⟩
 ·rw [if_neg c3] at H
  have c3b0 := decide_eq_false c3
  clear c3
  obtain rfl := Option.some.inj H
  go_enter Tryd.func60, Tryd.ntmps60
  go_wp2
  go_ret
  exact ⟨ab6, by repeat (first | exact Drawn0.refl _ | apply Drawn0.step)⟩

/-! ### impl_digitOf: function 93 -/
mutual
def impl_digitOf.j0 : Nat → Int → Int → Int → Bool → Option (Int)
 | 0, _, _, _, _ => none
 | k + 1, x0, x1, x5, x6 => if x6 = true then (if ((x0 - 48) % 256) ≥ x1 then (some (-1)) else (some ((x0 - 48) % 256))) else (if x0 ≥ 97 then (impl_digitOf.j1 k x0 x1 x5 (decide (x0 ≤ 102))) else (impl_digitOf.j1 k x0 x1 x5 false))
def impl_digitOf.j1 : Nat → Int → Int → Int → Bool → Option (Int)
 | 0, _, _, _, _ => none
 | k + 1, x0, x1, x5, x16 => if x16 = true then (if (((x0 - 97) % 256) + 10) ≥ x1 then (some (-1)) else (some (((x0 - 97) % 256) + 10))) else (if x0 ≥ 65 then (impl_digitOf.j2 k x0 x1 x5 (decide (x0 ≤ 70))) else (impl_digitOf.j2 k x0 x1 x5 false))
def impl_digitOf.j2 : Nat → Int → Int → Int → Bool → Option (Int)
 | 0, _, _, _, _ => none
 | k + 1, x0, x1, x5, x27 => if x27 = true then (if (((x0 - 65) % 256) + 10) ≥ x1 then (some (-1)) else (some (((x0 - 65) % 256) + 10))) else (if x5 ≥ x1 then (some (-1)) else (some x5))
end
def impl_digitOf.f (k : Nat) (a0 : Int) (a1 : Int) : Option (Int) := if a0 ≥ 48 then (impl_digitOf.j0 k a0 a1 (-1) (decide (a0 ≤ 57))) else (impl_digitOf.j0 k a0 a1 (-1) false)
theorem impl_digitOf.mono_l : ∀ k, (∀ y0 y1 y2 y3, LeO (impl_digitOf.j0 k y0 y1 y2 y3) (impl_digitOf.j0 (k + 1) y0 y1 y2 y3)) ∧ (∀ y0 y1 y2 y3, LeO (impl_digitOf.j1 k y0 y1 y2 y3) (impl_digitOf.j1 (k + 1) y0 y1 y2 y3)) ∧ (∀ y0 y1 y2 y3, LeO (impl_digitOf.j2 k y0 y1 y2 y3) (impl_digitOf.j2 (k + 1) y0 y1 y2 y3))
 | 0 => ⟨fun _ _ _ _ r h => by simp [impl_digitOf.j0] at h, fun _ _ _ _ r h => by simp [impl_digitOf.j1] at h, fun _ _ _ _ r h => by simp [impl_digitOf.j2] at h⟩
 | k + 1 => by
  obtain ⟨ih0, ih1, ih2⟩ := impl_digitOf.mono_l k
  refine ⟨?_, ?_, ?_⟩
  ·intro y0 y1 y2 y3
   unfold impl_digitOf.j0
   repeat' first
   | (with_reducible exact ih0 _ _ _ _)
   | (with_reducible exact ih1 _ _ _ _)
   | (with_reducible exact ih2 _ _ _ _)
   | (with_reducible exact LeO.refl _)
   | (with_reducible exact LeO.none _)
   | (with_reducible refine LeO.ite ?_ ?_)
   | (with_reducible refine LeO.bind ?_ (fun _ => ?_))
  ·intro y0 y1 y2 y3
   unfold impl_digitOf.j1
   repeat' first
   | (with_reducible exact ih0 _ _ _ _)
   | (with_reducible exact ih1 _ _ _ _)
   | (with_reducible exact ih2 _ _ _ _)
   | (with_reducible exact LeO.refl _)
   | (with_reducible exact LeO.none _)
   | (with_reducible refine LeO.ite ?_ ?_)
   | (with_reducible refine LeO.bind ?_ (fun _ => ?_))
  ·intro y0 y1 y2 y3
   unfold impl_digitOf.j2
   repeat' first
   | (with_reducible exact ih0 _ _ _ _)
   | (with_reducible exact ih1 _ _ _ _)
   | (with_reducible exact ih2 _ _ _ _)
   | (with_reducible exact LeO.refl _)
   | (with_reducible exact LeO.none _)
   | (with_reducible refine LeO.ite ?_ ?_)
   | (with_reducible refine LeO.bind ?_ (fun _ => ?_))
theorem impl_digitOf.mono : ∀ a0 a1 k, LeO (impl_digitOf.f k a0 a1) (impl_digitOf.f (k + 1) a0 a1) := by
 intro a0 a1 k
 obtain ⟨ih0, ih1, ih2⟩ := impl_digitOf.mono_l k
 unfold impl_digitOf.f
 repeat' first
   | (with_reducible exact ih0 _ _ _ _)
   | (with_reducible exact ih1 _ _ _ _)
   | (with_reducible exact ih2 _ _ _ _)
   | (with_reducible exact LeO.refl _)
   | (with_reducible exact LeO.none _)
   | (with_reducible refine LeO.ite ?_ ?_)
   | (with_reducible refine LeO.bind ?_ (fun _ => ?_))
set_option maxHeartbeats 8000000 in
set_option maxRecDepth 100000 in
theorem impl_digitOf.calls (k : Nat) (a0 : Int) (a1 : Int) (r : Int) (w : World) (h : impl_digitOf.f k a0 a1 = some r) :
  Calls Tryd.prog 93 #[.int .u8 a0, .int .i64 a1] w fun e w' => e = .returned (.int .i64 r) ∧ Drawn0 w w' := by
 have H : (if a0 ≥ 48 then (impl_digitOf.j0 k a0 a1 (-1) (decide (a0 ≤ 57))) else (impl_digitOf.j0 k a0 a1 (-1) false)) = some r := h
 clear h
 have HC3 := Aside0.mk H
 clear H
 go_enter Tryd.func93, Tryd.ntmps93
 go_upto_region 2 with (fail)
 go_cut [6] (fun v6 wc => ∃ (kq : Nat) (x6_2 : Bool), v6 = .bool x6_2 ∧ Aside0 (impl_digitOf.j0 kq a0 a1 (-1) x6_2 = some r) ∧ Aside0 (kq ≤ k) ∧ Drawn0 w wc)
 case first =>
  have H := HC3.out
  clear HC3
  by_cases c4 : a0 ≥ 48
  ·rw [if_pos c4] at H
   have c4b0 : decide (48 ≤ a0) = true := decide_eq_true c4
   clear c4
   (first | rw [c4b0] | (simp only [i64_w, i32_w]; rw [c4b0]) | skip)
   (try (generalize hgzc4 : decide (48 ≤ a0) = bqc4 at *; subst c4b0; have c4b0 := hgzc4; clear hgzc4))
   have H' := Aside0.mk H
   clear H
   go_wp2
   go_meet
   case rel => exact ⟨_, (decide (a0 ≤ 57)), ab6, (by first | exact H' | (have h_ := H'.out; rw [c4b0] at h_; exact ⟨h_⟩)), ⟨by first | omega | exact Nat.le_refl _⟩, by repeat (first | exact Drawn0.refl _ | apply Drawn0.step)⟩
  ·rw [if_neg c4] at H
   have c4b0 : decide (48 ≤ a0) = false := decide_eq_false c4
   clear c4
   (first | rw [c4b0] | (simp only [i64_w, i32_w]; rw [c4b0]) | skip)
   (try (generalize hgzc4 : decide (48 ≤ a0) = bqc4 at *; subst c4b0; have c4b0 := hgzc4; clear hgzc4))
   have H' := Aside0.mk H
   clear H
   go_wp2
   go_meet
   case rel => exact ⟨_, (false), ab6, (by first | exact H' | (have h_ := H'.out; rw [c4b0] at h_; exact ⟨h_⟩)), ⟨by first | omega | exact Nat.le_refl _⟩, by repeat (first | exact Drawn0.refl _ | apply Drawn0.step)⟩
 case rest =>
  clear HC3
  (try clear p2); (try clear c4); (try clear c4b0)
  obtain ⟨kq, x6_2, rfl, HA, HJ2, ⟨mc2, rfl⟩⟩ := hcut
  cases kq with
  | zero => exact absurd HA.out (by simp [impl_digitOf.j0])
  | succ kj2 =>
   have H := HA.out
   clear HA
   simp only [impl_digitOf.j0] at H
   by_cases c5 : x6_2 = true
   ·subst c5
    rw [if_pos rfl] at H
    by_cases c6 : ((a0 - 48) % 256) ≥ a1
    ·rw [if_pos c6] at H
     have c6b0 : decide (a1 ≤ ((a0 - 48) % 256)) = true := decide_eq_true c6
     clear c6
     obtain rfl := Option.some.inj H
     go_wp2
     go_ret
     exact ⟨ab6, by repeat (first | exact Drawn0.refl _ | apply Drawn0.step)⟩
    ·rw [if_neg c6] at H
     have c6b0 : decide (a1 ≤ ((a0 - 48) % 256)) = false := decide_eq_false c6
     clear c6
     obtain rfl := Option.some.inj H
     go_wp2
     go_ret
     exact ⟨ab6, by repeat (first | exact Drawn0.refl _ | apply Drawn0.step)⟩
   ·replace c5 := Bool.eq_false_iff.mpr c5
    subst c5
    rw [if_neg (show ¬ (false = true) by decide)] at H
    have HC7 := Aside0.mk H
    clear H
    go_upto_region 4 with (fail)
    go_cut [16] (fun v16 wc => ∃ (kq : Nat) (x16_6 : Bool), v16 = .bool x16_6 ∧ Aside0 (impl_digitOf.j1 kq a0 a1 (-1) x16_6 = some r) ∧ Aside0 (kq ≤ kj2) ∧ Drawn0 w wc)
    case first =>
     have H := HC7.out
     clear HC7
     by_cases c8 : a0 ≥ 97
     ·rw [if_pos c8] at H
      have c8b0 : decide (97 ≤ a0) = true := decide_eq_true c8
      clear c8
      (first | rw [c8b0] | (simp only [i64_w, i32_w]; rw [c8b0]) | skip)
      (try (generalize hgzc8 : decide (97 ≤ a0) = bqc8 at *; subst c8b0; have c8b0 := hgzc8; clear hgzc8))
      have H' := Aside0.mk H
      clear H
      go_wp2
      go_meet
      case rel => exact ⟨_, (decide (a0 ≤ 102)), ab6, (by first | exact H' | (have h_ := H'.out; rw [c8b0] at h_; exact ⟨h_⟩)), ⟨by have := HJ2.out; first | omega | exact Nat.le_refl _⟩, by repeat (first | exact Drawn0.refl _ | apply Drawn0.step)⟩
     ·rw [if_neg c8] at H
      have c8b0 : decide (97 ≤ a0) = false := decide_eq_false c8
      clear c8
      (first | rw [c8b0] | (simp only [i64_w, i32_w]; rw [c8b0]) | skip)
      (try (generalize hgzc8 : decide (97 ≤ a0) = bqc8 at *; subst c8b0; have c8b0 := hgzc8; clear hgzc8))
      have H' := Aside0.mk H
      clear H
      go_wp2
      go_meet
      case rel => exact ⟨_, (false), ab6, (by first | exact H' | (have h_ := H'.out; rw [c8b0] at h_; exact ⟨h_⟩)), ⟨by have := HJ2.out; first | omega | exact Nat.le_refl _⟩, by repeat (first | exact Drawn0.refl _ | apply Drawn0.step)⟩
    case rest =>
     clear HC7
     (try clear c2); (try clear p2); (try clear c4); (try clear c4b0); (try clear c5); (try clear c6); (try clear c6b0); (try clear c8); (try clear c8b0); (try clear p2)
     obtain ⟨kq, x16_6, rfl, HA, HJ6, ⟨mc6, rfl⟩⟩ := hcut
     cases kq with
     | zero => exact absurd HA.out (by simp [impl_digitOf.j1])
     | succ kj6 =>
      have H := HA.out
      clear HA
      simp only [impl_digitOf.j1] at H
      by_cases c9 : x16_6 = true
      ·subst c9
       rw [if_pos rfl] at H
       by_cases c10 : (((a0 - 97) % 256) + 10) ≥ a1
       ·rw [if_pos c10] at H
        have c10b0 : decide (a1 ≤ (((a0 - 97) % 256) + 10)) = true := decide_eq_true c10
        clear c10
        obtain rfl := Option.some.inj H
        go_wp2
        go_ret
        exact ⟨ab6, by repeat (first | exact Drawn0.refl _ | apply Drawn0.step)⟩
       ·rw [if_neg c10] at H
        have c10b0 : decide (a1 ≤ (((a0 - 97) % 256) + 10)) = false := decide_eq_false c10
        clear c10
        obtain rfl := Option.some.inj H
        go_wp2
        go_ret
        exact ⟨ab6, by repeat (first | exact Drawn0.refl _ | apply Drawn0.step)⟩
      ·replace c9 := Bool.eq_false_iff.mpr c9
       subst c9
       rw [if_neg (show ¬ (false = true) by decide)] at H
       have HC11 := Aside0.mk H
       clear H
       go_upto_region 6 with (fail)
       go_cut [27] (fun v27 wc => ∃ (kq : Nat) (x27_10 : Bool), v27 = .bool x27_10 ∧ Aside0 (impl_digitOf.j2 kq a0 a1 (-1) x27_10 = some r) ∧ Aside0 (kq ≤ kj6) ∧ Drawn0 w wc)
       case first =>
        have H := HC11.out
        clear HC11
        by_cases c12 : a0 ≥ 65
        ·rw [if_pos c12] at H
         have c12b0 : decide (65 ≤ a0) = true := decide_eq_true c12
         clear c12
         (first | rw [c12b0] | (simp only [i64_w, i32_w]; rw [c12b0]) | skip)
         (try (generalize hgzc12 : decide (65 ≤ a0) = bqc12 at *; subst c12b0; have c12b0 := hgzc12; clear hgzc12))
         have H' := Aside0.mk H
         clear H
         go_wp2
         go_meet
         case rel => exact ⟨_, (decide (a0 ≤ 70)), ab6, (by first | exact H' | (have h_ := H'.out; rw [c12b0] at h_; exact ⟨h_⟩)), ⟨by have := HJ2.out; have := HJ6.out; first | omega | exact Nat.le_refl _⟩, by repeat (first | exact Drawn0.refl _ | apply Drawn0.step)⟩
        ·rw [if_neg c12] at H
         have c12b0 : decide (65 ≤ a0) = false := decide_eq_false c12
         clear c12
         (first | rw [c12b0] | (simp only [i64_w, i32_w]; rw [c12b0]) | skip)
         (try (generalize hgzc12 : decide (65 ≤ a0) = bqc12 at *; subst c12b0; have c12b0 := hgzc12; clear hgzc12))
         have H' := Aside0.mk H
         clear H
         go_wp2
         go_meet
         case rel => exact ⟨_, (false), ab6, (by first | exact H' | (have h_ := H'.out; rw [c12b0] at h_; exact ⟨h_⟩)), ⟨by have := HJ2.out; have := HJ6.out; first | omega | exact Nat.le_refl _⟩, by repeat (first | exact Drawn0.refl _ | apply Drawn0.step)⟩
       case rest =>
        clear HC11
        (try clear c1); (try clear c2); (try clear p2); (try clear c4); (try clear c4b0); (try clear c5); (try clear c6); (try clear c6b0); (try clear c8); (try clear c8b0); (try clear c9); (try clear c10); (try clear c10b0); (try clear c12); (try clear c12b0); (try clear p2)
        obtain ⟨kq, x27_10, rfl, HA, HJ10, ⟨mc10, rfl⟩⟩ := hcut
        cases kq with
        | zero => exact absurd HA.out (by simp [impl_digitOf.j2])
        | succ kj10 =>
         have H := HA.out
         clear HA
         simp only [impl_digitOf.j2] at H
         by_cases c13 : x27_10 = true
         ·subst c13
          rw [if_pos rfl] at H
          by_cases c14 : (((a0 - 65) % 256) + 10) ≥ a1
          ·rw [if_pos c14] at H
           have c14b0 : decide (a1 ≤ (((a0 - 65) % 256) + 10)) = true := decide_eq_true c14
           clear c14
           obtain rfl := Option.some.inj H
           go_wp2
           go_ret
           exact ⟨ab6, by repeat (first | exact Drawn0.refl _ | apply Drawn0.step)⟩
          ·rw [if_neg c14] at H
           have c14b0 : decide (a1 ≤ (((a0 - 65) % 256) + 10)) = false := decide_eq_false c14
           clear c14
           obtain rfl := Option.some.inj H
           go_wp2
           go_ret
           exact ⟨ab6, by repeat (first | exact Drawn0.refl _ | apply Drawn0.step)⟩
         ·replace c13 := Bool.eq_false_iff.mpr c13
          subst c13
          rw [if_neg (show ¬ (false = true) by decide)] at H
          by_cases c15 : (-1) ≥ a1
          ·rw [if_pos c15] at H
           have c15b0 : decide (a1 ≤ (-1)) = true := decide_eq_true c15
           clear c15
           obtain rfl := Option.some.inj H
           go_wp2
           go_ret
           exact ⟨ab6, by repeat (first | exact Drawn0.refl _ | apply Drawn0.step)⟩
          ·rw [if_neg c15] at H
           have c15b0 : decide (a1 ≤ (-1)) = false := decide_eq_false c15
           clear c15
           obtain rfl := Option.some.inj H
           go_wp2
           go_ret
           exact ⟨ab6, by repeat (first | exact Drawn0.refl _ | apply Drawn0.step)⟩

/-! ### impl_numberRef: function 59 -/
mutual
def impl_numberRef.j0 : Nat → ByteArray → Int → Int → Int → Bool → Option (ByteArray × Int)
 | 0, _, _, _, _, _ => none
 | k + 1, x0, x1, x6, x7, x27 => if x27 = true then (impl_numberRef.j1 k x0 x1 (wrap64 (x6 + 1)) 16) else (impl_numberRef.j1 k x0 x1 x6 x7)
def impl_numberRef.j1 : Nat → ByteArray → Int → Int → Int → Option (ByteArray × Int)
 | 0, _, _, _, _ => none
 | k + 1, x0, x1, x6, x7 => impl_numberRef.l0 k x0 x1 x6 x7 0 x6
def impl_numberRef.j3 : Nat → ByteArray → Int → Int → Int → Int → Option (ByteArray × Int)
 | 0, _, _, _, _, _ => none
 | k + 1, x0, x1, x6, x8, x9 => if x9 = x6 then (some ((⟨#[]⟩ : ByteArray), 0)) else ((impl_Numbered.f x8).bind fun t173 => ((impl_PutSign.f k t173).bind fun t174 => ((impl_withEnd.f x0 x9).bind fun t175 => (some (t174, wrap64 (t175 - x1))))))
def impl_numberRef.l0 : Nat → ByteArray → Int → Int → Int → Int → Int → Option (ByteArray × Int)
 | 0, _, _, _, _, _, _ => none
 | k + 1, x0, x1, x6, x7, x8, x9 => if x9 < (x0.size : Int) then (if 0 ≤ x9 then ((impl_digitOf.f k (bt x0 x9) x7).bind fun t171 => (if t171 ≥ 0 then ((impl_digitOf.f k (bt x0 x9) x7).bind fun t172 => (impl_numberRef.l0 k x0 x1 x6 x7 (mn (wrap64 ((wrap64 (x8 * x7)) + t172)) 1114112) (wrap64 (x9 + 1)))) else (impl_numberRef.j3 k x0 x1 x6 x8 x9))) else (none)) else (impl_numberRef.j3 k x0 x1 x6 x8 x9)
end
def impl_numberRef.f (k : Nat) (a0 : ByteArray) (a1 : Int) : Option (ByteArray × Int) := if (wrap64 (a1 + 2)) < (a0.size : Int) then (if 0 ≤ (wrap64 (a1 + 2)) then (if (bt a0 (wrap64 (a1 + 2))) = 120 then (impl_numberRef.j0 k a0 a1 (wrap64 (a1 + 2)) 10 true) else (impl_numberRef.j0 k a0 a1 (wrap64 (a1 + 2)) 10 ((bt a0 (wrap64 (a1 + 2))) == 88))) else (none)) else (impl_numberRef.j0 k a0 a1 (wrap64 (a1 + 2)) 10 false)
theorem impl_numberRef.mono_l : ∀ k, (∀ y0 y1 y2 y3 y4, LeO (impl_numberRef.j0 k y0 y1 y2 y3 y4) (impl_numberRef.j0 (k + 1) y0 y1 y2 y3 y4)) ∧ (∀ y0 y1 y2 y3, LeO (impl_numberRef.j1 k y0 y1 y2 y3) (impl_numberRef.j1 (k + 1) y0 y1 y2 y3)) ∧ (∀ y0 y1 y2 y3 y4, LeO (impl_numberRef.j3 k y0 y1 y2 y3 y4) (impl_numberRef.j3 (k + 1) y0 y1 y2 y3 y4)) ∧ (∀ y0 y1 y2 y3 y4 y5, LeO (impl_numberRef.l0 k y0 y1 y2 y3 y4 y5) (impl_numberRef.l0 (k + 1) y0 y1 y2 y3 y4 y5))
 | 0 => ⟨fun _ _ _ _ _ r h => by simp [impl_numberRef.j0] at h, fun _ _ _ _ r h => by simp [impl_numberRef.j1] at h, fun _ _ _ _ _ r h => by simp [impl_numberRef.j3] at h, fun _ _ _ _ _ _ r h => by simp [impl_numberRef.l0] at h⟩
 | k + 1 => by
  obtain ⟨ih0, ih1, ih2, ih3⟩ := impl_numberRef.mono_l k
  refine ⟨?_, ?_, ?_, ?_⟩
  ·intro y0 y1 y2 y3 y4
   unfold impl_numberRef.j0
   repeat' first
   | (with_reducible exact ih0 _ _ _ _ _)
   | (with_reducible exact ih1 _ _ _ _)
   | (with_reducible exact ih2 _ _ _ _ _)
   | (with_reducible exact ih3 _ _ _ _ _ _)
   | (with_reducible exact impl_PutSign.mono _ _)
   | (with_reducible exact impl_digitOf.mono _ _ _)
   | (with_reducible exact LeO.refl _)
   | (with_reducible exact LeO.none _)
   | (with_reducible refine LeO.ite ?_ ?_)
   | (with_reducible refine LeO.bind ?_ (fun _ => ?_))
  ·intro y0 y1 y2 y3
   unfold impl_numberRef.j1
   repeat' first
   | (with_reducible exact ih0 _ _ _ _ _)
   | (with_reducible exact ih1 _ _ _ _)
   | (with_reducible exact ih2 _ _ _ _ _)
   | (with_reducible exact ih3 _ _ _ _ _ _)
   | (with_reducible exact impl_PutSign.mono _ _)
   | (with_reducible exact impl_digitOf.mono _ _ _)
   | (with_reducible exact LeO.refl _)
   | (with_reducible exact LeO.none _)
   | (with_reducible refine LeO.ite ?_ ?_)
   | (with_reducible refine LeO.bind ?_ (fun _ => ?_))
  ·intro y0 y1 y2 y3 y4
   unfold impl_numberRef.j3
   repeat' first
   | (with_reducible exact ih0 _ _ _ _ _)
   | (with_reducible exact ih1 _ _ _ _)
   | (with_reducible exact ih2 _ _ _ _ _)
   | (with_reducible exact ih3 _ _ _ _ _ _)
   | (with_reducible exact impl_PutSign.mono _ _)
   | (with_reducible exact impl_digitOf.mono _ _ _)
   | (with_reducible exact LeO.refl _)
   | (with_reducible exact LeO.none _)
   | (with_reducible refine LeO.ite ?_ ?_)
   | (with_reducible refine LeO.bind ?_ (fun _ => ?_))
  ·intro y0 y1 y2 y3 y4 y5
   unfold impl_numberRef.l0
   repeat' first
   | (with_reducible exact ih0 _ _ _ _ _)
   | (with_reducible exact ih1 _ _ _ _)
   | (with_reducible exact ih2 _ _ _ _ _)
   | (with_reducible exact ih3 _ _ _ _ _ _)
   | (with_reducible exact impl_PutSign.mono _ _)
   | (with_reducible exact impl_digitOf.mono _ _ _)
   | (with_reducible exact LeO.refl _)
   | (with_reducible exact LeO.none _)
   | (with_reducible refine LeO.ite ?_ ?_)
   | (with_reducible refine LeO.bind ?_ (fun _ => ?_))
theorem impl_numberRef.mono : ∀ a0 a1 k, LeO (impl_numberRef.f k a0 a1) (impl_numberRef.f (k + 1) a0 a1) := by
 intro a0 a1 k
 obtain ⟨ih0, ih1, ih2, ih3⟩ := impl_numberRef.mono_l k
 unfold impl_numberRef.f
 repeat' first
   | (with_reducible exact ih0 _ _ _ _ _)
   | (with_reducible exact ih1 _ _ _ _)
   | (with_reducible exact ih2 _ _ _ _ _)
   | (with_reducible exact ih3 _ _ _ _ _ _)
   | (with_reducible exact impl_PutSign.mono _ _)
   | (with_reducible exact impl_digitOf.mono _ _ _)
   | (with_reducible exact LeO.refl _)
   | (with_reducible exact LeO.none _)
   | (with_reducible refine LeO.ite ?_ ?_)
   | (with_reducible refine LeO.bind ?_ (fun _ => ?_))
set_option maxHeartbeats 8000000 in
set_option maxRecDepth 100000 in
theorem impl_numberRef.calls (k : Nat) (a0 : ByteArray) (a1 : Int) (r1 : ByteArray) (r2 : Int) (w : World) (h : impl_numberRef.f k a0 a1 = some (r1, r2)) :
  Calls Tryd.prog 59 #[.string a0, .int .i64 a1] w fun e w' => e = .returned (.tuple #[.string r1, .int .i64 r2]) ∧ Below w.heap.size w w' := by
 have HB := Aside0.mk (Below.refl w.heap.size w)
 have H : (if (wrap64 (a1 + 2)) < (a0.size : Int) then (if 0 ≤ (wrap64 (a1 + 2)) then (if (bt a0 (wrap64 (a1 + 2))) = 120 then (impl_numberRef.j0 k a0 a1 (wrap64 (a1 + 2)) 10 true) else (impl_numberRef.j0 k a0 a1 (wrap64 (a1 + 2)) 10 ((bt a0 (wrap64 (a1 + 2))) == 88))) else (none)) else (impl_numberRef.j0 k a0 a1 (wrap64 (a1 + 2)) 10 false)) = some (r1, r2) := h
 clear h
 have HC3 := Aside0.mk H
 clear H
 go_enter Tryd.func59, Tryd.ntmps59
 go_upto_region 2 with (fail)
 go_cut [27] (fun v27 wc => ∃ (kq : Nat) (x27_2 : Bool), v27 = .bool x27_2 ∧ Aside0 (impl_numberRef.j0 kq a0 a1 (wrap64 (a1 + 2)) 10 x27_2 = some (r1, r2)) ∧ Aside0 (kq ≤ k) ∧ Aside0 (Below w.heap.size w wc))
 case first =>
  have H := HC3.out
  clear HC3
  by_cases c4 : (wrap64 (a1 + 2)) < (a0.size : Int)
  ·rw [if_pos c4] at H
   have c4b0 := decide_eq_true c4
   clear c4
   (first | rw [c4b0] | (simp only [i64_w, i32_w]; rw [c4b0]) | skip)
   (try (generalize hgzc4 : decide ((wrap64 (a1 + 2)) < (a0.size : Int)) = bqc4 at *; subst c4b0; have c4b0 := hgzc4; clear hgzc4))
   obtain ⟨ji5, hji5⟩ : ∃ j_ : Int, (wrap64 (a1 + 2)) = j_ := ⟨_, rfl⟩
   replace H : (if 0 ≤ (ji5) then (if (bt a0 (ji5)) = 120 then (impl_numberRef.j0 k a0 a1 ji5 10 true) else (impl_numberRef.j0 k a0 a1 ji5 10 ((bt a0 (ji5)) == 88))) else (none)) = some (r1, r2) := by first | (rw [hji5] at H; exact H) | (simp only [hji5] at H ⊢; exact H)
   (try rw [hji5] at c4b0)
   have hji5w : (IntKind.i64.wrap (a1 + 2)) = ji5 := (i64_w _).trans hji5
   by_cases c6 : 0 ≤ (ji5)
   case neg => rw [if_neg c6] at H; exact absurd H (by simp)
   rw [if_pos c6] at H
   have c6b0 := decide_eq_true c6
   clear c6
   by_cases c8 : (bt a0 (ji5)) = 120
   ·rw [if_pos c8] at H
    have c8b0 : ((bt a0 (ji5)) == 120) = true := beq_iff_eq.mpr c8
    have c8b1 : ((bt a0 (ji5)) != 120) = false := bne_eq_false_iff_eq.mpr c8
    clear c8
    have H' := Aside0.mk H
    clear H
    have p7 : 0 ≤ ((ji5) : Int) := of_decide_eq_true ab4
    have q7 : (ji5) < (a0.size : Int) := of_decide_eq_true ab4
    have hx7 := bt_at a0 (ji5)
    replace p7 := eq_true p7
    replace q7 := eq_true q7
    go_wp2
    first | go_meet | (subst hji20; go_meet) | (subst hji5; go_meet)
    case rel => exact ⟨_, (true), ab6, (by first | exact H' | (rw [hji20]; exact H') | (rw [hji5]; exact H') | (have h_ := H'.out; rw [c4b0] at h_; exact ⟨h_⟩)), ⟨by first | omega | exact Nat.le_refl _⟩, ⟨ab1⟩⟩
   ·rw [if_neg c8] at H
    have c8b0 : ((bt a0 (ji5)) == 120) = false := beq_eq_false_iff_ne.mpr c8
    have c8b1 : ((bt a0 (ji5)) != 120) = true := bne_iff_ne.mpr c8
    have H' := Aside0.mk H
    clear H
    have p7 : 0 ≤ ((ji5) : Int) := of_decide_eq_true ab4
    have q7 : (ji5) < (a0.size : Int) := of_decide_eq_true ab4
    have hx7 := bt_at a0 (ji5)
    replace p7 := eq_true p7
    replace q7 := eq_true q7
    have p9 : 0 ≤ ((ji5) : Int) := of_decide_eq_true ab4
    have q9 : (ji5) < (a0.size : Int) := of_decide_eq_true ab4
    have hx9 := bt_at a0 (ji5)
    replace p9 := eq_true p9
    replace q9 := eq_true q9
    go_wp2
    first | go_meet | (subst hji20; go_meet) | (subst hji5; go_meet)
    case rel => exact ⟨_, (((bt a0 (ji5)) == 88)), (by first | rfl | (simp; done) | (simp only [← hji5] <;> (first | rfl | simp)) | (simp [*]; done)), (by first | exact H' | (rw [hji20]; exact H') | (rw [hji5]; exact H') | (have h_ := H'.out; rw [c4b0] at h_; exact ⟨h_⟩)), ⟨by first | omega | exact Nat.le_refl _⟩, ⟨ab1⟩⟩
  ·rw [if_neg c4] at H
   have c4b0 := decide_eq_false c4
   clear c4
   (first | rw [c4b0] | (simp only [i64_w, i32_w]; rw [c4b0]) | skip)
   (try (generalize hgzc4 : decide ((wrap64 (a1 + 2)) < (a0.size : Int)) = bqc4 at *; subst c4b0; have c4b0 := hgzc4; clear hgzc4))
   have H' := Aside0.mk H
   clear H
   go_wp2
   first | go_meet | (subst hji20; go_meet) | (subst hji5; go_meet)
   case rel => exact ⟨_, (false), ab6, (by first | exact H' | (rw [hji20]; exact H') | (rw [hji5]; exact H') | (have h_ := H'.out; rw [c4b0] at h_; exact ⟨h_⟩)), ⟨by first | omega | exact Nat.le_refl _⟩, ⟨ab1⟩⟩
 case rest =>
  clear HC3
  (try clear p2); (try clear c4); (try clear c4b0); (try clear c5); (try clear c6); (try clear c6b0); (try clear p6); (try clear p7); (try clear q7); (try clear hx7); (try clear c8); (try clear c8b0); (try clear c8b1); (try clear p9); (try clear q9); (try clear hx9); (try clear p7); (try clear p9); (try clear q7); (try clear q9)
  obtain ⟨kq, x27_2, rfl, HA, HJ2, HB⟩ := hcut
  cases kq with
  | zero => exact absurd HA.out (by simp [impl_numberRef.j0])
  | succ kj2 =>
   have H := HA.out
   clear HA
   simp only [impl_numberRef.j0] at H
   have HC10 := Aside0.mk H
   clear H
   go_upto_if 27 with (fail)
   go_cut [6, 7] (fun v6 v7 wc => ∃ (kq : Nat) (x6_9 : Int) (x7_9 : Int), v6 = .int .i64 x6_9 ∧ v7 = .int .i64 x7_9 ∧ Aside0 (impl_numberRef.j1 kq a0 a1 x6_9 x7_9 = some (r1, r2)) ∧ Aside0 (kq ≤ kj2) ∧ Aside0 (Below w.heap.size w wc))
   case first =>
    have H := HC10.out
    clear HC10
    by_cases c11 : x27_2 = true
    ·subst c11
     rw [if_pos rfl] at H
     have H' := Aside0.mk H
     clear H
     go_wp2
     first | go_meet | (subst hji20; go_meet) | (subst hji5; go_meet)
     case rel => exact ⟨_, (wrap64 ((wrap64 (a1 + 2)) + 1)), (16), ab6, ab6, H', ⟨by have := HJ2.out; first | omega | exact Nat.le_refl _⟩, ⟨ab1⟩⟩
    ·replace c11 := Bool.eq_false_iff.mpr c11
     subst c11
     rw [if_neg (show ¬ (false = true) by decide)] at H
     have H' := Aside0.mk H
     clear H
     go_wp2
     first | go_meet | (subst hji20; go_meet) | (subst hji5; go_meet)
     case rel => exact ⟨_, ((wrap64 (a1 + 2))), (10), ab6, ab6, H', ⟨by have := HJ2.out; first | omega | exact Nat.le_refl _⟩, ⟨ab1⟩⟩
   case rest =>
    clear HC10
    (try clear c1); (try clear p2); (try clear c4); (try clear c4b0); (try clear c5); (try clear c6); (try clear c6b0); (try clear p6); (try clear p7); (try clear q7); (try clear hx7); (try clear c8); (try clear c8b0); (try clear c8b1); (try clear p9); (try clear q9); (try clear hx9); (try clear c11); (try clear p2); (try clear p6); (try clear p7); (try clear p9); (try clear q7); (try clear q9)
    obtain ⟨kq, x6_9, x7_9, rfl, rfl, HA, HJ9, HB⟩ := hcut
    cases kq with
    | zero => exact absurd HA.out (by simp [impl_numberRef.j1])
    | succ kj9 =>
     have H := HA.out
     clear HA
     simp only [impl_numberRef.j1] at H
     have HC12 := Aside0.mk H
     clear H
     go_upto_block 0 with (fail)
     go_cut [8, 9] (fun v8 v9 wc => ∃ (kq : Nat) (x8_11 : Int) (x9_11 : Int), v8 = .int .i64 x8_11 ∧ v9 = .int .i64 x9_11 ∧ Aside0 (impl_numberRef.j3 kq a0 a1 x6_9 x8_11 x9_11 = some (r1, r2)) ∧ Aside0 (kq ≤ kj9) ∧ Aside0 (Below w.heap.size w wc))
     case first =>
      have H := HC12.out
      clear HC12
      have H' := Aside0.mk H
      clear H
      go_wp2
      go_loopg [8, 9] kj9 (fun kq v8 v9 w' => ∃ (x8_3 : Int) (x9_3 : Int), v8 = .int .i64 x8_3 ∧ v9 = .int .i64 x9_3 ∧ Aside0 (impl_numberRef.l0 kq a0 a1 x6_9 x7_9 x8_3 x9_3 = some (r1, r2)) ∧ Aside0 (kq ≤ kj9) ∧ Aside0 (Below w.heap.size w w'))
      case atStart => exact ⟨(0), (x6_9), ab6, ab6, H', ⟨Nat.le_refl _⟩, ⟨ab1⟩⟩
      case round =>
       clear H'
       (try clear c1); (try clear p2); (try clear c4); (try clear c4b0); (try clear c5); (try clear c6); (try clear c6b0); (try clear p6); (try clear p7); (try clear q7); (try clear hx7); (try clear c8); (try clear c8b0); (try clear c8b1); (try clear p9); (try clear q9); (try clear hx9); (try clear c11); (try clear p2); (try clear p6); (try clear p7); (try clear p9); (try clear q7); (try clear q9)
       obtain ⟨x8_3, x9_3, rfl, rfl, HA, HK3, HB⟩ := hrel
       cases gk with
       | zero => exact absurd HA.out (by simp [impl_numberRef.l0])
       | succ k3 =>
        have H := HA.out
        clear HA
        simp only [impl_numberRef.l0] at H
        by_cases c13 : x9_3 < (a0.size : Int)
        ·rw [if_pos c13] at H
         have c13b0 := decide_eq_true c13
         clear c13
         (first | rw [c13b0] | (simp only [i64_w, i32_w]; rw [c13b0]) | skip)
         (try (generalize hgzc13 : decide (x9_3 < (a0.size : Int)) = bqc13 at *; subst c13b0; have c13b0 := hgzc13; clear hgzc13))
         by_cases c14 : 0 ≤ x9_3
         case neg => rw [if_neg c14] at H; exact absurd H (by simp)
         rw [if_pos c14] at H
         have c14b0 := decide_eq_true c14
         clear c14
         replace H := Option.bind_eq_some_iff.mp H
         obtain ⟨t171, A160, H⟩ := H
         replace H : (if t171 ≥ 0 then ((impl_digitOf.f k3 (bt a0 x9_3) x7_9).bind fun t172 => (impl_numberRef.l0 k3 a0 a1 x6_9 x7_9 (mn (wrap64 ((wrap64 (x8_3 * x7_9)) + t172)) 1114112) (wrap64 (x9_3 + 1)))) else (impl_numberRef.j3 k3 a0 a1 x6_9 x8_3 x9_3)) = some (r1, r2) := by first | exact H | (rw [c13b0]; exact H)
         have A16 := Aside0.mk A160
         clear A160
         by_cases c17 : t171 ≥ 0
         ·rw [if_pos c17] at H
          have c17b0 : decide (0 ≤ t171) = true := decide_eq_true c17
          clear c17
          replace H := Option.bind_eq_some_iff.mp H
          obtain ⟨t172, A190, H⟩ := H
          replace H : (impl_numberRef.l0 k3 a0 a1 x6_9 x7_9 (mn (wrap64 ((wrap64 (x8_3 * x7_9)) + t172)) 1114112) (wrap64 (x9_3 + 1))) = some (r1, r2) := by first | exact H | (rw [c13b0]; exact H)
          have A19 := Aside0.mk A190
          clear A190
          obtain ⟨ji20, hji20⟩ : ∃ j_ : Int, (mn (wrap64 ((wrap64 (x8_3 * x7_9)) + t172)) 1114112) = j_ := ⟨_, rfl⟩
          replace H : (impl_numberRef.l0 k3 a0 a1 x6_9 x7_9 ji20 (wrap64 (x9_3 + 1))) = some (r1, r2) := by first | (rw [hji20] at H; exact H) | (simp only [hji20] at H ⊢; exact H)
          (try rw [hji20] at A16)
          (try rw [hji20] at A19)
          have hji20_ : (if 1114112 < (wrap64 ((wrap64 (x8_3 * x7_9)) + t172)) then 1114112 else (wrap64 ((wrap64 (x8_3 * x7_9)) + t172))) = ji20 := hji20
          have H' := Aside0.mk H
          clear H
          have p15 : 0 ≤ (x9_3 : Int) := of_decide_eq_true ab4
          have q15 : x9_3 < (a0.size : Int) := of_decide_eq_true ab4
          have hx15 := bt_at a0 x9_3
          replace p15 := eq_true p15
          replace q15 := eq_true q15
          go_wp2_with (first | (go_at_call 93; (with_reducible refine (impl_digitOf.calls k3 (bt a0 x9_3) x7_9 t171 _ A16.out).mono ?_); rintro e w' ⟨rfl, ⟨nd, rfl⟩⟩; have p18 : 0 ≤ (x9_3 : Int) := of_decide_eq_true ab4; have q18 : x9_3 < (a0.size : Int) := of_decide_eq_true ab4; have hx18 := bt_at a0 x9_3; replace p18 := eq_true p18; replace q18 := eq_true q18) | ((with_reducible refine gate_callee (f := 93) rfl ?_); refine goesL_ (some 50) rfl rfl Tryd.func93 (by kernel_rfl) rfl #[.int .u8 (bt a0 x9_3), .int .i64 x7_9] rfl ab5 ?_; (with_reducible refine (impl_digitOf.calls k3 (bt a0 x9_3) x7_9 t172 _ A19.out).mono ?_); rintro e w' ⟨rfl, ⟨nd, rfl⟩⟩; refine ⟨_, rfl, ?_⟩))
          go_roundg k3
          case measure => have := HJ2.out; have := HJ9.out; have := HK3.out; omega
          case rel => exact ⟨(ji20), (wrap64 (x9_3 + 1)), (by first | rfl | (simp; done) | (simp only [← hji20] <;> (first | rfl | simp)) | (simp [*]; done)), ab6, (by first | exact H' | (rw [hji20]; exact H') | (rw [hji5]; exact H') | (have h_ := H'.out; rw [c13b0] at h_; exact ⟨h_⟩)), ⟨by have := HJ2.out; have := HJ9.out; have := HK3.out; omega⟩, ⟨ab1⟩⟩
         ·rw [if_neg c17] at H
          have c17b0 : decide (0 ≤ t171) = false := decide_eq_false c17
          clear c17
          have H' := Aside0.mk H
          clear H
          have p15 : 0 ≤ (x9_3 : Int) := of_decide_eq_true ab4
          have q15 : x9_3 < (a0.size : Int) := of_decide_eq_true ab4
          have hx15 := bt_at a0 x9_3
          replace p15 := eq_true p15
          replace q15 := eq_true q15
          go_wp2_with (first | (go_at_call 93; (with_reducible refine (impl_digitOf.calls k3 (bt a0 x9_3) x7_9 t171 _ A16.out).mono ?_); rintro e w' ⟨rfl, ⟨nd, rfl⟩⟩))
          first | go_meet | (subst hji20; go_meet) | (subst hji5; go_meet)
          case rel => exact ⟨_, (x8_3), (x9_3), ab6, ab6, (by first | exact H' | (rw [hji20]; exact H') | (rw [hji5]; exact H') | (have h_ := H'.out; rw [c13b0] at h_; exact ⟨h_⟩)), ⟨by have := HJ2.out; have := HJ9.out; have := HK3.out; first | omega | exact Nat.le_refl _⟩, ⟨ab1⟩⟩
        ·rw [if_neg c13] at H
         have c13b0 := decide_eq_false c13
         clear c13
         (first | rw [c13b0] | (simp only [i64_w, i32_w]; rw [c13b0]) | skip)
         (try (generalize hgzc13 : decide (x9_3 < (a0.size : Int)) = bqc13 at *; subst c13b0; have c13b0 := hgzc13; clear hgzc13))
         have H' := Aside0.mk H
         clear H
         go_wp2
         first | go_meet | (subst hji20; go_meet) | (subst hji5; go_meet)
         case rel => exact ⟨_, (x8_3), (x9_3), ab6, ab6, (by first | exact H' | (rw [hji20]; exact H') | (rw [hji5]; exact H') | (have h_ := H'.out; rw [c13b0] at h_; exact ⟨h_⟩)), ⟨by have := HJ2.out; have := HJ9.out; have := HK3.out; first | omega | exact Nat.le_refl _⟩, ⟨ab1⟩⟩
     case rest =>
      clear HC12
      (try clear c1); (try clear p1); (try clear q1); (try clear hx1); (try clear p2); (try clear c4); (try clear c4b0); (try clear c5); (try clear c6); (try clear c6b0); (try clear p6); (try clear p7); (try clear q7); (try clear hx7); (try clear c8); (try clear c8b0); (try clear c8b1); (try clear c9); (try clear p9); (try clear q9); (try clear hx9); (try clear c11); (try clear c13); (try clear c13b0); (try clear c14); (try clear c14b0); (try clear p15); (try clear q15); (try clear hx15); (try clear c17); (try clear c17b0); (try clear p18); (try clear q18); (try clear hx18); (try clear p15); (try clear p18); (try clear p2); (try clear p6); (try clear p7); (try clear p9); (try clear q15); (try clear q18); (try clear q7); (try clear q9)
      obtain ⟨kq, x8_11, x9_11, rfl, rfl, HA, HJ11, HB⟩ := hcut
      cases kq with
      | zero => exact absurd HA.out (by simp [impl_numberRef.j3])
      | succ kj11 =>
       have H := HA.out
       clear HA
       simp only [impl_numberRef.j3] at H
       by_cases c21 : x9_11 = x6_9
       ·rw [if_pos c21] at H
        have c21b0 : (x9_11 == x6_9) = true := beq_iff_eq.mpr c21
        have c21b1 : (x9_11 != x6_9) = false := bne_eq_false_iff_eq.mpr c21
        clear c21
        simp only [Option.some.injEq, Prod.mk.injEq] at H
        obtain ⟨rfl, rfl⟩ := H
        go_wp2
        go_ret2
        exact ⟨ab7, ab1⟩
       ·rw [if_neg c21] at H
        have c21b0 : (x9_11 == x6_9) = false := beq_eq_false_iff_ne.mpr c21
        have c21b1 : (x9_11 != x6_9) = true := bne_iff_ne.mpr c21
        replace H := Option.bind_eq_some_iff.mp H
        obtain ⟨t173, A220, H⟩ := H
        try dsimp only at H
        have A22 := Aside0.mk A220
        clear A220
        replace H := Option.bind_eq_some_iff.mp H
        obtain ⟨t174, A230, H⟩ := H
        try dsimp only at H
        have A23 := Aside0.mk A230
        clear A230
        replace H := Option.bind_eq_some_iff.mp H
        obtain ⟨t175, A240, H⟩ := H
        try dsimp only at H
        have A24 := Aside0.mk A240
        clear A240
        simp only [Option.some.injEq, Prod.mk.injEq] at H
        obtain ⟨rfl, rfl⟩ := H
        go_wp2_with (first | ((with_reducible refine gate_callee (f := 20) rfl ?_); refine goesL_ (some 59) rfl rfl Tryd.func20 (by kernel_rfl) rfl #[.int .i64 x8_11] rfl ab5 ?_; (with_reducible refine (impl_Numbered.calls x8_11 t173 _ A22.out).mono ?_); rintro e w' ⟨rfl, ⟨nd, rfl⟩⟩; refine ⟨_, rfl, ?_⟩) | ((with_reducible refine gate_callee (f := 45) rfl ?_); refine goesL_ (some 60) rfl rfl Tryd.func45 (by kernel_rfl) rfl #[.int .i64 t173] rfl ab5 ?_; (with_reducible refine (impl_PutSign.calls kj11 t173 t174 _ A23.out).mono ?_); rintro e w25 ⟨rfl, hb⟩; refine ⟨_, rfl, ?_⟩; have n0_ := Aside0.mk (below_step ab1 hb); clear HB; have HB := n0_; clear n0_; (try clear hb); (try clear hb2); (try clear hk); (try clear hi)) | ((with_reducible refine gate_callee (f := 60) rfl ?_); refine goesL_ (some 63) rfl rfl Tryd.func60 (by kernel_rfl) rfl #[.string a0, .int .i64 x9_11] rfl ab5 ?_; (with_reducible refine (impl_withEnd.calls a0 x9_11 t175 _ A24.out).mono ?_); rintro e w' ⟨rfl, ⟨nd, rfl⟩⟩; refine ⟨_, rfl, ?_⟩))
        go_ret2
        exact ⟨ab7, ab1⟩

end Go.Proofs.YtgljgbkbjlondaaDoor.P
