-- WRITTEN BY hprint.py, this session's own program, over the kit's printer: not typed by hand; Lean checks it
import Derived.Test.YtaomfbbbdddlmaaQs0
import Derived.Test.YtaomfbbbdddlmaaQs21
import Derived.Test.YtaomfbbbdddlmaaQs22
namespace Go.Proofs.Ytaomfbbbdddlmaa.P
open Go.RowKit Go.Proofs.YtaomfbbbdddlmaaW.PrintWords Go.Proofs.YtaomfbbbdddlmaaW.PrintLast Go.Proofs.YtaomfbbbdddlmaaW.PrintMore
attribute [local go_sem] max2_int min2_int max_two min_two max_three min_three max_four min_four   -- for this text's walks alone
set_option linter.unusedVariables false
set_option linter.unusedSimpArgs false

/-! ### impl_IsBlank: function 158 -/
def impl_IsBlank.f (a0 : Int) : Option (Bool) := if a0 = 9 then (some true) else (if a0 = 10 then (some true) else (if a0 = 12 then (some true) else (if a0 = 13 then (some true) else (some (a0 == 32)))))
set_option maxHeartbeats 8000000 in
set_option maxRecDepth 100000 in
theorem impl_IsBlank.calls (a0 : Int) (r : Bool) (w : World) (h : impl_IsBlank.f a0 = some r) :
  Calls Try.prog 158 #[.int .i64 a0] w fun e w' => e = .returned (.bool r) ∧ Drawn0 w w' := by
 have H : (if a0 = 9 then (some true) else (if a0 = 10 then (some true) else (if a0 = 12 then (some true) else (if a0 = 13 then (some true) else (some (a0 == 32)))))) = some r := h
 clear h
 by_cases c2 : a0 = 9
 ·rw [if_pos c2] at H
  have c2b0 : (a0 == 9) = true := beq_iff_eq.mpr c2
  have c2b1 : (a0 != 9) = false := bne_eq_false_iff_eq.mpr c2
  clear c2
  obtain rfl := Option.some.inj H
  go_enter Try.func158, Try.ntmps158
  go_wp2
  go_ret
  exact ⟨ab6, by repeat (first | exact Drawn0.refl _ | apply Drawn0.step)⟩
 ·rw [if_neg c2] at H
  have c2b0 : (a0 == 9) = false := beq_eq_false_iff_ne.mpr c2
  have c2b1 : (a0 != 9) = true := bne_iff_ne.mpr c2
  by_cases c3 : a0 = 10
  ·rw [if_pos c3] at H
   have c3b0 : (a0 == 10) = true := beq_iff_eq.mpr c3
   have c3b1 : (a0 != 10) = false := bne_eq_false_iff_eq.mpr c3
   clear c3
   obtain rfl := Option.some.inj H
   go_enter Try.func158, Try.ntmps158
   go_wp2
   go_ret
   exact ⟨ab6, by repeat (first | exact Drawn0.refl _ | apply Drawn0.step)⟩
  ·rw [if_neg c3] at H
   have c3b0 : (a0 == 10) = false := beq_eq_false_iff_ne.mpr c3
   have c3b1 : (a0 != 10) = true := bne_iff_ne.mpr c3
   by_cases c4 : a0 = 12
   ·rw [if_pos c4] at H
    have c4b0 : (a0 == 12) = true := beq_iff_eq.mpr c4
    have c4b1 : (a0 != 12) = false := bne_eq_false_iff_eq.mpr c4
    clear c4
    obtain rfl := Option.some.inj H
    go_enter Try.func158, Try.ntmps158
    go_wp2
    go_ret
    exact ⟨ab6, by repeat (first | exact Drawn0.refl _ | apply Drawn0.step)⟩
   ·rw [if_neg c4] at H
    have c4b0 : (a0 == 12) = false := beq_eq_false_iff_ne.mpr c4
    have c4b1 : (a0 != 12) = true := bne_iff_ne.mpr c4
    by_cases c5 : a0 = 13
    ·rw [if_pos c5] at H
     have c5b0 : (a0 == 13) = true := beq_iff_eq.mpr c5
     have c5b1 : (a0 != 13) = false := bne_eq_false_iff_eq.mpr c5
     clear c5
     obtain rfl := Option.some.inj H
     go_enter Try.func158, Try.ntmps158
     go_wp2
     go_ret
     exact ⟨ab6, by repeat (first | exact Drawn0.refl _ | apply Drawn0.step)⟩
    ·rw [if_neg c5] at H
     have c5b0 : (a0 == 13) = false := beq_eq_false_iff_ne.mpr c5
     have c5b1 : (a0 != 13) = true := bne_iff_ne.mpr c5
     obtain rfl := Option.some.inj H
     go_enter Try.func158, Try.ntmps158
     go_wp2
     go_ret
     exact ⟨ab6, by repeat (first | exact Drawn0.refl _ | apply Drawn0.step)⟩

/-! ### impl_isBlankByte: function 128 -/
def impl_isBlankByte.f (a0 : Int) : Option (Bool) := (impl_IsBlank.f (wrap64 (a0))).bind fun t345 => (some t345)
set_option maxHeartbeats 8000000 in
set_option maxRecDepth 100000 in
theorem impl_isBlankByte.calls (a0 : Int) (r : Bool) (w : World) (h : impl_isBlankByte.f a0 = some r) :
  Calls Try.prog 128 #[.int .u8 a0] w fun e w' => e = .returned (.bool r) ∧ Drawn0 w w' := by
 have H : ((impl_IsBlank.f (wrap64 (a0))).bind fun t345 => (some t345)) = some r := h
 clear h
 replace H := Option.bind_eq_some_iff.mp H
 obtain ⟨t345, A20, H⟩ := H
 try dsimp only at H
 have A2 := Aside0.mk A20
 clear A20
 obtain rfl := Option.some.inj H
 go_enter Try.func128, Try.ntmps128
 go_wp2_with (first | ((with_reducible refine gate_callee (f := 158) rfl ?_); refine goesL_ (some 5) rfl rfl Try.func158 (by kernel_rfl) rfl #[.int .i64 (wrap64 (a0))] rfl ab5 ?_; (with_reducible refine (impl_IsBlank.calls (wrap64 (a0)) t345 _ A2.out).mono ?_); rintro e w' ⟨rfl, ⟨nd, rfl⟩⟩; refine ⟨_, rfl, ?_⟩))
 go_ret
 exact ⟨ab6, by repeat (first | exact Drawn0.refl _ | apply Drawn0.step)⟩

/-! ### impl_RawEnd: function 123 -/
def impl_RawEnd.l0 : Nat → ByteArray → ByteArray → Int → Option (Int)
 | 0, _, _, _ => none
 | k + 1, x0, x7, x8 => if (wrap64 (x8 + (x7.size : Int))) < (x0.size : Int) then (if 0 ≤ (wrap64 (x8 + (x7.size : Int))) then (if 0 ≤ x8 then (if x8 < (x0.size : Int) then (if (bt x0 x8) = 60 then (if x8 ≤ (wrap64 (x8 + (x7.size : Int))) then (if (wrap64 (x8 + (x7.size : Int))) ≤ (x0.size : Int) then ((impl_Small.f (x0.extract (x8 : Int).toNat ((wrap64 (x8 + (x7.size : Int))) : Int).toNat)).bind fun t347 => (if t347.toList = x7.toList then ((impl_isBlankByte.f (bt x0 (wrap64 (x8 + (x7.size : Int))))).bind fun t348 => (if t348 = true then (some x8) else (if (bt x0 (wrap64 (x8 + (x7.size : Int)))) = 47 then (some x8) else (if (bt x0 (wrap64 (x8 + (x7.size : Int)))) = 62 then (some x8) else (impl_RawEnd.l0 k x0 x7 (wrap64 (x8 + 1))))))) else (impl_RawEnd.l0 k x0 x7 (wrap64 (x8 + 1))))) else (none)) else (none)) else (impl_RawEnd.l0 k x0 x7 (wrap64 (x8 + 1)))) else (none)) else (none)) else (none)) else (some (x0.size : Int))
def impl_RawEnd.f (k : Nat) (a0 : ByteArray) (a1 : Int) (a2 : ByteArray) : Option (Int) := (impl_Small.f a2).bind fun t346 => (if 2 + t346.size ≤ 9223372036854775807 then (impl_RawEnd.l0 k a0 ((⟨#[60, 47]⟩ : ByteArray) ++ t346) (mx a1 0)) else (none))
theorem impl_RawEnd.mono_l : ∀ k, (∀ y0 y1 y2, LeO (impl_RawEnd.l0 k y0 y1 y2) (impl_RawEnd.l0 (k + 1) y0 y1 y2))
 | 0 => fun _ _ _ r h => by simp [impl_RawEnd.l0] at h
 | k + 1 => by
  have ih0 := impl_RawEnd.mono_l k
  ·intro y0 y1 y2
   unfold impl_RawEnd.l0
   repeat' first
   | (with_reducible exact ih0 _ _ _)
   | (with_reducible exact LeO.refl _)
   | (with_reducible exact LeO.none _)
   | (with_reducible refine LeO.ite ?_ ?_)
   | (with_reducible refine LeO.bind ?_ (fun _ => ?_))
theorem impl_RawEnd.mono : ∀ a0 a1 a2 k, LeO (impl_RawEnd.f k a0 a1 a2) (impl_RawEnd.f (k + 1) a0 a1 a2) := by
 intro a0 a1 a2 k
 have ih0 := impl_RawEnd.mono_l k
 unfold impl_RawEnd.f
 repeat' first
   | (with_reducible exact ih0 _ _ _)
   | (with_reducible exact LeO.refl _)
   | (with_reducible exact LeO.none _)
   | (with_reducible refine LeO.ite ?_ ?_)
   | (with_reducible refine LeO.bind ?_ (fun _ => ?_))
set_option maxHeartbeats 8000000 in
set_option maxRecDepth 100000 in
theorem impl_RawEnd.calls (k : Nat) (a0 : ByteArray) (a1 : Int) (a2 : ByteArray) (r : Int) (w : World) (h : impl_RawEnd.f k a0 a1 a2 = some r) :
  Calls Try.prog 123 #[.string a0, .int .i64 a1, .string a2] w fun e w' => e = .returned (.int .i64 r) ∧ Below w.heap.size w w' := by
 have HB := Aside0.mk (Below.refl w.heap.size w)
 have H : ((impl_Small.f a2).bind fun t346 => (if 2 + t346.size ≤ 9223372036854775807 then (impl_RawEnd.l0 k a0 ((⟨#[60, 47]⟩ : ByteArray) ++ t346) (mx a1 0)) else (none))) = some r := h
 clear h
 replace H := Option.bind_eq_some_iff.mp H
 obtain ⟨t346, A40, H⟩ := H
 try dsimp only at H
 have A4 := Aside0.mk A40
 clear A40
 by_cases c5 : 2 + t346.size ≤ 9223372036854775807
 case neg => rw [if_neg c5] at H; exact absurd H (by simp)
 rw [if_pos c5] at H
 have c5b0 := eq_true c5
 have c5b1 := decide_eq_true c5
 try have c5b2 : (9223372036854775807 < 2 + t346.size) = False := eq_false (Nat.not_lt.2 c5)
 obtain ⟨ji6, hji6⟩ : ∃ j_ : Int, (mx a1 0) = j_ := ⟨_, rfl⟩
 replace H : (impl_RawEnd.l0 k a0 ((⟨#[60, 47]⟩ : ByteArray) ++ t346) ji6) = some r := by first | (rw [hji6] at H; exact H) | (simp only [hji6] at H ⊢; exact H)
 (try rw [hji6] at A4)
 (try (have hji6l : 0 ≤ ji6 := by (rw [← hji6]; unfold mx; (repeat' split) <;> omega)))
 (try (have hji6m : 0 ≤ ji6 := by omega))
 have hji6_ : (if a1 < 0 then 0 else a1) = ji6 := hji6
 have H' := Aside0.mk H
 clear H
 go_enter Try.func123, Try.ntmps123
 go_wp2_with (first | ((with_reducible refine gate_callee (f := 127) rfl ?_); refine goesL_ (some 11) rfl rfl Try.func127 (by kernel_rfl) rfl #[.string a2] rfl ab5 ?_; (with_reducible refine (impl_Small.calls a2 t346 _ A4.out).mono ?_); rintro e w7 ⟨rfl, hb⟩; refine ⟨_, rfl, ?_⟩; have n0_ := Aside0.mk (below_step ab1 hb); clear HB; have HB := n0_; clear n0_; (try clear hb); (try clear hb2); (try clear hk); (try clear hi)))
 go_loopg [8] k (fun kq v8 w' => ∃ (x8_1 : Int), v8 = .int .i64 x8_1 ∧ Aside0 (impl_RawEnd.l0 kq a0 ((⟨#[60, 47]⟩ : ByteArray) ++ t346) x8_1 = some r) ∧ Aside0 (kq ≤ k) ∧ Aside0 (Below w.heap.size w w'))
 case atStart => exact ⟨(ji6), (by first | rfl | (simp; done) | (simp only [← hji6] <;> (first | rfl | simp)) | (simp [*]; done)), H', ⟨Nat.le_refl _⟩, ⟨ab1⟩⟩
 case round =>
  clear H'
  (try clear c1); (try clear p2); (try clear c5); (try clear c5b0); (try clear c5b1); (try clear c5b2)
  obtain ⟨x8_1, rfl, HA, HK1, HB⟩ := hrel
  cases gk with
  | zero => exact absurd HA.out (by simp [impl_RawEnd.l0])
  | succ k1 =>
   have H := HA.out
   clear HA
   simp only [impl_RawEnd.l0] at H
   by_cases c8 : (wrap64 (x8_1 + (((⟨#[60, 47]⟩ : ByteArray) ++ t346).size : Int))) < (a0.size : Int)
   ·rw [if_pos c8] at H
    have c8b0 := decide_eq_true c8
    try (have c8b9 := c8b0; rw [show (((⟨#[60, 47]⟩ : ByteArray) ++ t346).size : Int) = 2 + (t346.size : Int) by rw [ByteArray.size_append, show (⟨#[60, 47]⟩ : ByteArray).size = 2 from rfl]; omega] at c8b9)
    clear c8
    obtain ⟨ji9, hji9⟩ : ∃ j_ : Int, (wrap64 (x8_1 + (((⟨#[60, 47]⟩ : ByteArray) ++ t346).size : Int))) = j_ := ⟨_, rfl⟩
    replace H : (if 0 ≤ (ji9) then (if 0 ≤ x8_1 then (if x8_1 < (a0.size : Int) then (if (bt a0 x8_1) = 60 then (if x8_1 ≤ (ji9) then (if (ji9) ≤ (a0.size : Int) then ((impl_Small.f (a0.extract (x8_1 : Int).toNat ((ji9) : Int).toNat)).bind fun t347 => (if t347.toList = ((⟨#[60, 47]⟩ : ByteArray) ++ t346).toList then ((impl_isBlankByte.f (bt a0 (ji9))).bind fun t348 => (if t348 = true then (some x8_1) else (if (bt a0 (ji9)) = 47 then (some x8_1) else (if (bt a0 (ji9)) = 62 then (some x8_1) else (impl_RawEnd.l0 k1 a0 ((⟨#[60, 47]⟩ : ByteArray) ++ t346) (wrap64 (x8_1 + 1))))))) else (impl_RawEnd.l0 k1 a0 ((⟨#[60, 47]⟩ : ByteArray) ++ t346) (wrap64 (x8_1 + 1))))) else (none)) else (none)) else (impl_RawEnd.l0 k1 a0 ((⟨#[60, 47]⟩ : ByteArray) ++ t346) (wrap64 (x8_1 + 1)))) else (none)) else (none)) else (none)) = some r := by first | (rw [hji9] at H; exact H) | (simp only [hji9] at H ⊢; exact H)
    (try rw [hji9] at c8b0)
    (try rw [hji9] at A4)
    have hji9w : (IntKind.i64.wrap (x8_1 + (((⟨#[60, 47]⟩ : ByteArray) ++ t346).size : Int))) = ji9 := (i64_w _).trans hji9
    have hji9s : (((⟨#[60, 47]⟩ : ByteArray) ++ t346).size : Int) = 2 + (t346.size : Int) := by rw [ByteArray.size_append, show (⟨#[60, 47]⟩ : ByteArray).size = 2 from rfl]; omega
    have hji9x : (IntKind.i64.wrap (x8_1 + (2 + (t346.size : Int)))) = ji9 := by rw [← hji9s]; exact hji9w
    have hji9y : (wrap64 (x8_1 + (2 + (t346.size : Int)))) = ji9 := by rw [← hji9s]; exact hji9
    clear hji9s
    by_cases c10 : 0 ≤ (ji9)
    case neg => rw [if_neg c10] at H; exact absurd H (by simp)
    rw [if_pos c10] at H
    have c10b0 := decide_eq_true c10
    clear c10
    by_cases c12 : 0 ≤ x8_1
    case neg => rw [if_neg c12] at H; exact absurd H (by simp)
    rw [if_pos c12] at H
    have c12b0 := decide_eq_true c12
    clear c12
    by_cases c13 : x8_1 < (a0.size : Int)
    case neg => rw [if_neg c13] at H; exact absurd H (by simp)
    rw [if_pos c13] at H
    have c13b0 := decide_eq_true c13
    clear c13
    by_cases c15 : (bt a0 x8_1) = 60
    ·rw [if_pos c15] at H
     have c15b0 : ((bt a0 x8_1) == 60) = true := beq_iff_eq.mpr c15
     have c15b1 : ((bt a0 x8_1) != 60) = false := bne_eq_false_iff_eq.mpr c15
     clear c15
     have c16b0 := eq_true (of_decide_eq_true ab4 : 0 ≤ x8_1)
     by_cases c17 : x8_1 ≤ (ji9)
     case neg => rw [if_neg c17] at H; exact absurd H (by simp)
     rw [if_pos c17] at H
     have c17b0 := eq_true c17
     have c17b1 := decide_eq_true c17
     clear c17
     by_cases c18 : (ji9) ≤ (a0.size : Int)
     case neg => rw [if_neg c18] at H; exact absurd H (by simp)
     rw [if_pos c18] at H
     have c18b0 := eq_true c18
     have c18b1 := decide_eq_true c18
     clear c18
     replace H := Option.bind_eq_some_iff.mp H
     obtain ⟨t347, A190, H⟩ := H
     try dsimp only at H
     have A19 := Aside0.mk A190
     clear A190
     by_cases c20 : t347.toList = ((⟨#[60, 47]⟩ : ByteArray) ++ t346).toList
     ·rw [if_pos c20] at H
      have c20b0 : (t347.toList == ((⟨#[60, 47]⟩ : ByteArray) ++ t346).toList) = true := beq_iff_eq.mpr c20
      have c20b1 : (t347.toList != ((⟨#[60, 47]⟩ : ByteArray) ++ t346).toList) = false := bne_eq_false_iff_eq.mpr c20
      clear c20
      replace H := Option.bind_eq_some_iff.mp H
      obtain ⟨t348, A210, H⟩ := H
      try dsimp only at H
      have A21 := Aside0.mk A210
      clear A210
      by_cases c22 : t348 = true
      ·subst c22
       rw [if_pos rfl] at H
       obtain rfl := Option.some.inj H
       have p11 : 0 ≤ ((ji9) : Int) := of_decide_eq_true ab4
       have q11 : (ji9) < (a0.size : Int) := of_decide_eq_true ab4
       have hx11 := bt_at a0 (ji9)
       replace p11 := eq_true p11
       replace q11 := eq_true q11
       have p14 : 0 ≤ (x8_1 : Int) := of_decide_eq_true ab4
       have q14 : x8_1 < (a0.size : Int) := of_decide_eq_true ab4
       have hx14 := bt_at a0 x8_1
       replace p14 := eq_true p14
       replace q14 := eq_true q14
       go_wp2_with (first | (go_at_call 127; (with_reducible refine (impl_Small.calls (a0.extract (x8_1 : Int).toNat ((ji9) : Int).toNat) t347 _ A19.out).mono ?_); rintro e w23 ⟨rfl, hb⟩; have n0_ := Aside0.mk (below_step ab1 hb); clear HB; have HB := n0_; clear n0_; (try clear hb); (try clear hb2); (try clear hk); (try clear hi)) | (go_at_call 128; (with_reducible refine (impl_isBlankByte.calls (bt a0 (ji9)) true _ A21.out).mono ?_); rintro e w' ⟨rfl, ⟨nd, rfl⟩⟩))
       go_ret
       exact ⟨by first | rfl | (simp [errW_none, errW_some] <;> rfl) | (simp only [← hji6, ← hji9]; first | rfl | (simp [errW_none, errW_some] <;> rfl)) | (simp [*, errW_none, errW_some] <;> rfl), ab1⟩
      ·replace c22 := Bool.eq_false_iff.mpr c22
       subst c22
       rw [if_neg (show ¬ (false = true) by decide)] at H
       by_cases c24 : (bt a0 (ji9)) = 47
       ·rw [if_pos c24] at H
        have c24b0 : ((bt a0 (ji9)) == 47) = true := beq_iff_eq.mpr c24
        have c24b1 : ((bt a0 (ji9)) != 47) = false := bne_eq_false_iff_eq.mpr c24
        clear c24
        obtain rfl := Option.some.inj H
        have p11 : 0 ≤ ((ji9) : Int) := of_decide_eq_true ab4
        have q11 : (ji9) < (a0.size : Int) := of_decide_eq_true ab4
        have hx11 := bt_at a0 (ji9)
        replace p11 := eq_true p11
        replace q11 := eq_true q11
        have p14 : 0 ≤ (x8_1 : Int) := of_decide_eq_true ab4
        have q14 : x8_1 < (a0.size : Int) := of_decide_eq_true ab4
        have hx14 := bt_at a0 x8_1
        replace p14 := eq_true p14
        replace q14 := eq_true q14
        go_wp2_with (first | (go_at_call 127; (with_reducible refine (impl_Small.calls (a0.extract (x8_1 : Int).toNat ((ji9) : Int).toNat) t347 _ A19.out).mono ?_); rintro e w25 ⟨rfl, hb⟩; have n0_ := Aside0.mk (below_step ab1 hb); clear HB; have HB := n0_; clear n0_; (try clear hb); (try clear hb2); (try clear hk); (try clear hi)) | (go_at_call 128; (with_reducible refine (impl_isBlankByte.calls (bt a0 (ji9)) false _ A21.out).mono ?_); rintro e w' ⟨rfl, ⟨nd, rfl⟩⟩))
        go_ret
        exact ⟨by first | rfl | (simp [errW_none, errW_some] <;> rfl) | (simp only [← hji6, ← hji9]; first | rfl | (simp [errW_none, errW_some] <;> rfl)) | (simp [*, errW_none, errW_some] <;> rfl), ab1⟩
       ·rw [if_neg c24] at H
        have c24b0 : ((bt a0 (ji9)) == 47) = false := beq_eq_false_iff_ne.mpr c24
        have c24b1 : ((bt a0 (ji9)) != 47) = true := bne_iff_ne.mpr c24
        by_cases c26 : (bt a0 (ji9)) = 62
        ·rw [if_pos c26] at H
         have c26b0 : ((bt a0 (ji9)) == 62) = true := beq_iff_eq.mpr c26
         have c26b1 : ((bt a0 (ji9)) != 62) = false := bne_eq_false_iff_eq.mpr c26
         clear c26
         obtain rfl := Option.some.inj H
         have p11 : 0 ≤ ((ji9) : Int) := of_decide_eq_true ab4
         have q11 : (ji9) < (a0.size : Int) := of_decide_eq_true ab4
         have hx11 := bt_at a0 (ji9)
         replace p11 := eq_true p11
         replace q11 := eq_true q11
         have p14 : 0 ≤ (x8_1 : Int) := of_decide_eq_true ab4
         have q14 : x8_1 < (a0.size : Int) := of_decide_eq_true ab4
         have hx14 := bt_at a0 x8_1
         replace p14 := eq_true p14
         replace q14 := eq_true q14
         go_wp2_with (first | (go_at_call 127; (with_reducible refine (impl_Small.calls (a0.extract (x8_1 : Int).toNat ((ji9) : Int).toNat) t347 _ A19.out).mono ?_); rintro e w27 ⟨rfl, hb⟩; have n0_ := Aside0.mk (below_step ab1 hb); clear HB; have HB := n0_; clear n0_; (try clear hb); (try clear hb2); (try clear hk); (try clear hi)) | (go_at_call 128; (with_reducible refine (impl_isBlankByte.calls (bt a0 (ji9)) false _ A21.out).mono ?_); rintro e w' ⟨rfl, ⟨nd, rfl⟩⟩))
         go_ret
         exact ⟨by first | rfl | (simp [errW_none, errW_some] <;> rfl) | (simp only [← hji6, ← hji9]; first | rfl | (simp [errW_none, errW_some] <;> rfl)) | (simp [*, errW_none, errW_some] <;> rfl), ab1⟩
        ·rw [if_neg c26] at H
         have c26b0 : ((bt a0 (ji9)) == 62) = false := beq_eq_false_iff_ne.mpr c26
         have c26b1 : ((bt a0 (ji9)) != 62) = true := bne_iff_ne.mpr c26
         have H' := Aside0.mk H
         clear H
         have p11 : 0 ≤ ((ji9) : Int) := of_decide_eq_true ab4
         have q11 : (ji9) < (a0.size : Int) := of_decide_eq_true ab4
         have hx11 := bt_at a0 (ji9)
         replace p11 := eq_true p11
         replace q11 := eq_true q11
         have p14 : 0 ≤ (x8_1 : Int) := of_decide_eq_true ab4
         have q14 : x8_1 < (a0.size : Int) := of_decide_eq_true ab4
         have hx14 := bt_at a0 x8_1
         replace p14 := eq_true p14
         replace q14 := eq_true q14
         go_wp2_with (first | (go_at_call 127; (with_reducible refine (impl_Small.calls (a0.extract (x8_1 : Int).toNat ((ji9) : Int).toNat) t347 _ A19.out).mono ?_); rintro e w28 ⟨rfl, hb⟩; have n0_ := Aside0.mk (below_step ab1 hb); clear HB; have HB := n0_; clear n0_; (try clear hb); (try clear hb2); (try clear hk); (try clear hi)) | (go_at_call 128; (with_reducible refine (impl_isBlankByte.calls (bt a0 (ji9)) false _ A21.out).mono ?_); rintro e w' ⟨rfl, ⟨nd, rfl⟩⟩))
         go_roundg k1
         case measure => have := HK1.out; omega
         case rel => exact ⟨(wrap64 (x8_1 + 1)), ab6, H', ⟨by have := HK1.out; omega⟩, ⟨ab1⟩⟩
     ·rw [if_neg c20] at H
      have c20b0 : (t347.toList == ((⟨#[60, 47]⟩ : ByteArray) ++ t346).toList) = false := beq_eq_false_iff_ne.mpr c20
      have c20b1 : (t347.toList != ((⟨#[60, 47]⟩ : ByteArray) ++ t346).toList) = true := bne_iff_ne.mpr c20
      have H' := Aside0.mk H
      clear H
      have p11 : 0 ≤ ((ji9) : Int) := of_decide_eq_true ab4
      have q11 : (ji9) < (a0.size : Int) := of_decide_eq_true ab4
      have hx11 := bt_at a0 (ji9)
      replace p11 := eq_true p11
      replace q11 := eq_true q11
      have p14 : 0 ≤ (x8_1 : Int) := of_decide_eq_true ab4
      have q14 : x8_1 < (a0.size : Int) := of_decide_eq_true ab4
      have hx14 := bt_at a0 x8_1
      replace p14 := eq_true p14
      replace q14 := eq_true q14
      go_wp2_with (first | (go_at_call 127; (with_reducible refine (impl_Small.calls (a0.extract (x8_1 : Int).toNat ((ji9) : Int).toNat) t347 _ A19.out).mono ?_); rintro e w29 ⟨rfl, hb⟩; have n0_ := Aside0.mk (below_step ab1 hb); clear HB; have HB := n0_; clear n0_; (try clear hb); (try clear hb2); (try clear hk); (try clear hi)))
      go_roundg k1
      case measure => have := HK1.out; omega
      case rel => exact ⟨(wrap64 (x8_1 + 1)), ab6, H', ⟨by have := HK1.out; omega⟩, ⟨ab1⟩⟩
    ·rw [if_neg c15] at H
     have c15b0 : ((bt a0 x8_1) == 60) = false := beq_eq_false_iff_ne.mpr c15
     have c15b1 : ((bt a0 x8_1) != 60) = true := bne_iff_ne.mpr c15
     have H' := Aside0.mk H
     clear H
     have p11 : 0 ≤ ((ji9) : Int) := of_decide_eq_true ab4
     have q11 : (ji9) < (a0.size : Int) := of_decide_eq_true ab4
     have hx11 := bt_at a0 (ji9)
     replace p11 := eq_true p11
     replace q11 := eq_true q11
     have p14 : 0 ≤ (x8_1 : Int) := of_decide_eq_true ab4
     have q14 : x8_1 < (a0.size : Int) := of_decide_eq_true ab4
     have hx14 := bt_at a0 x8_1
     replace p14 := eq_true p14
     replace q14 := eq_true q14
     go_wp2
     go_roundg k1
     case measure => have := HK1.out; omega
     case rel => exact ⟨(wrap64 (x8_1 + 1)), ab6, H', ⟨by have := HK1.out; omega⟩, ⟨ab1⟩⟩
   ·rw [if_neg c8] at H
    have c8b0 := decide_eq_false c8
    try (have c8b9 := c8b0; rw [show (((⟨#[60, 47]⟩ : ByteArray) ++ t346).size : Int) = 2 + (t346.size : Int) by rw [ByteArray.size_append, show (⟨#[60, 47]⟩ : ByteArray).size = 2 from rfl]; omega] at c8b9)
    clear c8
    obtain rfl := Option.some.inj H
    go_wp2
    go_ret
    exact ⟨by first | rfl | (simp [errW_none, errW_some] <;> rfl) | (simp only [← hji6]; first | rfl | (simp [errW_none, errW_some] <;> rfl)) | (simp [*, errW_none, errW_some] <;> rfl), ab1⟩

/-! ### impl_rawSayable: function 66 -/
def impl_rawSayable.j0 : Nat → List (S72) → Bool → Int → Int → ByteArray → List (S62) → ByteArray → Int → List Int → Option (Bool)
 | 0, _, _, _, _, _, _, _, _, _ => none
 | k + 1, x0, x24, x350000, x350001, x350002, x350003, x350004, x350005, x350006 => if x24 = true then (some false) else (if 0 < (x350006.length : Int) then (if 0 ≤ (rd x350006 0) then (if (rd x350006 0) < (x0.length : Int) then ((impl_isPlainRaw.f x350002).bind fun t354 => (if t354 = true then ((impl_RawEnd.f k ((rd_T72 x0 (rd x350006 0)).f4) 0 x350002).bind fun t355 => (some (t355 == (((rd_T72 x0 (rd x350006 0)).f4).size : Int)))) else (some true))) else (none)) else (none)) else (none))
def impl_rawSayable.f (k : Nat) (l0 : List (S72)) (a1_0 : Int) (a1_1 : Int) (a1_2 : ByteArray) (l1_3 : List (S62)) (a1_4 : ByteArray) (a1_5 : Int) (l1_6 : List Int) : Option (Bool) := if (l1_6.length : Int) = 0 then (some true) else (if (l1_6.length : Int) > 1 then (impl_rawSayable.j0 k l0 true a1_0 a1_1 a1_2 l1_3 a1_4 a1_5 l1_6) else (if 0 < (l1_6.length : Int) then (if 0 ≤ (rd l1_6 0) then (if (rd l1_6 0) < (l0.length : Int) then (impl_rawSayable.j0 k l0 (((rd_T72 l0 (rd l1_6 0)).f0) != 3) a1_0 a1_1 a1_2 l1_3 a1_4 a1_5 l1_6) else (none)) else (none)) else (none)))
theorem impl_rawSayable.mono_l : ∀ k, (∀ y0 y1 y2 y3 y4 y5 y6 y7 y8, LeO (impl_rawSayable.j0 k y0 y1 y2 y3 y4 y5 y6 y7 y8) (impl_rawSayable.j0 (k + 1) y0 y1 y2 y3 y4 y5 y6 y7 y8))
 | 0 => fun _ _ _ _ _ _ _ _ _ r h => by simp [impl_rawSayable.j0] at h
 | k + 1 => by
  have ih0 := impl_rawSayable.mono_l k
  ·intro y0 y1 y2 y3 y4 y5 y6 y7 y8
   unfold impl_rawSayable.j0
   repeat' first
   | (with_reducible exact ih0 _ _ _ _ _ _ _ _ _)
   | (with_reducible exact impl_RawEnd.mono _ _ _ _)
   | (with_reducible exact LeO.refl _)
   | (with_reducible exact LeO.none _)
   | (with_reducible refine LeO.ite ?_ ?_)
   | (with_reducible refine LeO.bind ?_ (fun _ => ?_))
theorem impl_rawSayable.mono : ∀ a0 a1 a2 a3 a4 a5 a6 a7 k, LeO (impl_rawSayable.f k a0 a1 a2 a3 a4 a5 a6 a7) (impl_rawSayable.f (k + 1) a0 a1 a2 a3 a4 a5 a6 a7) := by
 intro a0 a1 a2 a3 a4 a5 a6 a7 k
 have ih0 := impl_rawSayable.mono_l k
 unfold impl_rawSayable.f
 repeat' first
   | (with_reducible exact ih0 _ _ _ _ _ _ _ _ _)
   | (with_reducible exact impl_RawEnd.mono _ _ _ _)
   | (with_reducible exact LeO.refl _)
   | (with_reducible exact LeO.none _)
   | (with_reducible refine LeO.ite ?_ ?_)
   | (with_reducible refine LeO.bind ?_ (fun _ => ?_))
set_option maxHeartbeats 8000000 in
set_option maxRecDepth 100000 in
theorem impl_rawSayable.calls (k : Nat) (A0 : Option Addr) (c0 : Nat) (l0 : List (S72)) (a1_0 : Int) (a1_1 : Int) (a1_2 : ByteArray) (A1_3 : Option Addr) (c1_3 : Nat) (l1_3 : List (S62)) (a1_4 : ByteArray) (a1_5 : Int) (A1_6 : Option Addr) (c1_6 : Nat) (l1_6 : List Int) (r : Bool) (w : World) (hr0 : Kd.C k72 w A0 l0.length l0) (hc0 : l0.length ≤ c0) (hr1_3 : Kd.C k62 w A1_3 l1_3.length l1_3) (hc1_3 : l1_3.length ≤ c1_3) (hr1_6 : Kd.C (Kd.int .i64) w A1_6 l1_6.length l1_6) (hc1_6 : l1_6.length ≤ c1_6) (h : impl_rawSayable.f k l0 a1_0 a1_1 a1_2 l1_3 a1_4 a1_5 l1_6 = some r) :
  Calls Try.prog 66 #[.slice A0 l0.length c0, .agg #[.int .i64 a1_0, .int .i64 a1_1, .string a1_2, .slice A1_3 l1_3.length c1_3, .string a1_4, .int .i64 a1_5, .slice A1_6 l1_6.length c1_6]] w fun e w' => e = .returned (.bool r) ∧ Below w.heap.size w w' := by
 have hu72 := Try.underlying72
 have HR0 := Aside0.mk hr0
 have HC0 := Aside0.mk hc0
 clear hr0 hc0
 have HR1_3 := Aside0.mk hr1_3
 have HC1_3 := Aside0.mk hc1_3
 clear hr1_3 hc1_3
 have HR1_6 := Aside0.mk hr1_6
 have HC1_6 := Aside0.mk hc1_6
 clear hr1_6 hc1_6
 have HB := Aside0.mk (Below.refl w.heap.size w)
 have H : (if (l1_6.length : Int) = 0 then (some true) else (if (l1_6.length : Int) > 1 then (impl_rawSayable.j0 k l0 true a1_0 a1_1 a1_2 l1_3 a1_4 a1_5 l1_6) else (if 0 < (l1_6.length : Int) then (if 0 ≤ (rd l1_6 0) then (if (rd l1_6 0) < (l0.length : Int) then (impl_rawSayable.j0 k l0 (((rd_T72 l0 (rd l1_6 0)).f0) != 3) a1_0 a1_1 a1_2 l1_3 a1_4 a1_5 l1_6) else (none)) else (none)) else (none)))) = some r := h
 clear h
 by_cases c3 : (l1_6.length : Int) = 0
 ·rw [if_pos c3] at H
  have c3b0 : ((l1_6.length : Int) == 0) = true := beq_iff_eq.mpr c3
  have c3b1 : ((l1_6.length : Int) != 0) = false := bne_eq_false_iff_eq.mpr c3
  clear c3
  obtain rfl := Option.some.inj H
  go_enter Try.func66, Try.ntmps66
  go_wp2_with (first | ((with_reducible refine gate_dst (N := 3) rfl ?_); (try (refine gate_guard (by rfl) ?_; dsimp only)); refine box_event ?hg (N := 3) ?hd (cs := #[.int .i64 a1_0, .int .i64 a1_1, .string a1_2, .slice A1_3 l1_3.length c1_3, .string a1_4, .int .i64 a1_5, .slice A1_6 l1_6.length c1_6]) (t := 72) ?hr ?_; (case hd => rfl); (case hg => rfl); (case hr => first | (go_simp; done) | (go_simp; rfl)); intro gb349 hg w4 hbox hb; have n0_ := Aside0.mk (below_step ab1 hb); have n1_ := Aside0.mk (hbox); have n2_ := Aside0.mk ((by rw [hg]; exact (below_size ab1) : w.heap.size ≤ gb349)); have n3_ := Aside0.mk ((by rw [hg]; exact (below_size ab1) : w.heap.size ≤ gb349)); clear HB; have HB := n0_; have BK349 := n1_; have GW349 := n2_; have GE349 := n3_; clear n0_ n1_ n2_ n3_; clear hb hbox hg; obtain ⟨⟨hcz5_0, hcz5_1, hcz5_2, hcz5_3, hcz5_4, hcz5_5, hcz5_6⟩, hfz5_0, hfz5_1, hfz5_2, hfz5_3, hfz5_4, hfz5_5, hfz5_6⟩ := Op.cells7 BK349.out))
  go_ret
  exact ⟨ab7, ab2 GE349⟩
 ·rw [if_neg c3] at H
  have c3b0 : ((l1_6.length : Int) == 0) = false := beq_eq_false_iff_ne.mpr c3
  have c3b1 : ((l1_6.length : Int) != 0) = true := bne_iff_ne.mpr c3
  have c3b2 : ¬ (l1_6 = []) := fun h_ => c3 (by rw [h_]; rfl)
  have HC6 := Aside0.mk H
  clear H
  go_enter Try.func66, Try.ntmps66
  go_upto_region 3 with (first | ((with_reducible refine gate_dst (N := 3) rfl ?_); (try (refine gate_guard (by rfl) ?_; dsimp only)); refine box_event ?hg (N := 3) ?hd (cs := #[.int .i64 a1_0, .int .i64 a1_1, .string a1_2, .slice A1_3 l1_3.length c1_3, .string a1_4, .int .i64 a1_5, .slice A1_6 l1_6.length c1_6]) (t := 72) ?hr ?_; (case hd => rfl); (case hg => rfl); (case hr => first | (go_simp; done) | (go_simp; rfl)); intro gb349 hg w7 hbox hb; have n0_ := Aside0.mk (below_step ab1 hb); have n1_ := Aside0.mk (hbox); have n2_ := Aside0.mk ((by rw [hg]; exact (below_size ab1) : w.heap.size ≤ gb349)); have n3_ := Aside0.mk ((by rw [hg]; exact (below_size ab1) : w.heap.size ≤ gb349)); clear HB; have HB := n0_; have BK349 := n1_; have GW349 := n2_; have GE349 := n3_; clear n0_ n1_ n2_ n3_; clear hb hbox hg; obtain ⟨⟨hcz8_0, hcz8_1, hcz8_2, hcz8_3, hcz8_4, hcz8_5, hcz8_6⟩, hfz8_0, hfz8_1, hfz8_2, hfz8_3, hfz8_4, hfz8_5, hfz8_6⟩ := Op.cells7 BK349.out))
  (try simp only [Act.put, List.setIfInBounds_toArray, List.set_cons_zero, List.set_cons_succ])
  go_cut [24] (fun v24 wc => ∃ (kq : Nat) (x24_5 : Bool), v24 = .bool x24_5 ∧ Aside0 (impl_rawSayable.j0 kq l0 x24_5 a1_0 a1_1 a1_2 l1_3 a1_4 a1_5 l1_6 = some r) ∧ Aside0 (kq ≤ k) ∧ Aside0 (wc.heap[gb349]? = some (.cells #[.int .i64 a1_0, .int .i64 a1_1, .string a1_2, (.slice A1_3 l1_3.length c1_3), .string a1_4, .int .i64 a1_5, (.slice A1_6 l1_6.length c1_6)] 72 (0, 0))) ∧ Aside0 (Below w.heap.size w wc))
  case first =>
   have H := HC6.out
   clear HC6
   by_cases c9 : (l1_6.length : Int) > 1
   ·rw [if_pos c9] at H
    have c9b0 : decide (1 < (l1_6.length : Int)) = true := decide_eq_true c9
    have c9b1 : decide (1 < l1_6.length) = true := decide_eq_true (by omega)
    clear c9
    (first | rw [c9b0] | (simp only [i64_w, i32_w]; rw [c9b0]) | skip)
    (try (generalize hgzc9 : decide (1 < (l1_6.length : Int)) = bqc9 at *; subst c9b0; have c9b0 := hgzc9; clear hgzc9))
    have H' := Aside0.mk H
    clear H
    obtain ⟨⟨hcz10_0, hcz10_1, hcz10_2, hcz10_3, hcz10_4, hcz10_5, hcz10_6⟩, hfz10_0, hfz10_1, hfz10_2, hfz10_3, hfz10_4, hfz10_5, hfz10_6⟩ := Op.cells7 BK349.out
    go_wp2
    go_meet
    case rel => exact ⟨_, (true), ab6, (by first | exact H' | (have h_ := H'.out; rw [c9b0] at h_; exact ⟨h_⟩)), ⟨by first | omega | exact Nat.le_refl _⟩, ⟨ab3 BK349⟩, ⟨ab2 GE349⟩⟩
   ·rw [if_neg c9] at H
    have c9b0 : decide (1 < (l1_6.length : Int)) = false := decide_eq_false c9
    have c9b1 : decide (1 < l1_6.length) = false := decide_eq_false (by omega)
    clear c9
    (first | rw [c9b0] | (simp only [i64_w, i32_w]; rw [c9b0]) | skip)
    (try (generalize hgzc9 : decide (1 < (l1_6.length : Int)) = bqc9 at *; subst c9b0; have c9b0 := hgzc9; clear hgzc9))
    by_cases c11 : 0 < (l1_6.length : Int)
    case neg => rw [if_neg c11] at H; exact absurd H (by simp)
    rw [if_pos c11] at H
    have c11b0 := decide_eq_true c11
    have c11b1 : decide (0 < l1_6.length) = true := decide_eq_true (by omega)
    clear c11
    by_cases c12 : 0 ≤ (rd l1_6 0)
    case neg => rw [if_neg c12] at H; exact absurd H (by simp)
    rw [if_pos c12] at H
    have c12b0 := decide_eq_true c12
    clear c12
    by_cases c13 : (rd l1_6 0) < (l0.length : Int)
    case neg => rw [if_neg c13] at H; exact absurd H (by simp)
    rw [if_pos c13] at H
    have c13b0 := decide_eq_true c13
    clear c13
    have H' := Aside0.mk H
    clear H
    obtain ⟨⟨hcz14_0, hcz14_1, hcz14_2, hcz14_3, hcz14_4, hcz14_5, hcz14_6⟩, hfz14_0, hfz14_1, hfz14_2, hfz14_3, hfz14_4, hfz14_5, hfz14_6⟩ := Op.cells7 BK349.out
    have p350 : 0 ≤ (0 : Int) := (by omega)
    have q350 : 0 < (l1_6.length : Int) := of_decide_eq_true ab4
    obtain ⟨ad350, e350, hx350_0⟩ := Kd.at_int HR1_6.out 0 p350 q350
    cases e350
    have qi350 : (0 < l1_6.length) = True := eq_true (by omega)
    (try rw [show ((0 : Int)).toNat = 0 from rfl] at hx350_0)
    (try rw [Addr.add_zero'] at hx350_0)
    replace hx350_0 := pw_cell_below HB.out hx350_0
    replace p350 := eq_true p350
    replace q350 := eq_true q350
    have p351 : 0 ≤ ((rd l1_6 0) : Int) := of_decide_eq_true ab4
    have q351 : (rd l1_6 0) < (l0.length : Int) := of_decide_eq_true ab4
    obtain ⟨ad351, A351_3, c351_3, A351_6, c351_6, e351, hx351_0, hx351_1, hx351_2, hx351_3, hx351_4, hx351_5, hx351_6, hl351_3, hi351_3, hl351_6, hi351_6⟩ := at_T72 HR0.out (rd l1_6 0) p351 q351
    cases e351
    replace hx351_0 := pw_cell_below HB.out hx351_0
    replace hx351_1 := pw_cell_below HB.out hx351_1
    replace hx351_2 := pw_cell_below HB.out hx351_2
    replace hx351_3 := pw_cell_below HB.out hx351_3
    replace hx351_4 := pw_cell_below HB.out hx351_4
    replace hx351_5 := pw_cell_below HB.out hx351_5
    replace hx351_6 := pw_cell_below HB.out hx351_6
    have HR351_3 := Aside0.mk hi351_3
    have HC351_3 := Aside0.mk hl351_3
    clear hi351_3 hl351_3
    have HR351_6 := Aside0.mk hi351_6
    have HC351_6 := Aside0.mk hl351_6
    clear hi351_6 hl351_6
    replace p351 := eq_true p351
    replace q351 := eq_true q351
    go_wp2
    go_meet
    case rel => exact ⟨_, ((((rd_T72 l0 (rd l1_6 0)).f0) != 3)), ab6, (by first | exact H' | (have h_ := H'.out; rw [c9b0] at h_; exact ⟨h_⟩)), ⟨by first | omega | exact Nat.le_refl _⟩, ⟨ab3 BK349⟩, ⟨ab2 GE349⟩⟩
  case rest =>
   clear HC6
   (try clear c1); (try clear p2); (try clear c3); (try clear c3b0); (try clear c3b1); (try clear c3b2); (try clear p3); (try clear q3); (try clear hx3); (try clear qi3); (try clear c6); (try clear c9); (try clear c9b0); (try clear c9b1); (try clear c11); (try clear c11b0); (try clear c11b1); (try clear c12); (try clear c12b0); (try clear c13); (try clear c13b0); (try clear hcz10_0); (try clear hcz10_1); (try clear hcz10_2); (try clear hcz10_3); (try clear hcz10_4); (try clear hcz10_5); (try clear hcz10_6); (try clear hcz14_0); (try clear hcz14_1); (try clear hcz14_2); (try clear hcz14_3); (try clear hcz14_4); (try clear hcz14_5); (try clear hcz14_6); (try clear hcz5_0); (try clear hcz5_1); (try clear hcz5_2); (try clear hcz5_3); (try clear hcz5_4); (try clear hcz5_5); (try clear hcz5_6); (try clear hcz8_0); (try clear hcz8_1); (try clear hcz8_2); (try clear hcz8_3); (try clear hcz8_4); (try clear hcz8_5); (try clear hcz8_6); (try clear hfz10_0); (try clear hfz10_1); (try clear hfz10_2); (try clear hfz10_3); (try clear hfz10_4); (try clear hfz10_5); (try clear hfz10_6); (try clear hfz14_0); (try clear hfz14_1); (try clear hfz14_2); (try clear hfz14_3); (try clear hfz14_4); (try clear hfz14_5); (try clear hfz14_6); (try clear hfz5_0); (try clear hfz5_1); (try clear hfz5_2); (try clear hfz5_3); (try clear hfz5_4); (try clear hfz5_5); (try clear hfz5_6); (try clear hfz8_0); (try clear hfz8_1); (try clear hfz8_2); (try clear hfz8_3); (try clear hfz8_4); (try clear hfz8_5); (try clear hfz8_6); (try clear hx350_0); (try clear hx351_0); (try clear hx351_1); (try clear hx351_2); (try clear hx351_3); (try clear hx351_4); (try clear hx351_5); (try clear hx351_6); (try clear p350); (try clear p351); (try clear q350); (try clear q351)
   obtain ⟨kq, x24_5, rfl, HA, HJ5, BK349, HB⟩ := hcut
   cases kq with
   | zero => exact absurd HA.out (by simp [impl_rawSayable.j0])
   | succ kj5 =>
    have H := HA.out
    clear HA
    simp only [impl_rawSayable.j0] at H
    by_cases c15 : x24_5 = true
    ·subst c15
     rw [if_pos rfl] at H
     obtain rfl := Option.some.inj H
     go_wp2
     go_ret
     exact ⟨ab7, ab2 GE349⟩
    ·replace c15 := Bool.eq_false_iff.mpr c15
     subst c15
     rw [if_neg (show ¬ (false = true) by decide)] at H
     by_cases c16 : 0 < (l1_6.length : Int)
     case neg => rw [if_neg c16] at H; exact absurd H (by simp)
     rw [if_pos c16] at H
     have c16b0 := decide_eq_true c16
     have c16b1 : decide (0 < l1_6.length) = true := decide_eq_true (by omega)
     clear c16
     by_cases c17 : 0 ≤ (rd l1_6 0)
     case neg => rw [if_neg c17] at H; exact absurd H (by simp)
     rw [if_pos c17] at H
     have c17b0 := decide_eq_true c17
     clear c17
     by_cases c18 : (rd l1_6 0) < (l0.length : Int)
     case neg => rw [if_neg c18] at H; exact absurd H (by simp)
     rw [if_pos c18] at H
     have c18b0 := decide_eq_true c18
     clear c18
     replace H := Option.bind_eq_some_iff.mp H
     obtain ⟨t354, A190, H⟩ := H
     try dsimp only at H
     have A19 := Aside0.mk A190
     clear A190
     by_cases c20 : t354 = true
     ·subst c20
      rw [if_pos rfl] at H
      replace H := Option.bind_eq_some_iff.mp H
      obtain ⟨t355, A210, H⟩ := H
      try dsimp only at H
      have A21 := Aside0.mk A210
      clear A210
      obtain rfl := Option.some.inj H
      obtain ⟨⟨hcz22_0, hcz22_1, hcz22_2, hcz22_3, hcz22_4, hcz22_5, hcz22_6⟩, hfz22_0, hfz22_1, hfz22_2, hfz22_3, hfz22_4, hfz22_5, hfz22_6⟩ := Op.cells7 BK349.out
      have p352 : 0 ≤ (0 : Int) := (by omega)
      have q352 : 0 < (l1_6.length : Int) := of_decide_eq_true ab4
      obtain ⟨ad352, e352, hx352_0⟩ := Kd.at_int HR1_6.out 0 p352 q352
      cases e352
      have qi352 : (0 < l1_6.length) = True := eq_true (by omega)
      (try rw [show ((0 : Int)).toNat = 0 from rfl] at hx352_0)
      (try rw [Addr.add_zero'] at hx352_0)
      replace hx352_0 := pw_cell_below HB.out hx352_0
      replace p352 := eq_true p352
      replace q352 := eq_true q352
      have p353 : 0 ≤ ((rd l1_6 0) : Int) := of_decide_eq_true ab4
      have q353 : (rd l1_6 0) < (l0.length : Int) := of_decide_eq_true ab4
      obtain ⟨ad353, A353_3, c353_3, A353_6, c353_6, e353, hx353_0, hx353_1, hx353_2, hx353_3, hx353_4, hx353_5, hx353_6, hl353_3, hi353_3, hl353_6, hi353_6⟩ := at_T72 HR0.out (rd l1_6 0) p353 q353
      cases e353
      replace hx353_0 := pw_cell_below HB.out hx353_0
      replace hx353_1 := pw_cell_below HB.out hx353_1
      replace hx353_2 := pw_cell_below HB.out hx353_2
      replace hx353_3 := pw_cell_below HB.out hx353_3
      replace hx353_4 := pw_cell_below HB.out hx353_4
      replace hx353_5 := pw_cell_below HB.out hx353_5
      replace hx353_6 := pw_cell_below HB.out hx353_6
      have HR353_3 := Aside0.mk hi353_3
      have HC353_3 := Aside0.mk hl353_3
      clear hi353_3 hl353_3
      have HR353_6 := Aside0.mk hi353_6
      have HC353_6 := Aside0.mk hl353_6
      clear hi353_6 hl353_6
      replace p353 := eq_true p353
      replace q353 := eq_true q353
      go_wp2_with (first | ((with_reducible refine gate_callee (f := 122) rfl ?_); refine goesL_ (some 35) rfl rfl Try.func122 (by kernel_rfl) rfl #[.string a1_2] rfl ab5 ?_; (with_reducible refine (impl_isPlainRaw.calls a1_2 true _ A19.out).mono ?_); rintro e w' ⟨rfl, ⟨nd, rfl⟩⟩; refine ⟨_, rfl, ?_⟩) | (go_at_call 123; (with_reducible refine (impl_RawEnd.calls kj5 ((rd_T72 l0 (rd l1_6 0)).f4) 0 a1_2 t355 _ A21.out).mono ?_); rintro e w23 ⟨rfl, hb⟩; have n0_ := Aside0.mk (blk_below (g := gb349) (o := .cells #[.int .i64 a1_0, .int .i64 a1_1, .string a1_2, .slice A1_3 l1_3.length c1_3, .string a1_4, .int .i64 a1_5, .slice (some ad352) l1_6.length c1_6] 72 (0, 0)) (ab3 BK349) hb); have n1_ := Aside0.mk (below_step (ab2 GE349) hb); clear BK349; clear HB; have BK349 := n0_; have HB := n1_; clear n0_ n1_; (try clear hb); (try clear hb2); (try clear hk); (try clear hi)))
      go_ret
      exact ⟨ab7, ab2 GE349⟩
     ·replace c20 := Bool.eq_false_iff.mpr c20
      subst c20
      rw [if_neg (show ¬ (false = true) by decide)] at H
      obtain rfl := Option.some.inj H
      obtain ⟨⟨hcz24_0, hcz24_1, hcz24_2, hcz24_3, hcz24_4, hcz24_5, hcz24_6⟩, hfz24_0, hfz24_1, hfz24_2, hfz24_3, hfz24_4, hfz24_5, hfz24_6⟩ := Op.cells7 BK349.out
      have p352 : 0 ≤ (0 : Int) := (by omega)
      have q352 : 0 < (l1_6.length : Int) := of_decide_eq_true ab4
      obtain ⟨ad352, e352, hx352_0⟩ := Kd.at_int HR1_6.out 0 p352 q352
      cases e352
      have qi352 : (0 < l1_6.length) = True := eq_true (by omega)
      (try rw [show ((0 : Int)).toNat = 0 from rfl] at hx352_0)
      (try rw [Addr.add_zero'] at hx352_0)
      replace hx352_0 := pw_cell_below HB.out hx352_0
      replace p352 := eq_true p352
      replace q352 := eq_true q352
      have p353 : 0 ≤ ((rd l1_6 0) : Int) := of_decide_eq_true ab4
      have q353 : (rd l1_6 0) < (l0.length : Int) := of_decide_eq_true ab4
      obtain ⟨ad353, A353_3, c353_3, A353_6, c353_6, e353, hx353_0, hx353_1, hx353_2, hx353_3, hx353_4, hx353_5, hx353_6, hl353_3, hi353_3, hl353_6, hi353_6⟩ := at_T72 HR0.out (rd l1_6 0) p353 q353
      cases e353
      replace hx353_0 := pw_cell_below HB.out hx353_0
      replace hx353_1 := pw_cell_below HB.out hx353_1
      replace hx353_2 := pw_cell_below HB.out hx353_2
      replace hx353_3 := pw_cell_below HB.out hx353_3
      replace hx353_4 := pw_cell_below HB.out hx353_4
      replace hx353_5 := pw_cell_below HB.out hx353_5
      replace hx353_6 := pw_cell_below HB.out hx353_6
      have HR353_3 := Aside0.mk hi353_3
      have HC353_3 := Aside0.mk hl353_3
      clear hi353_3 hl353_3
      have HR353_6 := Aside0.mk hi353_6
      have HC353_6 := Aside0.mk hl353_6
      clear hi353_6 hl353_6
      replace p353 := eq_true p353
      replace q353 := eq_true q353
      go_wp2_with (first | ((with_reducible refine gate_callee (f := 122) rfl ?_); refine goesL_ (some 35) rfl rfl Try.func122 (by kernel_rfl) rfl #[.string a1_2] rfl ab5 ?_; (with_reducible refine (impl_isPlainRaw.calls a1_2 false _ A19.out).mono ?_); rintro e w' ⟨rfl, ⟨nd, rfl⟩⟩; refine ⟨_, rfl, ?_⟩))
      go_ret
      exact ⟨ab7, ab2 GE349⟩

end Go.Proofs.Ytaomfbbbdddlmaa.P
