-- WRITTEN BY hprint.py, this session's own program, over the kit's printer: not typed by hand; Lean checks it
import Derived.Test.YtaomfbbbdddlmaaQs0
import Derived.Test.YtaomfbbbdddlmaaQs9
import Derived.Test.YtaomfbbbdddlmaaQs10
namespace Go.Proofs.Ytaomfbbbdddlmaa.P
open Go.RowKit Go.Proofs.YtaomfbbbdddlmaaW.PrintWords Go.Proofs.YtaomfbbbdddlmaaW.PrintLast Go.Proofs.YtaomfbbbdddlmaaW.PrintMore
attribute [local go_sem] max2_int min2_int max_two min_two max_three min_three max_four min_four   -- for this text's walks alone
set_option linter.unusedVariables false
set_option linter.unusedSimpArgs false

/-! ### spec_Raw: function 62 -/
def spec_Raw.f (a0 : ByteArray) : Option (Bool) := if a0.toList = ([115, 99, 114, 105, 112, 116] : List UInt8) then (some true) else (if a0.toList = ([115, 116, 121, 108, 101] : List UInt8) then (some true) else (if a0.toList = ([116, 105, 116, 108, 101] : List UInt8) then (some true) else (some (a0.toList == ([116, 101, 120, 116, 97, 114, 101, 97] : List UInt8)))))
set_option maxHeartbeats 8000000 in
set_option maxRecDepth 100000 in
theorem spec_Raw.calls (a0 : ByteArray) (r : Bool) (w : World) (h : spec_Raw.f a0 = some r) :
  Calls Try.prog 62 #[.string a0] w fun e w' => e = .returned (.bool r) ∧ Drawn0 w w' := by
 have H : (if a0.toList = ([115, 99, 114, 105, 112, 116] : List UInt8) then (some true) else (if a0.toList = ([115, 116, 121, 108, 101] : List UInt8) then (some true) else (if a0.toList = ([116, 105, 116, 108, 101] : List UInt8) then (some true) else (some (a0.toList == ([116, 101, 120, 116, 97, 114, 101, 97] : List UInt8)))))) = some r := h
 clear h
 by_cases c2 : a0.toList = ([115, 99, 114, 105, 112, 116] : List UInt8)
 ·rw [if_pos c2] at H
  have c2b0 : (a0.toList == ([115, 99, 114, 105, 112, 116] : List UInt8)) = true := beq_iff_eq.mpr c2
  have c2b1 : (a0.toList != ([115, 99, 114, 105, 112, 116] : List UInt8)) = false := bne_eq_false_iff_eq.mpr c2
  clear c2
  obtain rfl := Option.some.inj H
  go_enter Try.func62, Try.ntmps62
  go_wp2
  go_ret
  exact ⟨ab6, by repeat (first | exact Drawn0.refl _ | apply Drawn0.step)⟩
 ·rw [if_neg c2] at H
  have c2b0 : (a0.toList == ([115, 99, 114, 105, 112, 116] : List UInt8)) = false := beq_eq_false_iff_ne.mpr c2
  have c2b1 : (a0.toList != ([115, 99, 114, 105, 112, 116] : List UInt8)) = true := bne_iff_ne.mpr c2
  by_cases c3 : a0.toList = ([115, 116, 121, 108, 101] : List UInt8)
  ·rw [if_pos c3] at H
   have c3b0 : (a0.toList == ([115, 116, 121, 108, 101] : List UInt8)) = true := beq_iff_eq.mpr c3
   have c3b1 : (a0.toList != ([115, 116, 121, 108, 101] : List UInt8)) = false := bne_eq_false_iff_eq.mpr c3
   clear c3
   obtain rfl := Option.some.inj H
   go_enter Try.func62, Try.ntmps62
   go_wp2
   go_ret
   exact ⟨ab6, by repeat (first | exact Drawn0.refl _ | apply Drawn0.step)⟩
  ·rw [if_neg c3] at H
   have c3b0 : (a0.toList == ([115, 116, 121, 108, 101] : List UInt8)) = false := beq_eq_false_iff_ne.mpr c3
   have c3b1 : (a0.toList != ([115, 116, 121, 108, 101] : List UInt8)) = true := bne_iff_ne.mpr c3
   by_cases c4 : a0.toList = ([116, 105, 116, 108, 101] : List UInt8)
   ·rw [if_pos c4] at H
    have c4b0 : (a0.toList == ([116, 105, 116, 108, 101] : List UInt8)) = true := beq_iff_eq.mpr c4
    have c4b1 : (a0.toList != ([116, 105, 116, 108, 101] : List UInt8)) = false := bne_eq_false_iff_eq.mpr c4
    clear c4
    obtain rfl := Option.some.inj H
    go_enter Try.func62, Try.ntmps62
    go_wp2
    go_ret
    exact ⟨ab6, by repeat (first | exact Drawn0.refl _ | apply Drawn0.step)⟩
   ·rw [if_neg c4] at H
    have c4b0 : (a0.toList == ([116, 105, 116, 108, 101] : List UInt8)) = false := beq_eq_false_iff_ne.mpr c4
    have c4b1 : (a0.toList != ([116, 105, 116, 108, 101] : List UInt8)) = true := bne_iff_ne.mpr c4
    obtain rfl := Option.some.inj H
    go_enter Try.func62, Try.ntmps62
    go_wp2
    go_ret
    exact ⟨ab6, by repeat (first | exact Drawn0.refl _ | apply Drawn0.step)⟩

/-! ### spec_l1Max: function 92 -/
def spec_l1Max.f (a0 : Int) (a1 : Int) : Option (Int) := if a0 > a1 then (some a0) else (some a1)
set_option maxHeartbeats 8000000 in
set_option maxRecDepth 100000 in
theorem spec_l1Max.calls (a0 : Int) (a1 : Int) (r : Int) (w : World) (h : spec_l1Max.f a0 a1 = some r) :
  Calls Try.prog 92 #[.int .i64 a0, .int .i64 a1] w fun e w' => e = .returned (.int .i64 r) ∧ Drawn0 w w' := by
 have H : (if a0 > a1 then (some a0) else (some a1)) = some r := h
 clear h
 by_cases c3 : a0 > a1
 ·rw [if_pos c3] at H
  have c3b0 : decide (a1 < a0) = true := decide_eq_true c3
  clear c3
  obtain rfl := Option.some.inj H
  go_enter Try.func92, Try.ntmps92
  go_wp2
  go_ret
  exact ⟨ab6, by repeat (first | exact Drawn0.refl _ | apply Drawn0.step)⟩
 ·rw [if_neg c3] at H
  have c3b0 : decide (a1 < a0) = false := decide_eq_false c3
  clear c3
  obtain rfl := Option.some.inj H
  go_enter Try.func92, Try.ntmps92
  go_wp2
  go_ret
  exact ⟨ab6, by repeat (first | exact Drawn0.refl _ | apply Drawn0.step)⟩

/-! ### spec_RawEnd: function 63 -/
def spec_RawEnd.l0 : Nat → ByteArray → ByteArray → Int → Int → Option (Int)
 | 0, _, _, _, _ => none
 | k + 1, x0, x2, x7, x8 => if (wrap64 ((wrap64 (x8 + 2)) + x7)) < (x0.size : Int) then (if 0 ≤ x8 then (if x8 < (x0.size : Int) then (if (bt x0 x8) = 60 then (if 0 ≤ (wrap64 (x8 + 1)) then (if (wrap64 (x8 + 1)) < (x0.size : Int) then (if (bt x0 (wrap64 (x8 + 1))) = 47 then (if 0 ≤ (wrap64 (x8 + 2)) then (if (wrap64 (x8 + 2)) ≤ (wrap64 ((wrap64 (x8 + 2)) + x7)) then (if (wrap64 ((wrap64 (x8 + 2)) + x7)) ≤ (x0.size : Int) then ((spec_Small.f (x0.extract ((wrap64 (x8 + 2)) : Int).toNat ((wrap64 ((wrap64 (x8 + 2)) + x7)) : Int).toNat)).bind fun t272 => ((spec_Small.f x2).bind fun t273 => (if t272.toList = t273.toList then (if 0 ≤ (wrap64 ((wrap64 (x8 + 2)) + x7)) then ((spec_l4Blank.f (bt x0 (wrap64 ((wrap64 (x8 + 2)) + x7)))).bind fun t274 => (if t274 = true then (some x8) else (if (bt x0 (wrap64 ((wrap64 (x8 + 2)) + x7))) = 47 then (some x8) else (if (bt x0 (wrap64 ((wrap64 (x8 + 2)) + x7))) = 62 then (some x8) else (spec_RawEnd.l0 k x0 x2 x7 (wrap64 (x8 + 1))))))) else (none)) else (spec_RawEnd.l0 k x0 x2 x7 (wrap64 (x8 + 1)))))) else (none)) else (none)) else (none)) else (spec_RawEnd.l0 k x0 x2 x7 (wrap64 (x8 + 1)))) else (none)) else (none)) else (spec_RawEnd.l0 k x0 x2 x7 (wrap64 (x8 + 1)))) else (none)) else (none)) else (some (x0.size : Int))
def spec_RawEnd.f (k : Nat) (a0 : ByteArray) (a1 : Int) (a2 : ByteArray) : Option (Int) := if a1 ≥ (a0.size : Int) then (some (a0.size : Int)) else ((spec_l1Max.f a1 0).bind fun t271 => (spec_RawEnd.l0 k a0 a2 (a2.size : Int) t271))
theorem spec_RawEnd.mono_l : ∀ k, (∀ y0 y1 y2 y3, LeO (spec_RawEnd.l0 k y0 y1 y2 y3) (spec_RawEnd.l0 (k + 1) y0 y1 y2 y3))
 | 0 => fun _ _ _ _ r h => by simp [spec_RawEnd.l0] at h
 | k + 1 => by
  have ih0 := spec_RawEnd.mono_l k
  ·intro y0 y1 y2 y3
   unfold spec_RawEnd.l0
   repeat' first
   | (with_reducible exact ih0 _ _ _ _)
   | (with_reducible exact LeO.refl _)
   | (with_reducible exact LeO.none _)
   | (with_reducible refine LeO.ite ?_ ?_)
   | (with_reducible refine LeO.bind ?_ (fun _ => ?_))
theorem spec_RawEnd.mono : ∀ a0 a1 a2 k, LeO (spec_RawEnd.f k a0 a1 a2) (spec_RawEnd.f (k + 1) a0 a1 a2) := by
 intro a0 a1 a2 k
 have ih0 := spec_RawEnd.mono_l k
 unfold spec_RawEnd.f
 repeat' first
   | (with_reducible exact ih0 _ _ _ _)
   | (with_reducible exact LeO.refl _)
   | (with_reducible exact LeO.none _)
   | (with_reducible refine LeO.ite ?_ ?_)
   | (with_reducible refine LeO.bind ?_ (fun _ => ?_))
set_option maxHeartbeats 8000000 in
set_option maxRecDepth 100000 in
theorem spec_RawEnd.calls (k : Nat) (a0 : ByteArray) (a1 : Int) (a2 : ByteArray) (r : Int) (w : World) (h : spec_RawEnd.f k a0 a1 a2 = some r) :
  Calls Try.prog 63 #[.string a0, .int .i64 a1, .string a2] w fun e w' => e = .returned (.int .i64 r) ∧ Below w.heap.size w w' := by
 have HB := Aside0.mk (Below.refl w.heap.size w)
 have H : (if a1 ≥ (a0.size : Int) then (some (a0.size : Int)) else ((spec_l1Max.f a1 0).bind fun t271 => (spec_RawEnd.l0 k a0 a2 (a2.size : Int) t271))) = some r := h
 clear h
 by_cases c4 : a1 ≥ (a0.size : Int)
 ·rw [if_pos c4] at H
  have c4b0 : decide ((a0.size : Int) ≤ a1) = true := decide_eq_true c4
  clear c4
  obtain rfl := Option.some.inj H
  go_enter Try.func63, Try.ntmps63
  go_wp2
  go_ret
  exact ⟨ab7, ab1⟩
 ·rw [if_neg c4] at H
  have c4b0 : decide ((a0.size : Int) ≤ a1) = false := decide_eq_false c4
  clear c4
  replace H := Option.bind_eq_some_iff.mp H
  obtain ⟨t271, A50, H⟩ := H
  try dsimp only at H
  have A5 := Aside0.mk A50
  clear A50
  have H' := Aside0.mk H
  clear H
  go_enter Try.func63, Try.ntmps63
  go_wp2_with (first | ((with_reducible refine gate_callee (f := 92) rfl ?_); refine goesL_ (some 18) rfl rfl Try.func92 (by kernel_rfl) rfl #[.int .i64 a1, .int .i64 0] rfl ab5 ?_; (with_reducible refine (spec_l1Max.calls a1 0 t271 _ A5.out).mono ?_); rintro e w' ⟨rfl, ⟨nd, rfl⟩⟩; refine ⟨_, rfl, ?_⟩))
  go_loopg [8] k (fun kq v8 w' => ∃ (x8_1 : Int), v8 = .int .i64 x8_1 ∧ Aside0 (spec_RawEnd.l0 kq a0 a2 (a2.size : Int) x8_1 = some r) ∧ Aside0 (kq ≤ k) ∧ Aside0 (Below w.heap.size w w'))
  case atStart => exact ⟨(t271), ab6, H', ⟨Nat.le_refl _⟩, ⟨ab1⟩⟩
  case round =>
   clear H'
   (try clear p2); (try clear c4); (try clear c4b0)
   obtain ⟨x8_1, rfl, HA, HK1, HB⟩ := hrel
   cases gk with
   | zero => exact absurd HA.out (by simp [spec_RawEnd.l0])
   | succ k1 =>
    have H := HA.out
    clear HA
    simp only [spec_RawEnd.l0] at H
    by_cases c6 : (wrap64 ((wrap64 (x8_1 + 2)) + (a2.size : Int))) < (a0.size : Int)
    ·rw [if_pos c6] at H
     have c6b0 := decide_eq_true c6
     clear c6
     by_cases c7 : 0 ≤ x8_1
     case neg => rw [if_neg c7] at H; exact absurd H (by simp)
     rw [if_pos c7] at H
     have c7b0 := decide_eq_true c7
     clear c7
     by_cases c8 : x8_1 < (a0.size : Int)
     case neg => rw [if_neg c8] at H; exact absurd H (by simp)
     rw [if_pos c8] at H
     have c8b0 := decide_eq_true c8
     clear c8
     by_cases c10 : (bt a0 x8_1) = 60
     ·rw [if_pos c10] at H
      have c10b0 : ((bt a0 x8_1) == 60) = true := beq_iff_eq.mpr c10
      have c10b1 : ((bt a0 x8_1) != 60) = false := bne_eq_false_iff_eq.mpr c10
      clear c10
      obtain ⟨ji11, hji11⟩ : ∃ j_ : Int, (wrap64 (x8_1 + 1)) = j_ := ⟨_, rfl⟩
      replace H : (if 0 ≤ (ji11) then (if (ji11) < (a0.size : Int) then (if (bt a0 (ji11)) = 47 then (if 0 ≤ (wrap64 (x8_1 + 2)) then (if (wrap64 (x8_1 + 2)) ≤ (wrap64 ((wrap64 (x8_1 + 2)) + (a2.size : Int))) then (if (wrap64 ((wrap64 (x8_1 + 2)) + (a2.size : Int))) ≤ (a0.size : Int) then ((spec_Small.f (a0.extract ((wrap64 (x8_1 + 2)) : Int).toNat ((wrap64 ((wrap64 (x8_1 + 2)) + (a2.size : Int))) : Int).toNat)).bind fun t272 => ((spec_Small.f a2).bind fun t273 => (if t272.toList = t273.toList then (if 0 ≤ (wrap64 ((wrap64 (x8_1 + 2)) + (a2.size : Int))) then ((spec_l4Blank.f (bt a0 (wrap64 ((wrap64 (x8_1 + 2)) + (a2.size : Int))))).bind fun t274 => (if t274 = true then (some x8_1) else (if (bt a0 (wrap64 ((wrap64 (x8_1 + 2)) + (a2.size : Int)))) = 47 then (some x8_1) else (if (bt a0 (wrap64 ((wrap64 (x8_1 + 2)) + (a2.size : Int)))) = 62 then (some x8_1) else (spec_RawEnd.l0 k1 a0 a2 (a2.size : Int) ji11))))) else (none)) else (spec_RawEnd.l0 k1 a0 a2 (a2.size : Int) ji11)))) else (none)) else (none)) else (none)) else (spec_RawEnd.l0 k1 a0 a2 (a2.size : Int) ji11)) else (none)) else (none)) = some r := by first | (rw [hji11] at H; exact H) | (simp only [hji11] at H ⊢; exact H)
      have hji11w : (IntKind.i64.wrap (x8_1 + 1)) = ji11 := (i64_w _).trans hji11
      by_cases c12 : 0 ≤ (ji11)
      case neg => rw [if_neg c12] at H; exact absurd H (by simp)
      rw [if_pos c12] at H
      have c12b0 := decide_eq_true c12
      clear c12
      by_cases c13 : (ji11) < (a0.size : Int)
      case neg => rw [if_neg c13] at H; exact absurd H (by simp)
      rw [if_pos c13] at H
      have c13b0 := decide_eq_true c13
      clear c13
      by_cases c15 : (bt a0 (ji11)) = 47
      ·rw [if_pos c15] at H
       have c15b0 : ((bt a0 (ji11)) == 47) = true := beq_iff_eq.mpr c15
       have c15b1 : ((bt a0 (ji11)) != 47) = false := bne_eq_false_iff_eq.mpr c15
       clear c15
       obtain ⟨ji16, hji16⟩ : ∃ j_ : Int, (wrap64 (x8_1 + 2)) = j_ := ⟨_, rfl⟩
       replace H : (if 0 ≤ (ji16) then (if (ji16) ≤ (wrap64 ((ji16) + (a2.size : Int))) then (if (wrap64 ((ji16) + (a2.size : Int))) ≤ (a0.size : Int) then ((spec_Small.f (a0.extract ((ji16) : Int).toNat ((wrap64 ((ji16) + (a2.size : Int))) : Int).toNat)).bind fun t272 => ((spec_Small.f a2).bind fun t273 => (if t272.toList = t273.toList then (if 0 ≤ (wrap64 ((ji16) + (a2.size : Int))) then ((spec_l4Blank.f (bt a0 (wrap64 ((ji16) + (a2.size : Int))))).bind fun t274 => (if t274 = true then (some x8_1) else (if (bt a0 (wrap64 ((ji16) + (a2.size : Int)))) = 47 then (some x8_1) else (if (bt a0 (wrap64 ((ji16) + (a2.size : Int)))) = 62 then (some x8_1) else (spec_RawEnd.l0 k1 a0 a2 (a2.size : Int) ji11))))) else (none)) else (spec_RawEnd.l0 k1 a0 a2 (a2.size : Int) ji11)))) else (none)) else (none)) else (none)) = some r := by first | (rw [hji16] at H; exact H) | (simp only [hji16] at H ⊢; exact H)
       (try rw [hji16] at c6b0)
       have hji16w : (IntKind.i64.wrap (x8_1 + 2)) = ji16 := (i64_w _).trans hji16
       by_cases c17 : 0 ≤ (ji16)
       case neg => rw [if_neg c17] at H; exact absurd H (by simp)
       rw [if_pos c17] at H
       have c17b0 := eq_true c17
       have c17b1 := decide_eq_true c17
       clear c17
       by_cases c18 : (ji16) ≤ (wrap64 ((ji16) + (a2.size : Int)))
       case neg => rw [if_neg c18] at H; exact absurd H (by simp)
       rw [if_pos c18] at H
       have c18b0 := eq_true c18
       have c18b1 := decide_eq_true c18
       by_cases c19 : (wrap64 ((ji16) + (a2.size : Int))) ≤ (a0.size : Int)
       case neg => rw [if_neg c19] at H; exact absurd H (by simp)
       rw [if_pos c19] at H
       have c19b0 := eq_true c19
       have c19b1 := decide_eq_true c19
       replace H := Option.bind_eq_some_iff.mp H
       obtain ⟨t272, A200, H⟩ := H
       try dsimp only at H
       have A20 := Aside0.mk A200
       clear A200
       replace H := Option.bind_eq_some_iff.mp H
       obtain ⟨t273, A210, H⟩ := H
       try dsimp only at H
       have A21 := Aside0.mk A210
       clear A210
       by_cases c22 : t272.toList = t273.toList
       ·rw [if_pos c22] at H
        have c22b0 : (t272.toList == t273.toList) = true := beq_iff_eq.mpr c22
        have c22b1 : (t272.toList != t273.toList) = false := bne_eq_false_iff_eq.mpr c22
        clear c22
        obtain ⟨ji23, hji23⟩ : ∃ j_ : Int, (wrap64 ((ji16) + (a2.size : Int))) = j_ := ⟨_, rfl⟩
        replace H : (if 0 ≤ (ji23) then ((spec_l4Blank.f (bt a0 (ji23))).bind fun t274 => (if t274 = true then (some x8_1) else (if (bt a0 (ji23)) = 47 then (some x8_1) else (if (bt a0 (ji23)) = 62 then (some x8_1) else (spec_RawEnd.l0 k1 a0 a2 (a2.size : Int) ji11))))) else (none)) = some r := by first | (rw [hji23] at H; exact H) | (simp only [hji23] at H ⊢; exact H)
        (try rw [hji23] at c18b0)
        (try rw [hji23] at c18b1)
        (try rw [hji23] at c18)
        (try rw [hji23] at c19b0)
        (try rw [hji23] at c19b1)
        (try rw [hji23] at c19)
        (try rw [hji23] at A20)
        (try rw [hji23] at A21)
        (try rw [hji23] at c6b0)
        have hji23w : (IntKind.i64.wrap ((ji16) + (a2.size : Int))) = ji23 := (i64_w _).trans hji23
        by_cases c24 : 0 ≤ (ji23)
        case neg => rw [if_neg c24] at H; exact absurd H (by simp)
        rw [if_pos c24] at H
        have c24b0 := decide_eq_true c24
        clear c24
        replace H := Option.bind_eq_some_iff.mp H
        obtain ⟨t274, A260, H⟩ := H
        try dsimp only at H
        have A26 := Aside0.mk A260
        clear A260
        by_cases c27 : t274 = true
        ·subst c27
         rw [if_pos rfl] at H
         obtain rfl := Option.some.inj H
         have p9 : 0 ≤ (x8_1 : Int) := of_decide_eq_true ab4
         have q9 : x8_1 < (a0.size : Int) := of_decide_eq_true ab4
         have hx9 := bt_at a0 x8_1
         replace p9 := eq_true p9
         replace q9 := eq_true q9
         have p14 : 0 ≤ ((ji11) : Int) := of_decide_eq_true ab4
         have q14 : (ji11) < (a0.size : Int) := of_decide_eq_true ab4
         have hx14 := bt_at a0 (ji11)
         replace p14 := eq_true p14
         replace q14 := eq_true q14
         go_wp2_with (first | (go_at_call 112; (with_reducible refine (spec_Small.calls (a0.extract ((ji16) : Int).toNat ((ji23) : Int).toNat) t272 _ A20.out).mono ?_); rintro e w28 ⟨rfl, hb⟩; have n0_ := Aside0.mk (below_step ab1 hb); clear HB; have HB := n0_; clear n0_; (try clear hb); (try clear hb2); (try clear hk); (try clear hi)) | (go_at_call 112; (with_reducible refine (spec_Small.calls a2 t273 _ A21.out).mono ?_); rintro e w29 ⟨rfl, hb⟩; have n0_ := Aside0.mk (below_step ab1 hb); clear HB; have HB := n0_; clear n0_; (try clear hb); (try clear hb2); (try clear hk); (try clear hi); have p25 : 0 ≤ ((ji23) : Int) := of_decide_eq_true ab4; have q25 : (ji23) < (a0.size : Int) := of_decide_eq_true ab4; have hx25 := bt_at a0 (ji23); replace p25 := eq_true p25; replace q25 := eq_true q25) | (go_at_call 115; (with_reducible refine (spec_l4Blank.calls (bt a0 (ji23)) true _ A26.out).mono ?_); rintro e w' ⟨rfl, ⟨nd, rfl⟩⟩))
         go_ret
         exact ⟨by first | rfl | (simp [errW_none, errW_some] <;> rfl) | (simp only [← hji11, ← hji16, ← hji23]; first | rfl | (simp [errW_none, errW_some] <;> rfl)) | (simp [*, errW_none, errW_some] <;> rfl), ab1⟩
        ·replace c27 := Bool.eq_false_iff.mpr c27
         subst c27
         rw [if_neg (show ¬ (false = true) by decide)] at H
         by_cases c31 : (bt a0 (ji23)) = 47
         ·rw [if_pos c31] at H
          have c31b0 : ((bt a0 (ji23)) == 47) = true := beq_iff_eq.mpr c31
          have c31b1 : ((bt a0 (ji23)) != 47) = false := bne_eq_false_iff_eq.mpr c31
          clear c31
          obtain rfl := Option.some.inj H
          have p9 : 0 ≤ (x8_1 : Int) := of_decide_eq_true ab4
          have q9 : x8_1 < (a0.size : Int) := of_decide_eq_true ab4
          have hx9 := bt_at a0 x8_1
          replace p9 := eq_true p9
          replace q9 := eq_true q9
          have p14 : 0 ≤ ((ji11) : Int) := of_decide_eq_true ab4
          have q14 : (ji11) < (a0.size : Int) := of_decide_eq_true ab4
          have hx14 := bt_at a0 (ji11)
          replace p14 := eq_true p14
          replace q14 := eq_true q14
          go_wp2_with (first | (go_at_call 112; (with_reducible refine (spec_Small.calls (a0.extract ((ji16) : Int).toNat ((ji23) : Int).toNat) t272 _ A20.out).mono ?_); rintro e w32 ⟨rfl, hb⟩; have n0_ := Aside0.mk (below_step ab1 hb); clear HB; have HB := n0_; clear n0_; (try clear hb); (try clear hb2); (try clear hk); (try clear hi)) | (go_at_call 112; (with_reducible refine (spec_Small.calls a2 t273 _ A21.out).mono ?_); rintro e w33 ⟨rfl, hb⟩; have n0_ := Aside0.mk (below_step ab1 hb); clear HB; have HB := n0_; clear n0_; (try clear hb); (try clear hb2); (try clear hk); (try clear hi); have p25 : 0 ≤ ((ji23) : Int) := of_decide_eq_true ab4; have q25 : (ji23) < (a0.size : Int) := of_decide_eq_true ab4; have hx25 := bt_at a0 (ji23); replace p25 := eq_true p25; replace q25 := eq_true q25) | (go_at_call 115; (with_reducible refine (spec_l4Blank.calls (bt a0 (ji23)) false _ A26.out).mono ?_); rintro e w' ⟨rfl, ⟨nd, rfl⟩⟩; have p30 : 0 ≤ ((ji23) : Int) := of_decide_eq_true ab4; have q30 : (ji23) < (a0.size : Int) := of_decide_eq_true ab4; have hx30 := bt_at a0 (ji23); replace p30 := eq_true p30; replace q30 := eq_true q30))
          go_ret
          exact ⟨by first | rfl | (simp [errW_none, errW_some] <;> rfl) | (simp only [← hji11, ← hji16, ← hji23]; first | rfl | (simp [errW_none, errW_some] <;> rfl)) | (simp [*, errW_none, errW_some] <;> rfl), ab1⟩
         ·rw [if_neg c31] at H
          have c31b0 : ((bt a0 (ji23)) == 47) = false := beq_eq_false_iff_ne.mpr c31
          have c31b1 : ((bt a0 (ji23)) != 47) = true := bne_iff_ne.mpr c31
          by_cases c35 : (bt a0 (ji23)) = 62
          ·rw [if_pos c35] at H
           have c35b0 : ((bt a0 (ji23)) == 62) = true := beq_iff_eq.mpr c35
           have c35b1 : ((bt a0 (ji23)) != 62) = false := bne_eq_false_iff_eq.mpr c35
           clear c35
           obtain rfl := Option.some.inj H
           have p9 : 0 ≤ (x8_1 : Int) := of_decide_eq_true ab4
           have q9 : x8_1 < (a0.size : Int) := of_decide_eq_true ab4
           have hx9 := bt_at a0 x8_1
           replace p9 := eq_true p9
           replace q9 := eq_true q9
           have p14 : 0 ≤ ((ji11) : Int) := of_decide_eq_true ab4
           have q14 : (ji11) < (a0.size : Int) := of_decide_eq_true ab4
           have hx14 := bt_at a0 (ji11)
           replace p14 := eq_true p14
           replace q14 := eq_true q14
           go_wp2_with (first | (go_at_call 112; (with_reducible refine (spec_Small.calls (a0.extract ((ji16) : Int).toNat ((ji23) : Int).toNat) t272 _ A20.out).mono ?_); rintro e w36 ⟨rfl, hb⟩; have n0_ := Aside0.mk (below_step ab1 hb); clear HB; have HB := n0_; clear n0_; (try clear hb); (try clear hb2); (try clear hk); (try clear hi)) | (go_at_call 112; (with_reducible refine (spec_Small.calls a2 t273 _ A21.out).mono ?_); rintro e w37 ⟨rfl, hb⟩; have n0_ := Aside0.mk (below_step ab1 hb); clear HB; have HB := n0_; clear n0_; (try clear hb); (try clear hb2); (try clear hk); (try clear hi); have p25 : 0 ≤ ((ji23) : Int) := of_decide_eq_true ab4; have q25 : (ji23) < (a0.size : Int) := of_decide_eq_true ab4; have hx25 := bt_at a0 (ji23); replace p25 := eq_true p25; replace q25 := eq_true q25) | (go_at_call 115; (with_reducible refine (spec_l4Blank.calls (bt a0 (ji23)) false _ A26.out).mono ?_); rintro e w' ⟨rfl, ⟨nd, rfl⟩⟩; have p30 : 0 ≤ ((ji23) : Int) := of_decide_eq_true ab4; have q30 : (ji23) < (a0.size : Int) := of_decide_eq_true ab4; have hx30 := bt_at a0 (ji23); replace p30 := eq_true p30; replace q30 := eq_true q30; have p34 : 0 ≤ ((ji23) : Int) := of_decide_eq_true ab4; have q34 : (ji23) < (a0.size : Int) := of_decide_eq_true ab4; have hx34 := bt_at a0 (ji23); replace p34 := eq_true p34; replace q34 := eq_true q34))
           go_ret
           exact ⟨by first | rfl | (simp [errW_none, errW_some] <;> rfl) | (simp only [← hji11, ← hji16, ← hji23]; first | rfl | (simp [errW_none, errW_some] <;> rfl)) | (simp [*, errW_none, errW_some] <;> rfl), ab1⟩
          ·rw [if_neg c35] at H
           have c35b0 : ((bt a0 (ji23)) == 62) = false := beq_eq_false_iff_ne.mpr c35
           have c35b1 : ((bt a0 (ji23)) != 62) = true := bne_iff_ne.mpr c35
           have H' := Aside0.mk H
           clear H
           have p9 : 0 ≤ (x8_1 : Int) := of_decide_eq_true ab4
           have q9 : x8_1 < (a0.size : Int) := of_decide_eq_true ab4
           have hx9 := bt_at a0 x8_1
           replace p9 := eq_true p9
           replace q9 := eq_true q9
           have p14 : 0 ≤ ((ji11) : Int) := of_decide_eq_true ab4
           have q14 : (ji11) < (a0.size : Int) := of_decide_eq_true ab4
           have hx14 := bt_at a0 (ji11)
           replace p14 := eq_true p14
           replace q14 := eq_true q14
           go_wp2_with (first | (go_at_call 112; (with_reducible refine (spec_Small.calls (a0.extract ((ji16) : Int).toNat ((ji23) : Int).toNat) t272 _ A20.out).mono ?_); rintro e w38 ⟨rfl, hb⟩; have n0_ := Aside0.mk (below_step ab1 hb); clear HB; have HB := n0_; clear n0_; (try clear hb); (try clear hb2); (try clear hk); (try clear hi)) | (go_at_call 112; (with_reducible refine (spec_Small.calls a2 t273 _ A21.out).mono ?_); rintro e w39 ⟨rfl, hb⟩; have n0_ := Aside0.mk (below_step ab1 hb); clear HB; have HB := n0_; clear n0_; (try clear hb); (try clear hb2); (try clear hk); (try clear hi); have p25 : 0 ≤ ((ji23) : Int) := of_decide_eq_true ab4; have q25 : (ji23) < (a0.size : Int) := of_decide_eq_true ab4; have hx25 := bt_at a0 (ji23); replace p25 := eq_true p25; replace q25 := eq_true q25) | (go_at_call 115; (with_reducible refine (spec_l4Blank.calls (bt a0 (ji23)) false _ A26.out).mono ?_); rintro e w' ⟨rfl, ⟨nd, rfl⟩⟩; have p30 : 0 ≤ ((ji23) : Int) := of_decide_eq_true ab4; have q30 : (ji23) < (a0.size : Int) := of_decide_eq_true ab4; have hx30 := bt_at a0 (ji23); replace p30 := eq_true p30; replace q30 := eq_true q30; have p34 : 0 ≤ ((ji23) : Int) := of_decide_eq_true ab4; have q34 : (ji23) < (a0.size : Int) := of_decide_eq_true ab4; have hx34 := bt_at a0 (ji23); replace p34 := eq_true p34; replace q34 := eq_true q34))
           go_roundg k1
           case measure => have := HK1.out; omega
           case rel => exact ⟨(ji11), (by first | rfl | (simp; done) | (simp only [← hji11] <;> (first | rfl | simp)) | (simp [*]; done)), H', ⟨by have := HK1.out; omega⟩, ⟨ab1⟩⟩
       ·rw [if_neg c22] at H
        have c22b0 : (t272.toList == t273.toList) = false := beq_eq_false_iff_ne.mpr c22
        have c22b1 : (t272.toList != t273.toList) = true := bne_iff_ne.mpr c22
        have H' := Aside0.mk H
        clear H
        have p9 : 0 ≤ (x8_1 : Int) := of_decide_eq_true ab4
        have q9 : x8_1 < (a0.size : Int) := of_decide_eq_true ab4
        have hx9 := bt_at a0 x8_1
        replace p9 := eq_true p9
        replace q9 := eq_true q9
        have p14 : 0 ≤ ((ji11) : Int) := of_decide_eq_true ab4
        have q14 : (ji11) < (a0.size : Int) := of_decide_eq_true ab4
        have hx14 := bt_at a0 (ji11)
        replace p14 := eq_true p14
        replace q14 := eq_true q14
        go_wp2_with (first | (go_at_call 112; (with_reducible refine (spec_Small.calls (a0.extract ((ji16) : Int).toNat ((wrap64 ((ji16) + (a2.size : Int))) : Int).toNat) t272 _ A20.out).mono ?_); rintro e w40 ⟨rfl, hb⟩; have n0_ := Aside0.mk (below_step ab1 hb); clear HB; have HB := n0_; clear n0_; (try clear hb); (try clear hb2); (try clear hk); (try clear hi)) | (go_at_call 112; (with_reducible refine (spec_Small.calls a2 t273 _ A21.out).mono ?_); rintro e w41 ⟨rfl, hb⟩; have n0_ := Aside0.mk (below_step ab1 hb); clear HB; have HB := n0_; clear n0_; (try clear hb); (try clear hb2); (try clear hk); (try clear hi)))
        go_roundg k1
        case measure => have := HK1.out; omega
        case rel => exact ⟨(ji11), (by first | rfl | (simp; done) | (simp only [← hji11] <;> (first | rfl | simp)) | (simp [*]; done)), H', ⟨by have := HK1.out; omega⟩, ⟨ab1⟩⟩
      ·rw [if_neg c15] at H
       have c15b0 : ((bt a0 (ji11)) == 47) = false := beq_eq_false_iff_ne.mpr c15
       have c15b1 : ((bt a0 (ji11)) != 47) = true := bne_iff_ne.mpr c15
       have H' := Aside0.mk H
       clear H
       have p9 : 0 ≤ (x8_1 : Int) := of_decide_eq_true ab4
       have q9 : x8_1 < (a0.size : Int) := of_decide_eq_true ab4
       have hx9 := bt_at a0 x8_1
       replace p9 := eq_true p9
       replace q9 := eq_true q9
       have p14 : 0 ≤ ((ji11) : Int) := of_decide_eq_true ab4
       have q14 : (ji11) < (a0.size : Int) := of_decide_eq_true ab4
       have hx14 := bt_at a0 (ji11)
       replace p14 := eq_true p14
       replace q14 := eq_true q14
       go_wp2
       go_roundg k1
       case measure => have := HK1.out; omega
       case rel => exact ⟨(ji11), (by first | rfl | (simp; done) | (simp only [← hji11] <;> (first | rfl | simp)) | (simp [*]; done)), H', ⟨by have := HK1.out; omega⟩, ⟨ab1⟩⟩
     ·rw [if_neg c10] at H
      have c10b0 : ((bt a0 x8_1) == 60) = false := beq_eq_false_iff_ne.mpr c10
      have c10b1 : ((bt a0 x8_1) != 60) = true := bne_iff_ne.mpr c10
      have H' := Aside0.mk H
      clear H
      have p9 : 0 ≤ (x8_1 : Int) := of_decide_eq_true ab4
      have q9 : x8_1 < (a0.size : Int) := of_decide_eq_true ab4
      have hx9 := bt_at a0 x8_1
      replace p9 := eq_true p9
      replace q9 := eq_true q9
      go_wp2
      go_roundg k1
      case measure => have := HK1.out; omega
      case rel => exact ⟨(wrap64 (x8_1 + 1)), ab6, H', ⟨by have := HK1.out; omega⟩, ⟨ab1⟩⟩
    ·rw [if_neg c6] at H
     have c6b0 := decide_eq_false c6
     clear c6
     obtain rfl := Option.some.inj H
     go_wp2
     go_ret
     exact ⟨ab7, ab1⟩

end Go.Proofs.Ytaomfbbbdddlmaa.P
