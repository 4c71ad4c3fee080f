-- WRITTEN BY hprint.py, this session's own program, over the kit's printer: not typed by hand; Lean checks it
import Derived.Test.YtgljgbkbjlondaaDoorPr0
import Derived.Test.YtgljgbkbjlondaaDoorPr1
import Derived.Test.YtgljgbkbjlondaaDoorPr2
import Derived.Test.YtgljgbkbjlondaaDoorPr3
import Derived.Test.YtgljgbkbjlondaaDoorPr5
namespace Go.Proofs.YtgljgbkbjlondaaDoor.P
open Go.RowKit Go.Proofs.YtgljgbkbjlondaaDoorW.PrintWords Go.Proofs.YtgljgbkbjlondaaDoorW.PrintLast Go.Proofs.YtgljgbkbjlondaaDoorW.PrintMore
attribute [local go_sem] max2_int min2_int max_two min_two max_three min_three max_four min_four   -- for this text's walks alone
set_option linter.unusedVariables false
set_option linter.unusedSimpArgs false

/-! ### impl_IsLetter: function 94 -/
def impl_IsLetter.f (a0 : Int) : Option (Bool) := (impl_inRange.f a0 97 122).bind fun t176 => (if t176 = true then (some true) else ((impl_inRange.f a0 65 90).bind fun t177 => (some t177)))
set_option maxHeartbeats 8000000 in
set_option maxRecDepth 100000 in
theorem impl_IsLetter.calls (a0 : Int) (r : Bool) (w : World) (h : impl_IsLetter.f a0 = some r) :
  Calls Tryd.prog 94 #[.int .i64 a0] w fun e w' => e = .returned (.bool r) ∧ Drawn0 w w' := by
 have H : ((impl_inRange.f a0 97 122).bind fun t176 => (if t176 = true then (some true) else ((impl_inRange.f a0 65 90).bind fun t177 => (some t177)))) = some r := h
 clear h
 replace H := Option.bind_eq_some_iff.mp H
 obtain ⟨t176, A20, H⟩ := H
 try dsimp only at H
 have A2 := Aside0.mk A20
 clear A20
 by_cases c3 : t176 = true
 ·subst c3
  rw [if_pos rfl] at H
  obtain rfl := Option.some.inj H
  go_enter Tryd.func94, Tryd.ntmps94
  go_wp2_with (first | ((with_reducible refine gate_callee (f := 38) rfl ?_); refine goesL_ (some 4) rfl rfl Tryd.func38 (by kernel_rfl) rfl #[.int .i64 a0, .int .i64 97, .int .i64 122] rfl ab5 ?_; (with_reducible refine (impl_inRange.calls a0 97 122 true _ A2.out).mono ?_); rintro e w' ⟨rfl, ⟨nd, rfl⟩⟩; refine ⟨_, rfl, ?_⟩))
  go_ret
  exact ⟨ab6, by repeat (first | exact Drawn0.refl _ | apply Drawn0.step)⟩
 ·replace c3 := Bool.eq_false_iff.mpr c3
  subst c3
  rw [if_neg (show ¬ (false = true) by decide)] at H
  replace H := Option.bind_eq_some_iff.mp H
  obtain ⟨t177, A40, H⟩ := H
  try dsimp only at H
  have A4 := Aside0.mk A40
  clear A40
  obtain rfl := Option.some.inj H
  go_enter Tryd.func94, Tryd.ntmps94
  go_wp2_with (first | ((with_reducible refine gate_callee (f := 38) rfl ?_); refine goesL_ (some 4) rfl rfl Tryd.func38 (by kernel_rfl) rfl #[.int .i64 a0, .int .i64 97, .int .i64 122] rfl ab5 ?_; (with_reducible refine (impl_inRange.calls a0 97 122 false _ A2.out).mono ?_); rintro e w' ⟨rfl, ⟨nd, rfl⟩⟩; refine ⟨_, rfl, ?_⟩) | (go_at_call 38; (with_reducible refine (impl_inRange.calls a0 65 90 t177 _ A4.out).mono ?_); rintro e w' ⟨rfl, ⟨nd, rfl⟩⟩))
  go_ret
  exact ⟨ab6, by repeat (first | exact Drawn0.refl _ | apply Drawn0.step)⟩

/-! ### impl_isAfter: function 61 -/
def impl_isAfter.f (k : Nat) (a0 : ByteArray) (a1 : Int) : Option (Bool) := if a1 < (a0.size : Int) then (if 0 ≤ a1 then (if (bt a0 a1) = 61 then (some true) else ((impl_IsLetter.f (wrap64 (bt a0 a1))).bind fun t178 => (if t178 = true then (some true) else ((impl_digitOf.f k (bt a0 a1) 10).bind fun t179 => (some (decide (t179 ≥ 0))))))) else (none)) else (some false)
theorem impl_isAfter.mono : ∀ a0 a1 k, LeO (impl_isAfter.f k a0 a1) (impl_isAfter.f (k + 1) a0 a1) := by
 intro a0 a1 k
 unfold impl_isAfter.f
 repeat' first
   | (with_reducible exact impl_digitOf.mono _ _ _)
   | (with_reducible exact LeO.refl _)
   | (with_reducible exact LeO.none _)
   | (with_reducible refine LeO.ite ?_ ?_)
   | (with_reducible refine LeO.bind ?_ (fun _ => ?_))
set_option maxHeartbeats 8000000 in
set_option maxRecDepth 100000 in
theorem impl_isAfter.calls (k : Nat) (a0 : ByteArray) (a1 : Int) (r : Bool) (w : World) (h : impl_isAfter.f k a0 a1 = some r) :
  Calls Tryd.prog 61 #[.string a0, .int .i64 a1] w fun e w' => e = .returned (.bool r) ∧ Drawn0 w w' := by
 have H : (if a1 < (a0.size : Int) then (if 0 ≤ a1 then (if (bt a0 a1) = 61 then (some true) else ((impl_IsLetter.f (wrap64 (bt a0 a1))).bind fun t178 => (if t178 = true then (some true) else ((impl_digitOf.f k (bt a0 a1) 10).bind fun t179 => (some (decide (t179 ≥ 0))))))) else (none)) else (some false)) = some r := h
 clear h
 by_cases c3 : a1 < (a0.size : Int)
 ·rw [if_pos c3] at H
  have c3b0 := decide_eq_true c3
  clear c3
  by_cases c4 : 0 ≤ a1
  case neg => rw [if_neg c4] at H; exact absurd H (by simp)
  rw [if_pos c4] at H
  have c4b0 := decide_eq_true c4
  clear c4
  by_cases c6 : (bt a0 a1) = 61
  ·rw [if_pos c6] at H
   have c6b0 : ((bt a0 a1) == 61) = true := beq_iff_eq.mpr c6
   have c6b1 : ((bt a0 a1) != 61) = false := bne_eq_false_iff_eq.mpr c6
   clear c6
   obtain rfl := Option.some.inj H
   have p5 : 0 ≤ (a1 : Int) := of_decide_eq_true ab4
   have q5 : a1 < (a0.size : Int) := of_decide_eq_true ab4
   have hx5 := bt_at a0 a1
   replace p5 := eq_true p5
   replace q5 := eq_true q5
   go_enter Tryd.func61, Tryd.ntmps61
   go_wp2
   go_ret
   exact ⟨ab6, by repeat (first | exact Drawn0.refl _ | apply Drawn0.step)⟩
  ·rw [if_neg c6] at H
   have c6b0 : ((bt a0 a1) == 61) = false := beq_eq_false_iff_ne.mpr c6
   have c6b1 : ((bt a0 a1) != 61) = true := bne_iff_ne.mpr c6
   replace H := Option.bind_eq_some_iff.mp H
   obtain ⟨t178, A80, H⟩ := H
   try dsimp only at H
   have A8 := Aside0.mk A80
   clear A80
   by_cases c9 : t178 = true
   ·subst c9
    rw [if_pos rfl] at H
    obtain rfl := Option.some.inj H
    have p5 : 0 ≤ (a1 : Int) := of_decide_eq_true ab4
    have q5 : a1 < (a0.size : Int) := of_decide_eq_true ab4
    have hx5 := bt_at a0 a1
    replace p5 := eq_true p5
    replace q5 := eq_true q5
    have p7 : 0 ≤ (a1 : Int) := of_decide_eq_true ab4
    have q7 : a1 < (a0.size : Int) := of_decide_eq_true ab4
    have hx7 := bt_at a0 a1
    replace p7 := eq_true p7
    replace q7 := eq_true q7
    go_enter Tryd.func61, Tryd.ntmps61
    go_wp2_with (first | (go_at_call 94; (with_reducible refine (impl_IsLetter.calls (wrap64 (bt a0 a1)) true _ A8.out).mono ?_); rintro e w' ⟨rfl, ⟨nd, rfl⟩⟩))
    go_ret
    exact ⟨ab6, by repeat (first | exact Drawn0.refl _ | apply Drawn0.step)⟩
   ·replace c9 := Bool.eq_false_iff.mpr c9
    subst c9
    rw [if_neg (show ¬ (false = true) by decide)] at H
    replace H := Option.bind_eq_some_iff.mp H
    obtain ⟨t179, A110, H⟩ := H
    try dsimp only at H
    have A11 := Aside0.mk A110
    clear A110
    obtain rfl := Option.some.inj H
    have p5 : 0 ≤ (a1 : Int) := of_decide_eq_true ab4
    have q5 : a1 < (a0.size : Int) := of_decide_eq_true ab4
    have hx5 := bt_at a0 a1
    replace p5 := eq_true p5
    replace q5 := eq_true q5
    have p7 : 0 ≤ (a1 : Int) := of_decide_eq_true ab4
    have q7 : a1 < (a0.size : Int) := of_decide_eq_true ab4
    have hx7 := bt_at a0 a1
    replace p7 := eq_true p7
    replace q7 := eq_true q7
    go_enter Tryd.func61, Tryd.ntmps61
    go_wp2_with (first | (go_at_call 94; (with_reducible refine (impl_IsLetter.calls (wrap64 (bt a0 a1)) false _ A8.out).mono ?_); rintro e w' ⟨rfl, ⟨nd, rfl⟩⟩; have p10 : 0 ≤ (a1 : Int) := of_decide_eq_true ab4; have q10 : a1 < (a0.size : Int) := of_decide_eq_true ab4; have hx10 := bt_at a0 a1; replace p10 := eq_true p10; replace q10 := eq_true q10) | (go_at_call 93; (with_reducible refine (impl_digitOf.calls k (bt a0 a1) 10 t179 _ A11.out).mono ?_); rintro e w' ⟨rfl, ⟨nd, rfl⟩⟩))
    go_ret
    exact ⟨ab6, by repeat (first | exact Drawn0.refl _ | apply Drawn0.step)⟩
 ·rw [if_neg c3] at H
  have c3b0 := decide_eq_false c3
  clear c3
  obtain rfl := Option.some.inj H
  go_enter Tryd.func61, Tryd.ntmps61
  go_wp2
  go_ret
  exact ⟨ab6, by repeat (first | exact Drawn0.refl _ | apply Drawn0.step)⟩

/-! ### impl_Ref: function 15 -/
mutual
def impl_Ref.j0 : Nat → ByteArray → Int → Bool → Bool → Option (ByteArray × Int)
 | 0, _, _, _, _ => none
 | k + 1, x0, x1, x2, x24 => if x24 = true then (some ((⟨#[]⟩ : ByteArray), 0)) else (if 0 ≤ (wrap64 (x1 + 1)) then (if (wrap64 (x1 + 1)) ≤ (x0.size : Int) then ((strings_HasPrefix.f (x0.extract ((wrap64 (x1 + 1)) : Int).toNat x0.size) (⟨#[35]⟩ : ByteArray)).bind fun t181 => (if t181 = true then ((impl_numberRef.f k x0 x1).bind fun bt182 => (some (bt182.1, bt182.2))) else ((impl_Named.f).bind fun t184 => (impl_Ref.l0 k x0 x1 x2 (x0.extract ((wrap64 (x1 + 1)) : Int).toNat x0.size) (⟨#[]⟩ : ByteArray) t184 (t184.length : Int) 0)))) else (none)) else (none))
def impl_Ref.l0 : Nat → ByteArray → Int → Bool → ByteArray → ByteArray → List ByteArray → Int → Int → Option (ByteArray × Int)
 | 0, _, _, _, _, _, _, _, _ => none
 | k + 1, x0, x1, x2, x8, x9, x36, x37, x38 => if x38 < x37 then (if 0 ≤ x38 then (if x38 < (x36.length : Int) then (if ((rdOf ByteArray.empty x36 x38).size : Int) > (x9.size : Int) then ((strings_HasPrefix.f x8 (rdOf ByteArray.empty x36 x38)).bind fun t188 => (if t188 = true then (impl_Ref.l0 k x0 x1 x2 x8 (rdOf ByteArray.empty x36 x38) x36 x37 (wrap64 (x38 + 1))) else (impl_Ref.l0 k x0 x1 x2 x8 x9 x36 x37 (wrap64 (x38 + 1))))) else (impl_Ref.l0 k x0 x1 x2 x8 x9 x36 x37 (wrap64 (x38 + 1)))) else (none)) else (none)) else (if x9.toList = ([] : List UInt8) then (some ((⟨#[]⟩ : ByteArray), 0)) else ((impl_withEnd.f x0 (wrap64 ((wrap64 (x1 + 1)) + (x9.size : Int)))).bind fun t189 => (if t189 = (wrap64 ((wrap64 (x1 + 1)) + (x9.size : Int))) then (if x2 = true then ((impl_isAfter.f k x0 (wrap64 ((wrap64 (x1 + 1)) + (x9.size : Int)))).bind fun t190 => (impl_Ref.j2 k x0 x1 x9 (wrap64 ((wrap64 (x1 + 1)) + (x9.size : Int))) t190)) else (impl_Ref.j2 k x0 x1 x9 (wrap64 ((wrap64 (x1 + 1)) + (x9.size : Int))) false)) else (impl_Ref.j2 k x0 x1 x9 (wrap64 ((wrap64 (x1 + 1)) + (x9.size : Int))) false))))
def impl_Ref.j2 : Nat → ByteArray → Int → ByteArray → Int → Bool → Option (ByteArray × Int)
 | 0, _, _, _, _, _ => none
 | k + 1, x0, x1, x9, x12, x73 => if x73 = true then (some ((⟨#[]⟩ : ByteArray), 0)) else ((impl_NameSign.f k x9).bind fun t191 => ((impl_PutSign.f k t191).bind fun t192 => ((impl_withEnd.f x0 x12).bind fun t193 => (some (t192, wrap64 (t193 - x1))))))
end
def impl_Ref.f (k : Nat) (a0 : ByteArray) (a1 : Int) (a2 : Bool) : Option (ByteArray × Int) := (impl_inRange.f a1 0 (wrap64 ((a0.size : Int) - 1))).bind fun t180 => (if t180 = true then (if 0 ≤ a1 then (if a1 < (a0.size : Int) then (impl_Ref.j0 k a0 a1 a2 ((bt a0 a1) != 38)) else (none)) else (none)) else (impl_Ref.j0 k a0 a1 a2 true))
theorem impl_Ref.mono_l : ∀ k, (∀ y0 y1 y2 y3, LeO (impl_Ref.j0 k y0 y1 y2 y3) (impl_Ref.j0 (k + 1) y0 y1 y2 y3)) ∧ (∀ y0 y1 y2 y3 y4 y5 y6 y7, LeO (impl_Ref.l0 k y0 y1 y2 y3 y4 y5 y6 y7) (impl_Ref.l0 (k + 1) y0 y1 y2 y3 y4 y5 y6 y7)) ∧ (∀ y0 y1 y2 y3 y4, LeO (impl_Ref.j2 k y0 y1 y2 y3 y4) (impl_Ref.j2 (k + 1) y0 y1 y2 y3 y4))
 | 0 => ⟨fun _ _ _ _ r h => by simp [impl_Ref.j0] at h, fun _ _ _ _ _ _ _ _ r h => by simp [impl_Ref.l0] at h, fun _ _ _ _ _ r h => by simp [impl_Ref.j2] at h⟩
 | k + 1 => by
  obtain ⟨ih0, ih1, ih2⟩ := impl_Ref.mono_l k
  refine ⟨?_, ?_, ?_⟩
  ·intro y0 y1 y2 y3
   unfold impl_Ref.j0
   repeat' first
   | (with_reducible exact ih0 _ _ _ _)
   | (with_reducible exact ih1 _ _ _ _ _ _ _ _)
   | (with_reducible exact ih2 _ _ _ _ _)
   | (with_reducible exact impl_NameSign.mono _ _)
   | (with_reducible exact impl_PutSign.mono _ _)
   | (with_reducible exact impl_isAfter.mono _ _ _)
   | (with_reducible exact impl_numberRef.mono _ _ _)
   | (with_reducible exact LeO.refl _)
   | (with_reducible exact LeO.none _)
   | (with_reducible refine LeO.ite ?_ ?_)
   | (with_reducible refine LeO.bind ?_ (fun _ => ?_))
  ·intro y0 y1 y2 y3 y4 y5 y6 y7
   unfold impl_Ref.l0
   repeat' first
   | (with_reducible exact ih0 _ _ _ _)
   | (with_reducible exact ih1 _ _ _ _ _ _ _ _)
   | (with_reducible exact ih2 _ _ _ _ _)
   | (with_reducible exact impl_NameSign.mono _ _)
   | (with_reducible exact impl_PutSign.mono _ _)
   | (with_reducible exact impl_isAfter.mono _ _ _)
   | (with_reducible exact impl_numberRef.mono _ _ _)
   | (with_reducible exact LeO.refl _)
   | (with_reducible exact LeO.none _)
   | (with_reducible refine LeO.ite ?_ ?_)
   | (with_reducible refine LeO.bind ?_ (fun _ => ?_))
  ·intro y0 y1 y2 y3 y4
   unfold impl_Ref.j2
   repeat' first
   | (with_reducible exact ih0 _ _ _ _)
   | (with_reducible exact ih1 _ _ _ _ _ _ _ _)
   | (with_reducible exact ih2 _ _ _ _ _)
   | (with_reducible exact impl_NameSign.mono _ _)
   | (with_reducible exact impl_PutSign.mono _ _)
   | (with_reducible exact impl_isAfter.mono _ _ _)
   | (with_reducible exact impl_numberRef.mono _ _ _)
   | (with_reducible exact LeO.refl _)
   | (with_reducible exact LeO.none _)
   | (with_reducible refine LeO.ite ?_ ?_)
   | (with_reducible refine LeO.bind ?_ (fun _ => ?_))
theorem impl_Ref.mono : ∀ a0 a1 a2 k, LeO (impl_Ref.f k a0 a1 a2) (impl_Ref.f (k + 1) a0 a1 a2) := by
 intro a0 a1 a2 k
 obtain ⟨ih0, ih1, ih2⟩ := impl_Ref.mono_l k
 unfold impl_Ref.f
 repeat' first
   | (with_reducible exact ih0 _ _ _ _)
   | (with_reducible exact ih1 _ _ _ _ _ _ _ _)
   | (with_reducible exact ih2 _ _ _ _ _)
   | (with_reducible exact impl_NameSign.mono _ _)
   | (with_reducible exact impl_PutSign.mono _ _)
   | (with_reducible exact impl_isAfter.mono _ _ _)
   | (with_reducible exact impl_numberRef.mono _ _ _)
   | (with_reducible exact LeO.refl _)
   | (with_reducible exact LeO.none _)
   | (with_reducible refine LeO.ite ?_ ?_)
   | (with_reducible refine LeO.bind ?_ (fun _ => ?_))
set_option maxHeartbeats 8000000 in
set_option maxRecDepth 100000 in
theorem impl_Ref.calls (k : Nat) (a0 : ByteArray) (a1 : Int) (a2 : Bool) (r1 : ByteArray) (r2 : Int) (w : World) (h : impl_Ref.f k a0 a1 a2 = some (r1, r2)) :
  Calls Tryd.prog 15 #[.string a0, .int .i64 a1, .bool a2] w fun e w' => e = .returned (.tuple #[.string r1, .int .i64 r2]) ∧ Below w.heap.size w w' := by
 have HB := Aside0.mk (Below.refl w.heap.size w)
 have H : ((impl_inRange.f a1 0 (wrap64 ((a0.size : Int) - 1))).bind fun t180 => (if t180 = true then (if 0 ≤ a1 then (if a1 < (a0.size : Int) then (impl_Ref.j0 k a0 a1 a2 ((bt a0 a1) != 38)) else (none)) else (none)) else (impl_Ref.j0 k a0 a1 a2 true))) = some (r1, r2) := h
 clear h
 have HC4 := Aside0.mk H
 clear H
 go_enter Tryd.func15, Tryd.ntmps15
 go_upto_region 1 with (fail)
 go_cut [24] (fun v24 wc => ∃ (kq : Nat) (x24_3 : Bool), v24 = .bool x24_3 ∧ Aside0 (impl_Ref.j0 kq a0 a1 a2 x24_3 = some (r1, r2)) ∧ Aside0 (kq ≤ k) ∧ Aside0 (Below w.heap.size w wc))
 case first =>
  have H := HC4.out
  clear HC4
  replace H := Option.bind_eq_some_iff.mp H
  obtain ⟨t180, A50, H⟩ := H
  try dsimp only at H
  have A5 := Aside0.mk A50
  clear A50
  by_cases c6 : t180 = true
  ·subst c6
   rw [if_pos rfl] at H
   by_cases c7 : 0 ≤ a1
   case neg => rw [if_neg c7] at H; exact absurd H (by simp)
   rw [if_pos c7] at H
   have c7b0 := decide_eq_true c7
   clear c7
   (first | rw [c7b0] | (simp only [i64_w, i32_w]; rw [c7b0]) | skip)
   (try (generalize hgzc7 : decide (0 ≤ a1) = bqc7 at *; subst c7b0; have c7b0 := hgzc7; clear hgzc7))
   by_cases c8 : a1 < (a0.size : Int)
   case neg => rw [if_neg c8] at H; exact absurd H (by simp)
   rw [if_pos c8] at H
   have c8b0 := decide_eq_true c8
   clear c8
   have H' := Aside0.mk H
   clear H
   go_wp2_with (first | ((with_reducible refine gate_callee (f := 38) rfl ?_); refine goesL_ (some 17) rfl rfl Tryd.func38 (by kernel_rfl) rfl #[.int .i64 a1, .int .i64 0, .int .i64 (wrap64 ((a0.size : Int) - 1))] rfl ab5 ?_; (with_reducible refine (impl_inRange.calls a1 0 (wrap64 ((a0.size : Int) - 1)) true _ A5.out).mono ?_); rintro e w' ⟨rfl, ⟨nd, rfl⟩⟩; refine ⟨_, rfl, ?_⟩; have p9 : 0 ≤ (a1 : Int) := of_decide_eq_true ab4; have q9 : a1 < (a0.size : Int) := of_decide_eq_true ab4; have hx9 := bt_at a0 a1; replace p9 := eq_true p9; replace q9 := eq_true q9))
   first | go_meet | (subst hji11; go_meet)
   case rel => exact ⟨_, (((bt a0 a1) != 38)), ab6, (by first | exact H' | (rw [hji11]; exact H') | (have h_ := H'.out; rw [c7b0] at h_; exact ⟨h_⟩)), ⟨by first | omega | exact Nat.le_refl _⟩, ⟨ab1⟩⟩
  ·replace c6 := Bool.eq_false_iff.mpr c6
   subst c6
   rw [if_neg (show ¬ (false = true) by decide)] at H
   have H' := Aside0.mk H
   clear H
   go_wp2_with (first | ((with_reducible refine gate_callee (f := 38) rfl ?_); refine goesL_ (some 17) rfl rfl Tryd.func38 (by kernel_rfl) rfl #[.int .i64 a1, .int .i64 0, .int .i64 (wrap64 ((a0.size : Int) - 1))] rfl ab5 ?_; (with_reducible refine (impl_inRange.calls a1 0 (wrap64 ((a0.size : Int) - 1)) false _ A5.out).mono ?_); rintro e w' ⟨rfl, ⟨nd, rfl⟩⟩; refine ⟨_, rfl, ?_⟩))
   first | go_meet | (subst hji11; go_meet)
   case rel => exact ⟨_, (true), ab6, H', ⟨by first | omega | exact Nat.le_refl _⟩, ⟨ab1⟩⟩
 case rest =>
  clear HC4
  (try clear c1); (try clear p2); (try clear c3); (try clear c6); (try clear p6); (try clear c7); (try clear c7b0); (try clear c8); (try clear c8b0); (try clear p9); (try clear q9); (try clear hx9); (try clear p9); (try clear q9)
  obtain ⟨kq, x24_3, rfl, HA, HJ3, HB⟩ := hcut
  cases kq with
  | zero => exact absurd HA.out (by simp [impl_Ref.j0])
  | succ kj3 =>
   have H := HA.out
   clear HA
   simp only [impl_Ref.j0] at H
   by_cases c10 : x24_3 = true
   ·subst c10
    rw [if_pos rfl] at H
    simp only [Option.some.injEq, Prod.mk.injEq] at H
    obtain ⟨rfl, rfl⟩ := H
    go_wp2
    go_ret2
    exact ⟨ab7, ab1⟩
   ·replace c10 := Bool.eq_false_iff.mpr c10
    subst c10
    rw [if_neg (show ¬ (false = true) by decide)] at H
    obtain ⟨ji11, hji11⟩ : ∃ j_ : Int, (wrap64 (a1 + 1)) = j_ := ⟨_, rfl⟩
    replace H : (if 0 ≤ (ji11) then (if (ji11) ≤ (a0.size : Int) then ((strings_HasPrefix.f (a0.extract ((ji11) : Int).toNat a0.size) (⟨#[35]⟩ : ByteArray)).bind fun t181 => (if t181 = true then ((impl_numberRef.f kj3 a0 a1).bind fun bt182 => (some (bt182.1, bt182.2))) else ((impl_Named.f).bind fun t184 => (impl_Ref.l0 kj3 a0 a1 a2 (a0.extract ((ji11) : Int).toNat a0.size) (⟨#[]⟩ : ByteArray) t184 (t184.length : Int) 0)))) else (none)) else (none)) = some (r1, r2) := by first | (rw [hji11] at H; exact H) | (simp only [hji11] at H ⊢; exact H)
    have hji11w : (IntKind.i64.wrap (a1 + 1)) = ji11 := (i64_w _).trans hji11
    by_cases c12 : 0 ≤ (ji11)
    case neg => rw [if_neg c12] at H; exact absurd H (by simp)
    rw [if_pos c12] at H
    have c12b0 := eq_true c12
    have c12b1 := decide_eq_true c12
    clear c12
    by_cases c13 : (ji11) ≤ (a0.size : Int)
    case neg => rw [if_neg c13] at H; exact absurd H (by simp)
    rw [if_pos c13] at H
    have c13b0 := eq_true c13
    have c13b1 := decide_eq_true c13
    clear c13
    replace H := Option.bind_eq_some_iff.mp H
    obtain ⟨t181, A140, H⟩ := H
    try dsimp only at H
    have A14 := Aside0.mk A140
    clear A140
    by_cases c15 : t181 = true
    ·subst c15
     rw [if_pos rfl] at H
     replace H := Option.bind_eq_some_iff.mp H
     obtain ⟨⟨t182, t183⟩, A160, H⟩ := H
     try dsimp only at H
     have A16 := Aside0.mk A160
     clear A160
     simp only [Option.some.injEq, Prod.mk.injEq] at H
     obtain ⟨rfl, rfl⟩ := H
     go_wp2_with (first | ((with_reducible refine gate_callee (f := 58) rfl ?_); refine goesL_ (some 30) rfl rfl Tryd.func58 (by kernel_rfl) rfl #[.string (a0.extract ((ji11) : Int).toNat a0.size), .string (⟨#[35]⟩ : ByteArray)] rfl (by (try simp only [List.map_toArray, List.map_cons, List.map_nil]); first | done | (simp only [hji11]; rfl) | rfl | (simp only [List.length_drop, List.length_take]; rfl)) ?_; (with_reducible refine (strings_HasPrefix.calls (a0.extract ((ji11) : Int).toNat a0.size) (⟨#[35]⟩ : ByteArray) true _ A14.out).mono ?_); rintro e w' ⟨rfl, ⟨nd, rfl⟩⟩; refine ⟨_, rfl, ?_⟩) | ((with_reducible refine gate_callee (f := 59) rfl ?_); refine goesL_ (some 33) rfl rfl Tryd.func59 (by kernel_rfl) rfl #[.string a0, .int .i64 a1] rfl ab5 ?_; (with_reducible refine (impl_numberRef.calls kj3 a0 a1 t182 t183 _ A16.out).mono ?_); rintro e w17 ⟨rfl, hb⟩; refine ⟨_, rfl, ?_⟩; have n0_ := Aside0.mk (below_step ab1 hb); clear HB; have HB := n0_; clear n0_; (try clear hb); (try clear hb2); (try clear hk); (try clear hi)))
     go_ret2
     exact ⟨by first | rfl | (simp [errW_none, errW_some] <;> rfl) | (simp only [← hji11]; first | rfl | (simp [errW_none, errW_some] <;> rfl)) | (simp [*, errW_none, errW_some] <;> rfl), ab1⟩
    ·replace c15 := Bool.eq_false_iff.mpr c15
     subst c15
     rw [if_neg (show ¬ (false = true) by decide)] at H
     replace H := Option.bind_eq_some_iff.mp H
     obtain ⟨t184, A180, H⟩ := H
     try dsimp only at H
     have A18 := Aside0.mk A180
     clear A180
     have H' := Aside0.mk H
     clear H
     go_wp2_with (first | ((with_reducible refine gate_callee (f := 58) rfl ?_); refine goesL_ (some 30) rfl rfl Tryd.func58 (by kernel_rfl) rfl #[.string (a0.extract ((ji11) : Int).toNat a0.size), .string (⟨#[35]⟩ : ByteArray)] rfl (by (try simp only [List.map_toArray, List.map_cons, List.map_nil]); first | done | (simp only [hji11]; rfl) | rfl | (simp only [List.length_drop, List.length_take]; rfl)) ?_; (with_reducible refine (strings_HasPrefix.calls (a0.extract ((ji11) : Int).toNat a0.size) (⟨#[35]⟩ : ByteArray) false _ A14.out).mono ?_); rintro e w' ⟨rfl, ⟨nd, rfl⟩⟩; refine ⟨_, rfl, ?_⟩) | ((with_reducible refine gate_callee (f := 24) rfl ?_); refine goesL_ (some 36) rfl rfl Tryd.func24 (by kernel_rfl) rfl #[] rfl ab5 ?_; (with_reducible refine (impl_Named.calls  t184 _ A18.out).mono ?_); rintro e w19 ⟨v185, rfl, ho0, hb⟩; refine ⟨_, rfl, ?_⟩; have n0_ := Aside0.mk (Kd.R_lower ho0 (below_size ab1)); have n1_ := Aside0.mk (below_step ab1 hb); clear HB; have HO186 := n0_; have HB := n1_; clear n0_ n1_; (try clear hb); (try clear hb2); (try clear hk); (try clear hi); (try clear ho0); obtain ⟨Ao20, co20, eo20⟩ := Kd.R_slice HO186.out; subst eo20))
     go_loopg [9, 38] kj3 (fun kq v9 v38 w' => ∃ (x9_2 : ByteArray) (x38_2 : Int), v9 = .string x9_2 ∧ v38 = .int .i64 x38_2 ∧ Aside0 (impl_Ref.l0 kq a0 a1 a2 (a0.extract ((ji11) : Int).toNat a0.size) x9_2 t184 (t184.length : Int) x38_2 = some (r1, r2)) ∧ Aside0 (kq ≤ kj3) ∧ Aside0 (Kd.R Kd.string 9 w' w.heap.size (fun _ => True) (.slice Ao20 t184.length co20) t184) ∧ Aside0 (Below w.heap.size w w'))
     case atStart => exact ⟨((⟨#[]⟩ : ByteArray)), (0), ab6, ab6, H', ⟨Nat.le_refl _⟩, ⟨ab8 HO186⟩, ⟨ab1⟩⟩
     case round =>
      clear H'
      (try clear c1); (try clear c2); (try clear p2); (try clear c3); (try clear c5); (try clear c6); (try clear p6); (try clear c7); (try clear c7b0); (try clear c8); (try clear c8b0); (try clear p9); (try clear q9); (try clear hx9); (try clear c10); (try clear c12); (try clear c12b0); (try clear c12b1); (try clear c13); (try clear c13b0); (try clear c13b1); (try clear c15); (try clear p2); (try clear p6); (try clear p9); (try clear q9)
      obtain ⟨x9_2, x38_2, rfl, rfl, HA, HK2, HO_36, HB⟩ := hrel
      cases gk with
      | zero => exact absurd HA.out (by simp [impl_Ref.l0])
      | succ k2 =>
       have H := HA.out
       clear HA
       simp only [impl_Ref.l0] at H
       by_cases c21 : x38_2 < (t184.length : Int)
       ·rw [if_pos c21] at H
        have c21b0 := decide_eq_true c21
        clear c21
        by_cases c22 : 0 ≤ x38_2
        case neg => rw [if_neg c22] at H; exact absurd H (by simp)
        rw [if_pos c22] at H
        have c22b0 := decide_eq_true c22
        clear c22
        by_cases c23 : x38_2 < (t184.length : Int)
        case neg => rw [if_neg c23] at H; exact absurd H (by simp)
        rw [if_pos c23] at H
        have c23b0 := decide_eq_true c23
        clear c23
        by_cases c24 : ((rdOf ByteArray.empty t184 x38_2).size : Int) > (x9_2.size : Int)
        ·rw [if_pos c24] at H
         have c24b0 : decide ((x9_2.size : Int) < ((rdOf ByteArray.empty t184 x38_2).size : Int)) = true := decide_eq_true c24
         have c24b1 : decide (x9_2.size < (rdOf ByteArray.empty t184 x38_2).size) = true := decide_eq_true (Int.ofNat_lt.mp c24)
         clear c24
         replace H := Option.bind_eq_some_iff.mp H
         obtain ⟨t188, A250, H⟩ := H
         try dsimp only at H
         have A25 := Aside0.mk A250
         clear A250
         by_cases c26 : t188 = true
         ·subst c26
          rw [if_pos rfl] at H
          have H' := Aside0.mk H
          clear H
          have p187 : 0 ≤ (x38_2 : Int) := of_decide_eq_true ab4
          have q187 : x38_2 < (t184.length : Int) := of_decide_eq_true ab4
          obtain ⟨ad187, e187, hx187_0⟩ := Kd.at_string (Kd.R_reads' HO_36.out).2.2 x38_2 p187 q187
          cases e187
          replace p187 := eq_true p187
          replace q187 := eq_true q187
          go_wp2_with (first | (go_at_call 58; (with_reducible refine (strings_HasPrefix.calls (a0.extract ((ji11) : Int).toNat a0.size) (rdOf ByteArray.empty t184 x38_2) true _ A25.out).mono ?_); rintro e w' ⟨rfl, ⟨nd, rfl⟩⟩))
          go_roundg k2
          case measure => have := HJ3.out; have := HK2.out; omega
          case rel => exact ⟨(rdOf ByteArray.empty t184 x38_2), (wrap64 (x38_2 + 1)), ab6, ab6, H', ⟨by have := HJ3.out; have := HK2.out; omega⟩, ⟨ab8 HO_36⟩, ⟨ab1⟩⟩
         ·replace c26 := Bool.eq_false_iff.mpr c26
          subst c26
          rw [if_neg (show ¬ (false = true) by decide)] at H
          have H' := Aside0.mk H
          clear H
          have p187 : 0 ≤ (x38_2 : Int) := of_decide_eq_true ab4
          have q187 : x38_2 < (t184.length : Int) := of_decide_eq_true ab4
          obtain ⟨ad187, e187, hx187_0⟩ := Kd.at_string (Kd.R_reads' HO_36.out).2.2 x38_2 p187 q187
          cases e187
          replace p187 := eq_true p187
          replace q187 := eq_true q187
          go_wp2_with (first | (go_at_call 58; (with_reducible refine (strings_HasPrefix.calls (a0.extract ((ji11) : Int).toNat a0.size) (rdOf ByteArray.empty t184 x38_2) false _ A25.out).mono ?_); rintro e w' ⟨rfl, ⟨nd, rfl⟩⟩))
          go_roundg k2
          case measure => have := HJ3.out; have := HK2.out; omega
          case rel => exact ⟨(x9_2), (wrap64 (x38_2 + 1)), ab6, ab6, H', ⟨by have := HJ3.out; have := HK2.out; omega⟩, ⟨ab8 HO_36⟩, ⟨ab1⟩⟩
        ·rw [if_neg c24] at H
         have c24b0 : decide ((x9_2.size : Int) < ((rdOf ByteArray.empty t184 x38_2).size : Int)) = false := decide_eq_false c24
         have c24b1 : decide (x9_2.size < (rdOf ByteArray.empty t184 x38_2).size) = false := decide_eq_false (fun h => c24 (Int.ofNat_lt.mpr h))
         clear c24
         have H' := Aside0.mk H
         clear H
         have p187 : 0 ≤ (x38_2 : Int) := of_decide_eq_true ab4
         have q187 : x38_2 < (t184.length : Int) := of_decide_eq_true ab4
         obtain ⟨ad187, e187, hx187_0⟩ := Kd.at_string (Kd.R_reads' HO_36.out).2.2 x38_2 p187 q187
         cases e187
         replace p187 := eq_true p187
         replace q187 := eq_true q187
         go_wp2
         go_roundg k2
         case measure => have := HJ3.out; have := HK2.out; omega
         case rel => exact ⟨(x9_2), (wrap64 (x38_2 + 1)), ab6, ab6, H', ⟨by have := HJ3.out; have := HK2.out; omega⟩, ⟨ab8 HO_36⟩, ⟨ab1⟩⟩
       ·rw [if_neg c21] at H
        have c21b0 := decide_eq_false c21
        clear c21
        by_cases c27 : x9_2.toList = ([] : List UInt8)
        ·rw [if_pos c27] at H
         have c27b0 : (x9_2.toList == ([] : List UInt8)) = true := beq_iff_eq.mpr c27
         have c27b1 : (x9_2.toList != ([] : List UInt8)) = false := bne_eq_false_iff_eq.mpr c27
         clear c27
         simp only [Option.some.injEq, Prod.mk.injEq] at H
         obtain ⟨rfl, rfl⟩ := H
         go_wp2
         go_ret2
         exact ⟨by first | rfl | (simp [errW_none, errW_some] <;> rfl) | (simp only [← hji11]; first | rfl | (simp [errW_none, errW_some] <;> rfl)) | (simp [*, errW_none, errW_some] <;> rfl), ab1⟩
        ·rw [if_neg c27] at H
         have c27b0 : (x9_2.toList == ([] : List UInt8)) = false := beq_eq_false_iff_ne.mpr c27
         have c27b1 : (x9_2.toList != ([] : List UInt8)) = true := bne_iff_ne.mpr c27
         have HC28 := Aside0.mk H
         clear H
         subst hji11
         go_upto_region 16 with (fail)
         go_cut [73] (fun v73 wc => ∃ (kq : Nat) (x73_27 : Bool), v73 = .bool x73_27 ∧ Aside0 (impl_Ref.j2 kq a0 a1 x9_2 (wrap64 ((wrap64 (a1 + 1)) + (x9_2.size : Int))) x73_27 = some (r1, r2)) ∧ Aside0 (kq ≤ k2) ∧ Aside0 (Below w.heap.size w wc))
         case first =>
          have H := HC28.out
          clear HC28
          replace H := Option.bind_eq_some_iff.mp H
          obtain ⟨t189, A290, H⟩ := H
          try dsimp only at H
          have A29 := Aside0.mk A290
          clear A290
          by_cases c30 : t189 = (wrap64 ((wrap64 (a1 + 1)) + (x9_2.size : Int)))
          ·rw [if_pos c30] at H
           have c30b0 : (t189 == (wrap64 ((wrap64 (a1 + 1)) + (x9_2.size : Int)))) = true := beq_iff_eq.mpr c30
           have c30b1 : (t189 != (wrap64 ((wrap64 (a1 + 1)) + (x9_2.size : Int)))) = false := bne_eq_false_iff_eq.mpr c30
           clear c30
           (first | rw [c30b0] | (simp only [i64_w, i32_w]; rw [c30b0]) | skip)
           (try (generalize hgzc30 : (t189 == (wrap64 ((wrap64 (a1 + 1)) + (x9_2.size : Int)))) = bqc30 at *; subst c30b0; have c30b0 := hgzc30; clear hgzc30))
           by_cases c31 : a2 = true
           ·subst c31
            rw [if_pos rfl] at H
            replace H := Option.bind_eq_some_iff.mp H
            obtain ⟨t190, A320, H⟩ := H
            replace H : (impl_Ref.j2 k2 a0 a1 x9_2 (wrap64 ((wrap64 (a1 + 1)) + (x9_2.size : Int))) t190) = some (r1, r2) := by first | exact H | (rw [c30b0]; exact H)
            have A32 := Aside0.mk A320
            clear A320
            have H' := Aside0.mk H
            clear H
            go_wp2_with (first | ((with_reducible refine gate_callee (f := 60) rfl ?_); refine goesL_ (some 63) rfl rfl Tryd.func60 (by kernel_rfl) rfl #[.string a0, .int .i64 (wrap64 ((wrap64 (a1 + 1)) + (x9_2.size : Int)))] rfl ab5 ?_; (with_reducible refine (impl_withEnd.calls a0 (wrap64 ((wrap64 (a1 + 1)) + (x9_2.size : Int))) t189 _ A29.out).mono ?_); rintro e w' ⟨rfl, ⟨nd, rfl⟩⟩; refine ⟨_, rfl, ?_⟩) | (go_at_call 61; (with_reducible refine (impl_isAfter.calls k2 a0 (wrap64 ((wrap64 (a1 + 1)) + (x9_2.size : Int))) t190 _ A32.out).mono ?_); rintro e w' ⟨rfl, ⟨nd, rfl⟩⟩))
            first | go_meet | (subst hji11; go_meet)
            case rel => exact ⟨_, (t190), ab6, (by first | exact H' | (rw [hji11]; exact H') | (have h_ := H'.out; rw [c30b0] at h_; exact ⟨h_⟩)), ⟨by have := HJ3.out; have := HK2.out; first | omega | exact Nat.le_refl _⟩, ⟨ab1⟩⟩
           ·replace c31 := Bool.eq_false_iff.mpr c31
            subst c31
            rw [if_neg (show ¬ (false = true) by decide)] at H
            have H' := Aside0.mk H
            clear H
            go_wp2_with (first | ((with_reducible refine gate_callee (f := 60) rfl ?_); refine goesL_ (some 63) rfl rfl Tryd.func60 (by kernel_rfl) rfl #[.string a0, .int .i64 (wrap64 ((wrap64 (a1 + 1)) + (x9_2.size : Int)))] rfl ab5 ?_; (with_reducible refine (impl_withEnd.calls a0 (wrap64 ((wrap64 (a1 + 1)) + (x9_2.size : Int))) t189 _ A29.out).mono ?_); rintro e w' ⟨rfl, ⟨nd, rfl⟩⟩; refine ⟨_, rfl, ?_⟩))
            first | go_meet | (subst hji11; go_meet)
            case rel => exact ⟨_, (false), ab6, (by first | exact H' | (rw [hji11]; exact H') | (have h_ := H'.out; rw [c30b0] at h_; exact ⟨h_⟩)), ⟨by have := HJ3.out; have := HK2.out; first | omega | exact Nat.le_refl _⟩, ⟨ab1⟩⟩
          ·rw [if_neg c30] at H
           have c30b0 : (t189 == (wrap64 ((wrap64 (a1 + 1)) + (x9_2.size : Int)))) = false := beq_eq_false_iff_ne.mpr c30
           have c30b1 : (t189 != (wrap64 ((wrap64 (a1 + 1)) + (x9_2.size : Int)))) = true := bne_iff_ne.mpr c30
           (first | rw [c30b0] | (simp only [i64_w, i32_w]; rw [c30b0]) | skip)
           (try (generalize hgzc30 : (t189 == (wrap64 ((wrap64 (a1 + 1)) + (x9_2.size : Int)))) = bqc30 at *; subst c30b0; have c30b0 := hgzc30; clear hgzc30))
           have H' := Aside0.mk H
           clear H
           go_wp2_with (first | ((with_reducible refine gate_callee (f := 60) rfl ?_); refine goesL_ (some 63) rfl rfl Tryd.func60 (by kernel_rfl) rfl #[.string a0, .int .i64 (wrap64 ((wrap64 (a1 + 1)) + (x9_2.size : Int)))] rfl ab5 ?_; (with_reducible refine (impl_withEnd.calls a0 (wrap64 ((wrap64 (a1 + 1)) + (x9_2.size : Int))) t189 _ A29.out).mono ?_); rintro e w' ⟨rfl, ⟨nd, rfl⟩⟩; refine ⟨_, rfl, ?_⟩))
           first | go_meet | (subst hji11; go_meet)
           case rel => exact ⟨_, (false), ab6, (by first | exact H' | (rw [hji11]; exact H') | (have h_ := H'.out; rw [c30b0] at h_; exact ⟨h_⟩)), ⟨by have := HJ3.out; have := HK2.out; first | omega | exact Nat.le_refl _⟩, ⟨ab1⟩⟩
         case rest =>
          clear HC28
          (try clear c1); (try clear p1); (try clear q1); (try clear hx1); (try clear c2); (try clear p2); (try clear c3); (try clear c5); (try clear c6); (try clear p6); (try clear c7); (try clear c7b0); (try clear c8); (try clear c8b0); (try clear p9); (try clear q9); (try clear hx9); (try clear c10); (try clear c12); (try clear c12b0); (try clear c12b1); (try clear c13); (try clear c13b0); (try clear c13b1); (try clear c15); (try clear p18); (try clear q18); (try clear hx18); (try clear c21); (try clear c21b0); (try clear c22); (try clear c22b0); (try clear c23); (try clear c23b0); (try clear c24); (try clear c24b0); (try clear c24b1); (try clear c26); (try clear c27); (try clear c27b0); (try clear c27b1); (try clear c30); (try clear c30b0); (try clear c30b1); (try clear c31); (try clear hx187_0); (try clear p187); (try clear p2); (try clear p6); (try clear p9); (try clear q187); (try clear q9)
          obtain ⟨kq, x73_27, rfl, HA, HJ27, HB⟩ := hcut
          cases kq with
          | zero => exact absurd HA.out (by simp [impl_Ref.j2])
          | succ kj27 =>
           have H := HA.out
           clear HA
           simp only [impl_Ref.j2] at H
           by_cases c33 : x73_27 = true
           ·subst c33
            rw [if_pos rfl] at H
            simp only [Option.some.injEq, Prod.mk.injEq] at H
            obtain ⟨rfl, rfl⟩ := H
            go_wp2
            go_ret2
            exact ⟨by first | rfl | (simp [errW_none, errW_some] <;> rfl) | (simp only [← hji11]; first | rfl | (simp [errW_none, errW_some] <;> rfl)) | (simp [*, errW_none, errW_some] <;> rfl), ab1⟩
           ·replace c33 := Bool.eq_false_iff.mpr c33
            subst c33
            rw [if_neg (show ¬ (false = true) by decide)] at H
            replace H := Option.bind_eq_some_iff.mp H
            obtain ⟨t191, A340, H⟩ := H
            try dsimp only at H
            have A34 := Aside0.mk A340
            clear A340
            replace H := Option.bind_eq_some_iff.mp H
            obtain ⟨t192, A350, H⟩ := H
            try dsimp only at H
            have A35 := Aside0.mk A350
            clear A350
            replace H := Option.bind_eq_some_iff.mp H
            obtain ⟨t193, A360, H⟩ := H
            try dsimp only at H
            have A36 := Aside0.mk A360
            clear A360
            simp only [Option.some.injEq, Prod.mk.injEq] at H
            obtain ⟨rfl, rfl⟩ := H
            go_wp2_with (first | ((with_reducible refine gate_callee (f := 22) rfl ?_); refine goesL_ (some 75) rfl rfl Tryd.func22 (by kernel_rfl) rfl #[.string x9_2] rfl ab5 ?_; (with_reducible refine (impl_NameSign.calls kj27 x9_2 t191 _ A34.out).mono ?_); rintro e w37 ⟨rfl, hb⟩; refine ⟨_, rfl, ?_⟩; have n0_ := Aside0.mk (below_step ab1 hb); clear HB; have HB := n0_; clear n0_; (try clear hb); (try clear hb2); (try clear hk); (try clear hi)) | ((with_reducible refine gate_callee (f := 45) rfl ?_); refine goesL_ (some 76) rfl rfl Tryd.func45 (by kernel_rfl) rfl #[.int .i64 t191] rfl ab5 ?_; (with_reducible refine (impl_PutSign.calls kj27 t191 t192 _ A35.out).mono ?_); rintro e w38 ⟨rfl, hb⟩; refine ⟨_, rfl, ?_⟩; have n0_ := Aside0.mk (below_step ab1 hb); clear HB; have HB := n0_; clear n0_; (try clear hb); (try clear hb2); (try clear hk); (try clear hi)) | ((with_reducible refine gate_callee (f := 60) rfl ?_); refine goesL_ (some 79) rfl rfl Tryd.func60 (by kernel_rfl) rfl #[.string a0, .int .i64 (wrap64 ((wrap64 (a1 + 1)) + (x9_2.size : Int)))] rfl ab5 ?_; (with_reducible refine (impl_withEnd.calls a0 (wrap64 ((wrap64 (a1 + 1)) + (x9_2.size : Int))) t193 _ A36.out).mono ?_); rintro e w' ⟨rfl, ⟨nd, rfl⟩⟩; refine ⟨_, rfl, ?_⟩))
            go_ret2
            exact ⟨by first | rfl | (simp [errW_none, errW_some] <;> rfl) | (simp only [← hji11]; first | rfl | (simp [errW_none, errW_some] <;> rfl)) | (simp [*, errW_none, errW_some] <;> rfl), ab1⟩

end Go.Proofs.YtgljgbkbjlondaaDoor.P
