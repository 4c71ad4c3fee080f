-- WRITTEN BY hprint.py, this session's own program, over the kit's printer: not typed by hand; Lean checks it
import Derived.Test.YtgljgbkbjlondaaDoorPr0
import Derived.Test.YtgljgbkbjlondaaDoorPr3
namespace Go.Proofs.YtgljgbkbjlondaaDoor.P
open Go.RowKit Go.Proofs.YtgljgbkbjlondaaDoorW.PrintWords Go.Proofs.YtgljgbkbjlondaaDoorW.PrintLast Go.Proofs.YtgljgbkbjlondaaDoorW.PrintMore
attribute [local go_sem] max2_int min2_int max_two min_two max_three min_three max_four min_four   -- for this text's walks alone
set_option linter.unusedVariables false
set_option linter.unusedSimpArgs false

/-! ### impl_Numbered: function 20 (by hand) -/
def numsL : List Int := [8364, 129, 8218, 402, 8222, 8230, 8224, 8225, 710, 8240, 352, 8249, 338, 141, 381, 143, 144, 8216, 8217, 8220, 8221, 8226, 8211, 8212, 732, 8482, 353, 8250, 339, 157, 382, 376]
def numsD (a : Int) : Int := numsL.getD (a - 128).toNat 0
theorem num_ix : ∀ m : Nat, m < 32 → ∀ w : World, (Instr.index 78 (.agg #[.int .i64 8364, .int .i64 129, .int .i64 8218, .int .i64 402, .int .i64 8222, .int .i64 8230, .int .i64 8224, .int .i64 8225, .int .i64 710, .int .i64 8240, .int .i64 352, .int .i64 8249, .int .i64 338, .int .i64 141, .int .i64 381, .int .i64 143, .int .i64 144, .int .i64 8216, .int .i64 8217, .int .i64 8220, .int .i64 8221, .int .i64 8226, .int .i64 8211, .int .i64 8212, .int .i64 732, .int .i64 8482, .int .i64 353, .int .i64 8250, .int .i64 339, .int .i64 157, .int .i64 382, .int .i64 376]) (.int .i64 (m : Int))).run Tryd.prog w = .ok (.int .i64 (numsL.getD m 0)) w
 | 0, _ => fun _ => by kernel_rfl
 | 1, _ => fun _ => by kernel_rfl
 | 2, _ => fun _ => by kernel_rfl
 | 3, _ => fun _ => by kernel_rfl
 | 4, _ => fun _ => by kernel_rfl
 | 5, _ => fun _ => by kernel_rfl
 | 6, _ => fun _ => by kernel_rfl
 | 7, _ => fun _ => by kernel_rfl
 | 8, _ => fun _ => by kernel_rfl
 | 9, _ => fun _ => by kernel_rfl
 | 10, _ => fun _ => by kernel_rfl
 | 11, _ => fun _ => by kernel_rfl
 | 12, _ => fun _ => by kernel_rfl
 | 13, _ => fun _ => by kernel_rfl
 | 14, _ => fun _ => by kernel_rfl
 | 15, _ => fun _ => by kernel_rfl
 | 16, _ => fun _ => by kernel_rfl
 | 17, _ => fun _ => by kernel_rfl
 | 18, _ => fun _ => by kernel_rfl
 | 19, _ => fun _ => by kernel_rfl
 | 20, _ => fun _ => by kernel_rfl
 | 21, _ => fun _ => by kernel_rfl
 | 22, _ => fun _ => by kernel_rfl
 | 23, _ => fun _ => by kernel_rfl
 | 24, _ => fun _ => by kernel_rfl
 | 25, _ => fun _ => by kernel_rfl
 | 26, _ => fun _ => by kernel_rfl
 | 27, _ => fun _ => by kernel_rfl
 | 28, _ => fun _ => by kernel_rfl
 | 29, _ => fun _ => by kernel_rfl
 | 30, _ => fun _ => by kernel_rfl
 | 31, _ => fun _ => by kernel_rfl
 | _ + 32, h => absurd h (by omega)
def impl_Numbered.f (a0 : Int) : Option (Int) := (impl_inRange.f a0 128 159).bind fun t390 => (if t390 = true then (some (numsD a0)) else (if a0 = 0 then (some 65533) else ((impl_SignOk.f a0).bind fun t391 => (if t391 = true then (some a0) else (some 65533)))))
set_option maxHeartbeats 8000000 in
set_option maxRecDepth 100000 in
theorem impl_Numbered.calls (a0 : Int) (r : Int) (w : World) (h : impl_Numbered.f a0 = some r) :
  Calls Tryd.prog 20 #[.int .i64 a0] w fun e w' => e = .returned (.int .i64 r) ∧ Drawn0 w w' := by
 have H : ((impl_inRange.f a0 128 159).bind fun t390 => (if t390 = true then (some (numsD a0)) else (if a0 = 0 then (some 65533) else ((impl_SignOk.f a0).bind fun t391 => (if t391 = true then (some a0) else (some 65533)))))) = some r := h
 clear h
 replace H := Option.bind_eq_some_iff.mp H
 obtain ⟨t390, A20, H⟩ := H
 try dsimp only at H
 have A2 := Aside0.mk A20
 clear A20
 by_cases c3 : t390 = true
 ·subst c3
  rw [if_pos rfl] at H
  obtain rfl := Option.some.inj H
  have hin : 128 ≤ a0 ∧ a0 ≤ 159 := by
   have h := A2.out
   unfold impl_inRange.f at h
   by_cases q : a0 ≥ 128
   ·rw [if_pos q] at h
    exact ⟨q, of_decide_eq_true (Option.some.inj h)⟩
   ·rw [if_neg q] at h
    exact absurd (Option.some.inj h) (by decide)
  obtain ⟨m, hm, rfl⟩ : ∃ m : Nat, m < 32 ∧ a0 = 128 + (m : Int) := ⟨(a0 - 128).toNat, by omega, by omega⟩
  have hw : wrap64 (128 + (m : Int) - 128) = (m : Int) := by unfold wrap64; omega
  have hix := num_ix m hm
  have hix2 : ∀ w : World, (Instr.index 78 (.agg #[.int .i64 8364, .int .i64 129, .int .i64 8218, .int .i64 402, .int .i64 8222, .int .i64 8230, .int .i64 8224, .int .i64 8225, .int .i64 710, .int .i64 8240, .int .i64 352, .int .i64 8249, .int .i64 338, .int .i64 141, .int .i64 381, .int .i64 143, .int .i64 144, .int .i64 8216, .int .i64 8217, .int .i64 8220, .int .i64 8221, .int .i64 8226, .int .i64 8211, .int .i64 8212, .int .i64 732, .int .i64 8482, .int .i64 353, .int .i64 8250, .int .i64 339, .int .i64 157, .int .i64 382, .int .i64 376]) (.int .i64 (wrap64 (128 + (m : Int) - 128)))).run Tryd.prog w = .ok (.int .i64 (numsL.getD m 0)) w := by rw [hw]; exact hix
  have hn : numsD (128 + (m : Int)) = numsL.getD m 0 := by unfold numsD; rw [show (128 + (m : Int) - 128).toNat = m by omega]
  rw [hn]
  clear hin hm
  go_enter Tryd.func20, Tryd.ntmps20
  go_wp2_with (first | ((with_reducible refine gate_callee (f := 38) rfl ?_); refine goesL_ (some 4) rfl rfl Tryd.func38 (by kernel_rfl) rfl #[.int .i64 (128 + (m : Int)), .int .i64 128, .int .i64 159] rfl ab5 ?_; (with_reducible refine (impl_inRange.calls (128 + (m : Int)) 128 159 true _ A2.out).mono ?_); rintro e w' ⟨rfl, ⟨nd, rfl⟩⟩; refine ⟨_, rfl, ?_⟩))
  go_ret
  exact ⟨ab6, by repeat (first | exact Drawn0.refl _ | apply Drawn0.step)⟩
 ·replace c3 := Bool.eq_false_iff.mpr c3
  subst c3
  rw [if_neg (show ¬ (false = true) by decide)] at H
  by_cases c4 : a0 = 0
  ·rw [if_pos c4] at H
   have c4b0 : (a0 == 0) = true := beq_iff_eq.mpr c4
   have c4b1 : (a0 != 0) = false := bne_eq_false_iff_eq.mpr c4
   clear c4
   obtain rfl := Option.some.inj H
   go_enter Tryd.func20, Tryd.ntmps20
   go_wp2_with (first | ((with_reducible refine gate_callee (f := 38) rfl ?_); refine goesL_ (some 4) rfl rfl Tryd.func38 (by kernel_rfl) rfl #[.int .i64 a0, .int .i64 128, .int .i64 159] rfl ab5 ?_; (with_reducible refine (impl_inRange.calls a0 128 159 false _ A2.out).mono ?_); rintro e w' ⟨rfl, ⟨nd, rfl⟩⟩; refine ⟨_, rfl, ?_⟩))
   go_ret
   exact ⟨ab6, by repeat (first | exact Drawn0.refl _ | apply Drawn0.step)⟩
  ·rw [if_neg c4] at H
   have c4b0 : (a0 == 0) = false := beq_eq_false_iff_ne.mpr c4
   have c4b1 : (a0 != 0) = true := bne_iff_ne.mpr c4
   replace H := Option.bind_eq_some_iff.mp H
   obtain ⟨t391, A50, H⟩ := H
   try dsimp only at H
   have A5 := Aside0.mk A50
   clear A50
   by_cases c6 : t391 = true
   ·subst c6
    rw [if_pos rfl] at H
    obtain rfl := Option.some.inj H
    go_enter Tryd.func20, Tryd.ntmps20
    go_wp2_with (first | ((with_reducible refine gate_callee (f := 38) rfl ?_); refine goesL_ (some 4) rfl rfl Tryd.func38 (by kernel_rfl) rfl #[.int .i64 a0, .int .i64 128, .int .i64 159] rfl ab5 ?_; (with_reducible refine (impl_inRange.calls a0 128 159 false _ A2.out).mono ?_); rintro e w' ⟨rfl, ⟨nd, rfl⟩⟩; refine ⟨_, rfl, ?_⟩) | (go_at_call 29; (with_reducible refine (impl_SignOk.calls a0 true _ A5.out).mono ?_); rintro e w' ⟨rfl, ⟨nd, rfl⟩⟩))
    go_ret
    exact ⟨ab6, by repeat (first | exact Drawn0.refl _ | apply Drawn0.step)⟩
   ·replace c6 := Bool.eq_false_iff.mpr c6
    subst c6
    rw [if_neg (show ¬ (false = true) by decide)] at H
    obtain rfl := Option.some.inj H
    go_enter Tryd.func20, Tryd.ntmps20
    go_wp2_with (first | ((with_reducible refine gate_callee (f := 38) rfl ?_); refine goesL_ (some 4) rfl rfl Tryd.func38 (by kernel_rfl) rfl #[.int .i64 a0, .int .i64 128, .int .i64 159] rfl ab5 ?_; (with_reducible refine (impl_inRange.calls a0 128 159 false _ A2.out).mono ?_); rintro e w' ⟨rfl, ⟨nd, rfl⟩⟩; refine ⟨_, rfl, ?_⟩) | (go_at_call 29; (with_reducible refine (impl_SignOk.calls a0 false _ A5.out).mono ?_); rintro e w' ⟨rfl, ⟨nd, rfl⟩⟩))
    go_ret
    exact ⟨ab6, by repeat (first | exact Drawn0.refl _ | apply Drawn0.step)⟩


end Go.Proofs.YtgljgbkbjlondaaDoor.P
