-- WRITTEN BY hprint.py, this session's own program, over the kit's printer: not typed by hand; Lean checks it
import Derived.Test.YtgljgbkbjlondaaDoorPt0
namespace Go.Proofs.YtgljgbkbjlondaaDoor.P
open Go.RowKit Go.Proofs.YtgljgbkbjlondaaDoorW.PrintWords Go.Proofs.YtgljgbkbjlondaaDoorW.PrintLast Go.Proofs.YtgljgbkbjlondaaDoorW.PrintMore
attribute [local go_sem] max2_int min2_int max_two min_two max_three min_three max_four min_four   -- for this text's walks alone
set_option linter.unusedVariables false
set_option linter.unusedSimpArgs false

/-! ### impl_namedRef: function 39 (by hand) -/
theorem bu_HasPrefix (s p : ByteArray) (b : Bool) (w : World) (h : Lib.hasPrefix s.data.toList p.data.toList = b) :
    Calls Tryd.prog 58 #[.string s, .string p] w fun e w' => e = .returned (.bool b) ∧ w' = w := by
  subst h
  exact Tryd.strings_HasPrefix s p w
def nrf0 (_a0 : ByteArray) : Option (ByteArray × Int) := some ((⟨#[]⟩ : ByteArray), 0)
def nrf1 (a0 : ByteArray) : Option (ByteArray × Int) := if Lib.hasPrefix a0.data.toList (⟨#[38, 97, 112, 111, 115, 59]⟩ : ByteArray).data.toList = true then some ((⟨#[39]⟩ : ByteArray), 6) else nrf0 a0
def nrf2 (a0 : ByteArray) : Option (ByteArray × Int) := if Lib.hasPrefix a0.data.toList (⟨#[38, 113, 117, 111, 116, 59]⟩ : ByteArray).data.toList = true then some ((⟨#[34]⟩ : ByteArray), 6) else nrf1 a0
def nrf3 (a0 : ByteArray) : Option (ByteArray × Int) := if Lib.hasPrefix a0.data.toList (⟨#[38, 103, 116, 59]⟩ : ByteArray).data.toList = true then some ((⟨#[62]⟩ : ByteArray), 4) else nrf2 a0
def nrf4 (a0 : ByteArray) : Option (ByteArray × Int) := if Lib.hasPrefix a0.data.toList (⟨#[38, 108, 116, 59]⟩ : ByteArray).data.toList = true then some ((⟨#[60]⟩ : ByteArray), 4) else nrf3 a0
def nrf5 (a0 : ByteArray) : Option (ByteArray × Int) := if Lib.hasPrefix a0.data.toList (⟨#[38, 97, 109, 112, 59]⟩ : ByteArray).data.toList = true then some ((⟨#[38]⟩ : ByteArray), 5) else nrf4 a0
def nrf (a0 : ByteArray) (j : Nat) : Option (ByteArray × Int) := match j with
  | 0 => nrf0 a0
  | 1 => nrf1 a0
  | 2 => nrf2 a0
  | 3 => nrf3 a0
  | 4 => nrf4 a0
  | _ => nrf5 a0
def impl_namedRef.f (a0 : ByteArray) : Option (ByteArray × Int) := nrf a0 5
set_option maxHeartbeats 8000000 in
set_option maxRecDepth 100000 in
theorem impl_namedRef.calls (a0 : ByteArray) (r1 : ByteArray) (r2 : Int) (w : World) (h : impl_namedRef.f a0 = some (r1, r2)) :
    Calls Tryd.prog 39 #[.string a0] w fun e w' => e = .returned (.tuple #[.string r1, .int .i64 r2]) ∧ Below w.heap.size w w' := by
  have hu := Tryd.underlying95
  have i0 : ∀ w : World, (Instr.index 95 (.agg #[.string ⟨#[38, 97, 109, 112, 59]⟩, .string ⟨#[38, 108, 116, 59]⟩, .string ⟨#[38, 103, 116, 59]⟩, .string ⟨#[38, 113, 117, 111, 116, 59]⟩, .string ⟨#[38, 97, 112, 111, 115, 59]⟩]) (.int .i64 0)).run Tryd.prog w = .ok (.string ⟨#[38, 97, 109, 112, 59]⟩) w := fun _ => by kernel_rfl
  have i1 : ∀ w : World, (Instr.index 95 (.agg #[.string ⟨#[38, 97, 109, 112, 59]⟩, .string ⟨#[38, 108, 116, 59]⟩, .string ⟨#[38, 103, 116, 59]⟩, .string ⟨#[38, 113, 117, 111, 116, 59]⟩, .string ⟨#[38, 97, 112, 111, 115, 59]⟩]) (.int .i64 1)).run Tryd.prog w = .ok (.string ⟨#[38, 108, 116, 59]⟩) w := fun _ => by kernel_rfl
  have i2 : ∀ w : World, (Instr.index 95 (.agg #[.string ⟨#[38, 97, 109, 112, 59]⟩, .string ⟨#[38, 108, 116, 59]⟩, .string ⟨#[38, 103, 116, 59]⟩, .string ⟨#[38, 113, 117, 111, 116, 59]⟩, .string ⟨#[38, 97, 112, 111, 115, 59]⟩]) (.int .i64 2)).run Tryd.prog w = .ok (.string ⟨#[38, 103, 116, 59]⟩) w := fun _ => by kernel_rfl
  have i3 : ∀ w : World, (Instr.index 95 (.agg #[.string ⟨#[38, 97, 109, 112, 59]⟩, .string ⟨#[38, 108, 116, 59]⟩, .string ⟨#[38, 103, 116, 59]⟩, .string ⟨#[38, 113, 117, 111, 116, 59]⟩, .string ⟨#[38, 97, 112, 111, 115, 59]⟩]) (.int .i64 3)).run Tryd.prog w = .ok (.string ⟨#[38, 113, 117, 111, 116, 59]⟩) w := fun _ => by kernel_rfl
  have i4 : ∀ w : World, (Instr.index 95 (.agg #[.string ⟨#[38, 97, 109, 112, 59]⟩, .string ⟨#[38, 108, 116, 59]⟩, .string ⟨#[38, 103, 116, 59]⟩, .string ⟨#[38, 113, 117, 111, 116, 59]⟩, .string ⟨#[38, 97, 112, 111, 115, 59]⟩]) (.int .i64 4)).run Tryd.prog w = .ok (.string ⟨#[38, 97, 112, 111, 115, 59]⟩) w := fun _ => by kernel_rfl
  have H := Aside0.mk h
  clear h
  have HB := Aside0.mk (Below.refl w.heap.size w)
  go_enter Tryd.func39, Tryd.ntmps39
  go_wp2
  go_loop [11] (fun v11 => ∃ j : Nat, v11 = .int .i64 j ∧ Aside0 (j ≤ 5) ∧ Aside0 (nrf a0 (5 - j) = some (r1, r2))) (fun v11 => 6 - (intOf v11).toNat)
  case atStart => exact ⟨0, rfl, ⟨by decide⟩, H⟩
  case round =>
    clear H
    obtain ⟨j, rfl, HJ, HA⟩ := hrel
    have hj := HJ.out
    obtain rfl | rfl | rfl | rfl | rfl | rfl : j = 0 ∨ j = 1 ∨ j = 2 ∨ j = 3 ∨ j = 4 ∨ j = 5 := by omega
    · have H := HA.out
      clear HA hj
      replace H : (if Lib.hasPrefix a0.data.toList (⟨#[38, 97, 109, 112, 59]⟩ : ByteArray).data.toList = true then some ((⟨#[38]⟩ : ByteArray), (5 : Int)) else nrf a0 4) = some (r1, r2) := H
      obtain ⟨q, hq⟩ : ∃ q, Lib.hasPrefix a0.data.toList (⟨#[38, 97, 109, 112, 59]⟩ : ByteArray).data.toList = q := ⟨_, rfl⟩
      rw [hq] at H
      have HQ := Aside0.mk hq
      clear hq
      cases q with
      | true =>
        rw [if_pos rfl] at H
        obtain ⟨rfl, rfl⟩ := Prod.mk.inj (Option.some.inj H)
        clear H
        go_wp2_with (go_at_call 58; (with_reducible refine (bu_HasPrefix a0 (⟨#[38, 97, 109, 112, 59]⟩ : ByteArray) true _ HQ.out).mono ?_); rintro e w1 ⟨rfl, rfl⟩)
        go_ret2
        exact ⟨rfl, by repeat (first | (with_reducible first | exact HB.out | apply below_alloc | apply pw_below_drewN | apply below_drew1) | exact HB.out)⟩
      | false =>
        rw [if_neg (by decide)] at H
        have H' := Aside0.mk H
        clear H
        go_wp2_with (go_at_call 58; (with_reducible refine (bu_HasPrefix a0 (⟨#[38, 97, 109, 112, 59]⟩ : ByteArray) false _ HQ.out).mono ?_); rintro e w1 ⟨rfl, rfl⟩)
        go_round
        case rel => exact ⟨1, rfl, ⟨by decide⟩, H'⟩
        case measure => simp [intOf]
    · have H := HA.out
      clear HA hj
      replace H : (if Lib.hasPrefix a0.data.toList (⟨#[38, 108, 116, 59]⟩ : ByteArray).data.toList = true then some ((⟨#[60]⟩ : ByteArray), (4 : Int)) else nrf a0 3) = some (r1, r2) := H
      obtain ⟨q, hq⟩ : ∃ q, Lib.hasPrefix a0.data.toList (⟨#[38, 108, 116, 59]⟩ : ByteArray).data.toList = q := ⟨_, rfl⟩
      rw [hq] at H
      have HQ := Aside0.mk hq
      clear hq
      cases q with
      | true =>
        rw [if_pos rfl] at H
        obtain ⟨rfl, rfl⟩ := Prod.mk.inj (Option.some.inj H)
        clear H
        go_wp2_with (go_at_call 58; (with_reducible refine (bu_HasPrefix a0 (⟨#[38, 108, 116, 59]⟩ : ByteArray) true _ HQ.out).mono ?_); rintro e w1 ⟨rfl, rfl⟩)
        go_ret2
        exact ⟨rfl, by repeat (first | (with_reducible first | exact HB.out | apply below_alloc | apply pw_below_drewN | apply below_drew1) | exact HB.out)⟩
      | false =>
        rw [if_neg (by decide)] at H
        have H' := Aside0.mk H
        clear H
        go_wp2_with (go_at_call 58; (with_reducible refine (bu_HasPrefix a0 (⟨#[38, 108, 116, 59]⟩ : ByteArray) false _ HQ.out).mono ?_); rintro e w1 ⟨rfl, rfl⟩)
        go_round
        case rel => exact ⟨2, rfl, ⟨by decide⟩, H'⟩
        case measure => simp [intOf]
    · have H := HA.out
      clear HA hj
      replace H : (if Lib.hasPrefix a0.data.toList (⟨#[38, 103, 116, 59]⟩ : ByteArray).data.toList = true then some ((⟨#[62]⟩ : ByteArray), (4 : Int)) else nrf a0 2) = some (r1, r2) := H
      obtain ⟨q, hq⟩ : ∃ q, Lib.hasPrefix a0.data.toList (⟨#[38, 103, 116, 59]⟩ : ByteArray).data.toList = q := ⟨_, rfl⟩
      rw [hq] at H
      have HQ := Aside0.mk hq
      clear hq
      cases q with
      | true =>
        rw [if_pos rfl] at H
        obtain ⟨rfl, rfl⟩ := Prod.mk.inj (Option.some.inj H)
        clear H
        go_wp2_with (go_at_call 58; (with_reducible refine (bu_HasPrefix a0 (⟨#[38, 103, 116, 59]⟩ : ByteArray) true _ HQ.out).mono ?_); rintro e w1 ⟨rfl, rfl⟩)
        go_ret2
        exact ⟨rfl, by repeat (first | (with_reducible first | exact HB.out | apply below_alloc | apply pw_below_drewN | apply below_drew1) | exact HB.out)⟩
      | false =>
        rw [if_neg (by decide)] at H
        have H' := Aside0.mk H
        clear H
        go_wp2_with (go_at_call 58; (with_reducible refine (bu_HasPrefix a0 (⟨#[38, 103, 116, 59]⟩ : ByteArray) false _ HQ.out).mono ?_); rintro e w1 ⟨rfl, rfl⟩)
        go_round
        case rel => exact ⟨3, rfl, ⟨by decide⟩, H'⟩
        case measure => simp [intOf]
    · have H := HA.out
      clear HA hj
      replace H : (if Lib.hasPrefix a0.data.toList (⟨#[38, 113, 117, 111, 116, 59]⟩ : ByteArray).data.toList = true then some ((⟨#[34]⟩ : ByteArray), (6 : Int)) else nrf a0 1) = some (r1, r2) := H
      obtain ⟨q, hq⟩ : ∃ q, Lib.hasPrefix a0.data.toList (⟨#[38, 113, 117, 111, 116, 59]⟩ : ByteArray).data.toList = q := ⟨_, rfl⟩
      rw [hq] at H
      have HQ := Aside0.mk hq
      clear hq
      cases q with
      | true =>
        rw [if_pos rfl] at H
        obtain ⟨rfl, rfl⟩ := Prod.mk.inj (Option.some.inj H)
        clear H
        go_wp2_with (go_at_call 58; (with_reducible refine (bu_HasPrefix a0 (⟨#[38, 113, 117, 111, 116, 59]⟩ : ByteArray) true _ HQ.out).mono ?_); rintro e w1 ⟨rfl, rfl⟩)
        go_ret2
        exact ⟨rfl, by repeat (first | (with_reducible first | exact HB.out | apply below_alloc | apply pw_below_drewN | apply below_drew1) | exact HB.out)⟩
      | false =>
        rw [if_neg (by decide)] at H
        have H' := Aside0.mk H
        clear H
        go_wp2_with (go_at_call 58; (with_reducible refine (bu_HasPrefix a0 (⟨#[38, 113, 117, 111, 116, 59]⟩ : ByteArray) false _ HQ.out).mono ?_); rintro e w1 ⟨rfl, rfl⟩)
        go_round
        case rel => exact ⟨4, rfl, ⟨by decide⟩, H'⟩
        case measure => simp [intOf]
    · have H := HA.out
      clear HA hj
      replace H : (if Lib.hasPrefix a0.data.toList (⟨#[38, 97, 112, 111, 115, 59]⟩ : ByteArray).data.toList = true then some ((⟨#[39]⟩ : ByteArray), (6 : Int)) else nrf a0 0) = some (r1, r2) := H
      obtain ⟨q, hq⟩ : ∃ q, Lib.hasPrefix a0.data.toList (⟨#[38, 97, 112, 111, 115, 59]⟩ : ByteArray).data.toList = q := ⟨_, rfl⟩
      rw [hq] at H
      have HQ := Aside0.mk hq
      clear hq
      cases q with
      | true =>
        rw [if_pos rfl] at H
        obtain ⟨rfl, rfl⟩ := Prod.mk.inj (Option.some.inj H)
        clear H
        go_wp2_with (go_at_call 58; (with_reducible refine (bu_HasPrefix a0 (⟨#[38, 97, 112, 111, 115, 59]⟩ : ByteArray) true _ HQ.out).mono ?_); rintro e w1 ⟨rfl, rfl⟩)
        go_ret2
        exact ⟨rfl, by repeat (first | (with_reducible first | exact HB.out | apply below_alloc | apply pw_below_drewN | apply below_drew1) | exact HB.out)⟩
      | false =>
        rw [if_neg (by decide)] at H
        have H' := Aside0.mk H
        clear H
        go_wp2_with (go_at_call 58; (with_reducible refine (bu_HasPrefix a0 (⟨#[38, 97, 112, 111, 115, 59]⟩ : ByteArray) false _ HQ.out).mono ?_); rintro e w1 ⟨rfl, rfl⟩)
        go_round
        case rel => exact ⟨5, rfl, ⟨by decide⟩, H'⟩
        case measure => simp [intOf]
    · have H := HA.out
      clear HA hj
      replace H : some ((⟨#[]⟩ : ByteArray), (0 : Int)) = some (r1, r2) := H
      obtain ⟨rfl, rfl⟩ := Prod.mk.inj (Option.some.inj H)
      clear H
      go_wp2
      go_ret2
      exact ⟨rfl, by repeat (first | (with_reducible first | exact HB.out | apply below_alloc | apply pw_below_drewN | apply below_drew1) | exact HB.out)⟩


end Go.Proofs.YtgljgbkbjlondaaDoor.P
