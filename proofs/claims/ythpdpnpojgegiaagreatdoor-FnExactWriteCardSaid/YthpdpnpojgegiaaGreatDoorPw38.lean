-- WRITTEN BY hprint.py
import Derived.Test.YthpdpnpojgegiaaGreatDoorPw0
import Derived.Test.YthpdpnpojgegiaaGreatDoorPw35
import Derived.Test.YthpdpnpojgegiaaGreatDoorPw37
namespace Go.Proofs.YthpdpnpojgegiaaGreatDoor.P
open Go.RowKit Go.Proofs.YthpdpnpojgegiaaGreatDoorW.PrintWords Go.Proofs.YthpdpnpojgegiaaGreatDoorW.PrintLast Go.Proofs.YthpdpnpojgegiaaGreatDoorW.PrintMore
attribute [local go_sem] max2_int min2_int max_two min_two max_three min_three max_four min_four
set_option linter.unusedVariables false
set_option linter.unusedSimpArgs false
set_option maxHeartbeats 2000000
set_option maxRecDepth 100000

/-! ### impl_Escape: function 34 (by hand) -/
def impl_Escape.f (a0 : ByteArray) (a1 : Bool) : Option ByteArray := (impl_textSaid.f a0).bind fun a => if a1 = true then (repl a ⟨#[34]⟩ ⟨#[38, 113, 117, 111, 116, 59]⟩).bind fun b => (repl b ⟨#[9]⟩ ⟨#[38, 35, 57, 59]⟩).bind fun c => repl c ⟨#[10]⟩ ⟨#[38, 35, 49, 48, 59]⟩ else some a
theorem impl_Escape.calls_m (a0 : ByteArray) (a1 : Bool) (r : ByteArray) (m : Int) (w : World) (hm : w.cell? ⟨0, 0, none⟩ = some (.int .i64 m)) (h : impl_Escape.f a0 a1 = some r) :
  Calls Tryz.prog 34 #[.string a0, .bool a1] w fun e w' => e = .returned (.string r) ∧ Below w.heap.size w w' := by
 obtain ⟨a, h1, h⟩ := Option.bind_eq_some_iff.mp h
 have A1 := am h1
 have M0 := am hm
 clear h1 hm
 cases a1 with
 | true =>
  rw [if_pos rfl] at h
  obtain ⟨b, h2, h⟩ := Option.bind_eq_some_iff.mp h
  obtain ⟨c, h3, h4⟩ := Option.bind_eq_some_iff.mp h
  have A2 := am h2
  have A3 := am h3
  have A4 := am h4
  clear h h2 h3 h4
  go_enter Tryz.func34, Tryz.ntmps34
  go_wp2_with (go_at_call 53; (with_reducible refine (impl_textSaid.calls_m a0 a m _ M0.out A1.out).mono ?_); rintro e w1 ⟨rfl, b1⟩)
  have M1 := am (pw_cell_below b1 M0.out)
  have B1 := am b1
  clear b1
  go_wp2_with (go_at_call 54; (with_reducible refine (bu_Replace a ⟨#[34]⟩ ⟨#[38, 113, 117, 111, 116, 59]⟩ b m _ A2.out (by decide) (by decide) M1.out).mono ?_); rintro e w2 ⟨rfl, b2⟩)
  have M2 := am (pw_cell_below b2 M1.out)
  have B2 := am (below_step B1.out b2)
  clear b2
  go_wp2_with (go_at_call 54; (with_reducible refine (bu_Replace b ⟨#[9]⟩ ⟨#[38, 35, 57, 59]⟩ c m _ A3.out (by decide) (by decide) M2.out).mono ?_); rintro e w3 ⟨rfl, b3⟩)
  have M3 := am (pw_cell_below b3 M2.out)
  have B3 := am (below_step B2.out b3)
  clear b3
  go_wp2_with (go_at_call 54; (with_reducible refine (bu_Replace c ⟨#[10]⟩ ⟨#[38, 35, 49, 48, 59]⟩ r m _ A4.out (by decide) (by decide) M3.out).mono ?_); rintro e w4 ⟨rfl, b4⟩)
  have M4 := am (pw_cell_below b4 M3.out)
  have B4 := am (below_step B3.out b4)
  clear b4
  go_ret
  exact ⟨rfl, B4.out⟩
 | false =>
  rw [if_neg (by decide)] at h
  obtain rfl := Option.some.inj h
  clear h
  go_enter Tryz.func34, Tryz.ntmps34
  go_wp2_with (go_at_call 53; (with_reducible refine (impl_textSaid.calls_m a0 a m _ M0.out A1.out).mono ?_); rintro e w1 ⟨rfl, b1⟩)
  have M1 := am (pw_cell_below b1 M0.out)
  have B1 := am b1
  clear b1
  go_wp2
  go_ret
  exact ⟨rfl, B1.out⟩
theorem impl_Escape.calls (a0 : ByteArray) (a1 : Bool) (r : ByteArray) (w : World) (M_ : Int) (hm_ : w.cell? ⟨0, 0, none⟩ = some (.int .i64 M_)) (h : impl_Escape.f a0 a1 = some r) :
  Calls Tryz.prog 34 #[.string a0, .bool a1] w fun e w' => e = .returned (.string r) ∧ Below w.heap.size w w' := impl_Escape.calls_m a0 a1 r M_ w hm_ h


end Go.Proofs.YthpdpnpojgegiaaGreatDoor.P
