-- WRITTEN BY hprint.py
import Derived.Test.YthpdpnpojgegiaaGreatDoorPw0
import Derived.Test.YthpdpnpojgegiaaGreatDoorPw35
namespace Go.Proofs.YthpdpnpojgegiaaGreatDoor.P
open Go.RowKit Go.Proofs.YthpdpnpojgegiaaGreatDoorW.PrintWords Go.Proofs.YthpdpnpojgegiaaGreatDoorW.PrintLast Go.Proofs.YthpdpnpojgegiaaGreatDoorW.PrintMore
attribute [local go_sem] max2_int min2_int max_two min_two max_three min_three max_four min_four
set_option linter.unusedVariables false
set_option linter.unusedSimpArgs false
set_option maxHeartbeats 2000000
set_option maxRecDepth 100000

/-! ### impl_escaped: function 72 (by hand) -/
def impl_escaped.f (a0 : ByteArray) : Option ByteArray := (repl a0 ⟨#[38]⟩ ⟨#[38, 97, 109, 112, 59]⟩).bind fun a => (repl a ⟨#[60]⟩ ⟨#[38, 108, 116, 59]⟩).bind fun b => repl b ⟨#[62]⟩ ⟨#[38, 103, 116, 59]⟩
theorem impl_escaped.calls_m (a0 r : ByteArray) (m : Int) (w : World) (hm : w.cell? ⟨0, 0, none⟩ = some (.int .i64 m)) (h : impl_escaped.f a0 = some r) :
  Calls Tryz.prog 72 #[.string a0] w fun e w' => e = .returned (.string r) ∧ Below w.heap.size w w' := by
 obtain ⟨a, h1, h⟩ := Option.bind_eq_some_iff.mp h
 obtain ⟨b, h2, h3⟩ := Option.bind_eq_some_iff.mp h
 have A1 := am h1
 have A2 := am h2
 have A3 := am h3
 have M0 := am hm
 clear h h1 h2 h3 hm
 go_enter Tryz.func72, Tryz.ntmps72
 go_wp2_with (go_at_call 54; (with_reducible refine (bu_Replace a0 ⟨#[38]⟩ ⟨#[38, 97, 109, 112, 59]⟩ a m _ A1.out (by decide) (by decide) M0.out).mono ?_); rintro e w1 ⟨rfl, b1⟩)
 have M1 := am (pw_cell_below b1 M0.out)
 have B1 := am b1
 clear b1
 go_wp2_with (go_at_call 54; (with_reducible refine (bu_Replace a ⟨#[60]⟩ ⟨#[38, 108, 116, 59]⟩ b m _ A2.out (by decide) (by decide) M1.out).mono ?_); rintro e w2 ⟨rfl, b2⟩)
 have M2 := am (pw_cell_below b2 M1.out)
 have B2 := am (below_step B1.out b2)
 clear b2
 go_wp2_with (go_at_call 54; (with_reducible refine (bu_Replace b ⟨#[62]⟩ ⟨#[38, 103, 116, 59]⟩ r m _ A3.out (by decide) (by decide) M2.out).mono ?_); rintro e w3 ⟨rfl, b3⟩)
 have M3 := am (pw_cell_below b3 M2.out)
 have B3 := am (below_step B2.out b3)
 clear b3
 go_ret
 exact ⟨rfl, B3.out⟩
theorem impl_escaped.calls (a0 : ByteArray) (r : ByteArray) (w : World) (M_ : Int) (hm_ : w.cell? ⟨0, 0, none⟩ = some (.int .i64 M_)) (h : impl_escaped.f a0 = some r) :
  Calls Tryz.prog 72 #[.string a0] w fun e w' => e = .returned (.string r) ∧ Below w.heap.size w w' := impl_escaped.calls_m a0 r M_ w hm_ h


end Go.Proofs.YthpdpnpojgegiaaGreatDoor.P
