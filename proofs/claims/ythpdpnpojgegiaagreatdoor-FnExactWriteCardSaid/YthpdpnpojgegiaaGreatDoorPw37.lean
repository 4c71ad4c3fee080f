-- WRITTEN BY hprint.py
import Derived.Test.YthpdpnpojgegiaaGreatDoorPw0
import Derived.Test.YthpdpnpojgegiaaGreatDoorPw35
import Derived.Test.YthpdpnpojgegiaaGreatDoorPw36
namespace Go.Proofs.YthpdpnpojgegiaaGreatDoor.P
open Go.RowKit Go.Proofs.YthpdpnpojgegiaaGreatDoorW.PrintWords Go.Proofs.YthpdpnpojgegiaaGreatDoorW.PrintLast Go.Proofs.YthpdpnpojgegiaaGreatDoorW.PrintMore
attribute [local go_sem] max2_int min2_int max_two min_two max_three min_three max_four min_four
set_option linter.unusedVariables false
set_option linter.unusedSimpArgs false
set_option maxHeartbeats 2000000
set_option maxRecDepth 100000

/-! ### impl_textSaid: function 53 (by hand) -/
def impl_textSaid.f (a0 : ByteArray) : Option ByteArray := (impl_escaped.f a0).bind fun a => repl a ⟨#[13]⟩ ⟨#[38, 35, 49, 51, 59]⟩
theorem impl_textSaid.calls_m (a0 r : ByteArray) (m : Int) (w : World) (hm : w.cell? ⟨0, 0, none⟩ = some (.int .i64 m)) (h : impl_textSaid.f a0 = some r) :
  Calls Tryz.prog 53 #[.string a0] w fun e w' => e = .returned (.string r) ∧ Below w.heap.size w w' := by
 obtain ⟨a, h1, h2⟩ := Option.bind_eq_some_iff.mp h
 have A1 := am h1
 have A2 := am h2
 have M0 := am hm
 clear h h1 h2 hm
 go_enter Tryz.func53, Tryz.ntmps53
 go_wp2_with (go_at_call 72; (with_reducible refine (impl_escaped.calls_m a0 a m _ M0.out A1.out).mono ?_); rintro e w1 ⟨rfl, b1⟩)
 have M1 := am (pw_cell_below b1 M0.out)
 have B1 := am b1
 clear b1
 go_wp2_with (go_at_call 54; (with_reducible refine (bu_Replace a ⟨#[13]⟩ ⟨#[38, 35, 49, 51, 59]⟩ r m _ A2.out (by decide) (by decide) M1.out).mono ?_); rintro e w2 ⟨rfl, b2⟩)
 have M2 := am (pw_cell_below b2 M1.out)
 have B2 := am (below_step B1.out b2)
 clear b2
 go_ret
 exact ⟨rfl, B2.out⟩
theorem impl_textSaid.calls (a0 : ByteArray) (r : ByteArray) (w : World) (M_ : Int) (hm_ : w.cell? ⟨0, 0, none⟩ = some (.int .i64 M_)) (h : impl_textSaid.f a0 = some r) :
  Calls Tryz.prog 53 #[.string a0] w fun e w' => e = .returned (.string r) ∧ Below w.heap.size w w' := impl_textSaid.calls_m a0 r M_ w hm_ h


end Go.Proofs.YthpdpnpojgegiaaGreatDoor.P
