-- WRITTEN BY hprint.py, this session's own program, over the kit's printer: not typed by hand; Lean checks it
import Derived.Test.YtgljgbkbjlondaaDoorPr0
import Derived.Test.YtgljgbkbjlondaaDoorPr19
namespace Go.Proofs.YtgljgbkbjlondaaDoor.P
open Go.RowKit Go.Proofs.YtgljgbkbjlondaaDoorW.PrintWords Go.Proofs.YtgljgbkbjlondaaDoorW.PrintLast Go.Proofs.YtgljgbkbjlondaaDoorW.PrintMore
attribute [local go_sem] max2_int min2_int max_two min_two max_three min_three max_four min_four   -- for this text's walks alone
set_option linter.unusedVariables false
set_option linter.unusedSimpArgs false

/-! ### impl_escaped: function 96 (by hand) -/
def impl_escaped.f (a0 : ByteArray) : Option ByteArray := (repl a0 ⟨#[38]⟩ ⟨#[38, 97, 109, 112, 59]⟩).bind fun a => (repl a ⟨#[60]⟩ ⟨#[38, 108, 116, 59]⟩).bind fun b => repl b ⟨#[62]⟩ ⟨#[38, 103, 116, 59]⟩
set_option maxHeartbeats 2000000 in
set_option maxRecDepth 100000 in
theorem impl_escaped.calls_m (a0 r : ByteArray) (m : Int) (w : World) (hm : w.cell? ⟨0, 0, none⟩ = some (.int .i64 m)) (h : impl_escaped.f a0 = some r) :
  Calls Tryd.prog 96 #[.string a0] w fun e w' => e = .returned (.string r) ∧ Below w.heap.size w w' := by
 obtain ⟨a, h1, h⟩ := Option.bind_eq_some_iff.mp h
 obtain ⟨b, h2, h3⟩ := Option.bind_eq_some_iff.mp h
 have A1 := Aside0.mk h1
 have A2 := Aside0.mk h2
 have A3 := Aside0.mk h3
 have M0 := Aside0.mk hm
 clear h h1 h2 h3 hm
 go_enter Tryd.func96, Tryd.ntmps96
 go_wp2_with (go_at_call 71; (with_reducible refine (bu_Replace a0 ⟨#[38]⟩ ⟨#[38, 97, 109, 112, 59]⟩ a m _ A1.out (by decide) (by decide) M0.out).mono ?_); rintro e w1 ⟨rfl, b1⟩)
 have M1 := Aside0.mk (pw_cell_below b1 M0.out)
 have B1 := Aside0.mk b1
 clear b1
 go_wp2_with (go_at_call 71; (with_reducible refine (bu_Replace a ⟨#[60]⟩ ⟨#[38, 108, 116, 59]⟩ b m _ A2.out (by decide) (by decide) M1.out).mono ?_); rintro e w2 ⟨rfl, b2⟩)
 have M2 := Aside0.mk (pw_cell_below b2 M1.out)
 have B2 := Aside0.mk (below_step B1.out b2)
 clear b2
 go_wp2_with (go_at_call 71; (with_reducible refine (bu_Replace b ⟨#[62]⟩ ⟨#[38, 103, 116, 59]⟩ r m _ A3.out (by decide) (by decide) M2.out).mono ?_); rintro e w3 ⟨rfl, b3⟩)
 have M3 := Aside0.mk (pw_cell_below b3 M2.out)
 have B3 := Aside0.mk (below_step B2.out b3)
 clear b3
 go_ret
 exact ⟨rfl, B3.out⟩
theorem impl_escaped.calls (a0 : ByteArray) (r : ByteArray) (w : World) (M_ : Int) (hm_ : w.cell? ⟨0, 0, none⟩ = some (.int .i64 M_)) (h : impl_escaped.f a0 = some r) :
  Calls Tryd.prog 96 #[.string a0] w fun e w' => e = .returned (.string r) ∧ Below w.heap.size w w' := impl_escaped.calls_m a0 r M_ w hm_ h


end Go.Proofs.YtgljgbkbjlondaaDoor.P
