-- WRITTEN BY hprint.py, this session's own program, over the kit's printer: not typed by hand; Lean checks it
import Derived.Test.YtgljgbkbjlondaaDoorPr0
import Derived.Test.YtgljgbkbjlondaaDoorPr19
import Derived.Test.YtgljgbkbjlondaaDoorPr20
namespace Go.Proofs.YtgljgbkbjlondaaDoor.P
open Go.RowKit Go.Proofs.YtgljgbkbjlondaaDoorW.PrintWords Go.Proofs.YtgljgbkbjlondaaDoorW.PrintLast Go.Proofs.YtgljgbkbjlondaaDoorW.PrintMore
attribute [local go_sem] max2_int min2_int max_two min_two max_three min_three max_four min_four   -- for this text's walks alone
set_option linter.unusedVariables false
set_option linter.unusedSimpArgs false

/-! ### impl_textSaid: function 70 (by hand) -/
def impl_textSaid.f (a0 : ByteArray) : Option ByteArray := (impl_escaped.f a0).bind fun a => repl a ⟨#[13]⟩ ⟨#[38, 35, 49, 51, 59]⟩
set_option maxHeartbeats 2000000 in
set_option maxRecDepth 100000 in
theorem impl_textSaid.calls_m (a0 r : ByteArray) (m : Int) (w : World) (hm : w.cell? ⟨0, 0, none⟩ = some (.int .i64 m)) (h : impl_textSaid.f a0 = some r) :
  Calls Tryd.prog 70 #[.string a0] w fun e w' => e = .returned (.string r) ∧ Below w.heap.size w w' := by
 obtain ⟨a, h1, h2⟩ := Option.bind_eq_some_iff.mp h
 have A1 := Aside0.mk h1
 have A2 := Aside0.mk h2
 have M0 := Aside0.mk hm
 clear h h1 h2 hm
 go_enter Tryd.func70, Tryd.ntmps70
 go_wp2_with (go_at_call 96; (with_reducible refine (impl_escaped.calls_m a0 a m _ M0.out A1.out).mono ?_); rintro e w1 ⟨rfl, b1⟩)
 have M1 := Aside0.mk (pw_cell_below b1 M0.out)
 have B1 := Aside0.mk b1
 clear b1
 go_wp2_with (go_at_call 71; (with_reducible refine (bu_Replace a ⟨#[13]⟩ ⟨#[38, 35, 49, 51, 59]⟩ r m _ A2.out (by decide) (by decide) M1.out).mono ?_); rintro e w2 ⟨rfl, b2⟩)
 have M2 := Aside0.mk (pw_cell_below b2 M1.out)
 have B2 := Aside0.mk (below_step B1.out b2)
 clear b2
 go_ret
 exact ⟨rfl, B2.out⟩
theorem impl_textSaid.calls (a0 : ByteArray) (r : ByteArray) (w : World) (M_ : Int) (hm_ : w.cell? ⟨0, 0, none⟩ = some (.int .i64 M_)) (h : impl_textSaid.f a0 = some r) :
  Calls Tryd.prog 70 #[.string a0] w fun e w' => e = .returned (.string r) ∧ Below w.heap.size w w' := impl_textSaid.calls_m a0 r M_ w hm_ h


end Go.Proofs.YtgljgbkbjlondaaDoor.P
