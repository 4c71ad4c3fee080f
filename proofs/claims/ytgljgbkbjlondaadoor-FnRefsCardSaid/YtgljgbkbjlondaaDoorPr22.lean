-- WRITTEN BY hprint.py, this session's own program, over the kit's printer: not typed by hand; Lean checks it
import Derived.Test.YtgljgbkbjlondaaDoorPr0
import Derived.Test.YtgljgbkbjlondaaDoorPr19
import Derived.Test.YtgljgbkbjlondaaDoorPr21
namespace Go.Proofs.YtgljgbkbjlondaaDoor.P
open Go.RowKit Go.Proofs.YtgljgbkbjlondaaDoorW.PrintWords Go.Proofs.YtgljgbkbjlondaaDoorW.PrintLast Go.Proofs.YtgljgbkbjlondaaDoorW.PrintMore
attribute [local go_sem] max2_int min2_int max_two min_two max_three min_three max_four min_four   -- for this text's walks alone
set_option linter.unusedVariables false
set_option linter.unusedSimpArgs false

/-! ### impl_Escape: function 27 (by hand) -/
def impl_Escape.f (a0 : ByteArray) (a1 : Bool) : Option ByteArray := (impl_textSaid.f a0).bind fun a => if a1 = true then (repl a ⟨#[34]⟩ ⟨#[38, 113, 117, 111, 116, 59]⟩).bind fun b => (repl b ⟨#[9]⟩ ⟨#[38, 35, 57, 59]⟩).bind fun c => repl c ⟨#[10]⟩ ⟨#[38, 35, 49, 48, 59]⟩ else some a
set_option maxHeartbeats 2000000 in
set_option maxRecDepth 100000 in
theorem impl_Escape.calls_m (a0 : ByteArray) (a1 : Bool) (r : ByteArray) (m : Int) (w : World) (hm : w.cell? ⟨0, 0, none⟩ = some (.int .i64 m)) (h : impl_Escape.f a0 a1 = some r) :
  Calls Tryd.prog 27 #[.string a0, .bool a1] w fun e w' => e = .returned (.string r) ∧ Below w.heap.size w w' := by
 obtain ⟨a, h1, h⟩ := Option.bind_eq_some_iff.mp h
 have A1 := Aside0.mk h1
 have M0 := Aside0.mk hm
 clear h1 hm
 cases a1 with
 | true =>
  rw [if_pos rfl] at h
  obtain ⟨b, h2, h⟩ := Option.bind_eq_some_iff.mp h
  obtain ⟨c, h3, h4⟩ := Option.bind_eq_some_iff.mp h
  have A2 := Aside0.mk h2
  have A3 := Aside0.mk h3
  have A4 := Aside0.mk h4
  clear h h2 h3 h4
  go_enter Tryd.func27, Tryd.ntmps27
  go_wp2_with (go_at_call 70; (with_reducible refine (impl_textSaid.calls_m a0 a m _ M0.out A1.out).mono ?_); rintro e w1 ⟨rfl, b1⟩)
  have M1 := Aside0.mk (pw_cell_below b1 M0.out)
  have B1 := Aside0.mk b1
  clear b1
  go_wp2_with (go_at_call 71; (with_reducible refine (bu_Replace a ⟨#[34]⟩ ⟨#[38, 113, 117, 111, 116, 59]⟩ b m _ A2.out (by decide) (by decide) M1.out).mono ?_); rintro e w2 ⟨rfl, b2⟩)
  have M2 := Aside0.mk (pw_cell_below b2 M1.out)
  have B2 := Aside0.mk (below_step B1.out b2)
  clear b2
  go_wp2_with (go_at_call 71; (with_reducible refine (bu_Replace b ⟨#[9]⟩ ⟨#[38, 35, 57, 59]⟩ c m _ A3.out (by decide) (by decide) M2.out).mono ?_); rintro e w3 ⟨rfl, b3⟩)
  have M3 := Aside0.mk (pw_cell_below b3 M2.out)
  have B3 := Aside0.mk (below_step B2.out b3)
  clear b3
  go_wp2_with (go_at_call 71; (with_reducible refine (bu_Replace c ⟨#[10]⟩ ⟨#[38, 35, 49, 48, 59]⟩ r m _ A4.out (by decide) (by decide) M3.out).mono ?_); rintro e w4 ⟨rfl, b4⟩)
  have M4 := Aside0.mk (pw_cell_below b4 M3.out)
  have B4 := Aside0.mk (below_step B3.out b4)
  clear b4
  go_ret
  exact ⟨rfl, B4.out⟩
 | false =>
  rw [if_neg (by decide)] at h
  obtain rfl := Option.some.inj h
  clear h
  go_enter Tryd.func27, Tryd.ntmps27
  go_wp2_with (go_at_call 70; (with_reducible refine (impl_textSaid.calls_m a0 a m _ M0.out A1.out).mono ?_); rintro e w1 ⟨rfl, b1⟩)
  have M1 := Aside0.mk (pw_cell_below b1 M0.out)
  have B1 := Aside0.mk b1
  clear b1
  go_wp2
  go_ret
  exact ⟨rfl, B1.out⟩
theorem impl_Escape.calls (a0 : ByteArray) (a1 : Bool) (r : ByteArray) (w : World) (M_ : Int) (hm_ : w.cell? ⟨0, 0, none⟩ = some (.int .i64 M_)) (h : impl_Escape.f a0 a1 = some r) :
  Calls Tryd.prog 27 #[.string a0, .bool a1] w fun e w' => e = .returned (.string r) ∧ Below w.heap.size w w' := impl_Escape.calls_m a0 a1 r M_ w hm_ h


end Go.Proofs.YtgljgbkbjlondaaDoor.P
