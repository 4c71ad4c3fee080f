-- WRITTEN BY hprint.py
import Derived.Test.YthpdpnpojgegiaaGreatDoorPw0
import Derived.Test.YthpdpnpojgegiaaGreatDoorPw18
import Derived.Test.YthpdpnpojgegiaaGreatDoorPw20
import Derived.Test.YthpdpnpojgegiaaGreatDoorPw22
namespace Go.Proofs.YthpdpnpojgegiaaGreatDoor.P
open Go.RowKit Go.Proofs.YthpdpnpojgegiaaGreatDoorW.PrintWords Go.Proofs.YthpdpnpojgegiaaGreatDoorW.PrintLast Go.Proofs.YthpdpnpojgegiaaGreatDoorW.PrintMore
attribute [local go_sem] max2_int min2_int max_two min_two max_three min_three max_four min_four
set_option linter.unusedVariables false
set_option linter.unusedSimpArgs false
set_option maxHeartbeats 8000000
set_option maxRecDepth 100000

/-! ### impl_NoteOk: function 49 (by hand) -/
def impl_NoteOk.f (k : Nat) (a0 : ByteArray) : Option (Bool) := if a0.size ≤ 100000000 then (impl_TextOk.f k a0).bind fun t => some (t && !(Lib.contains a0.data.toList (⟨#[13]⟩ : ByteArray).data.toList) && !(Lib.contains a0.data.toList (⟨#[45, 45]⟩ : ByteArray).data.toList) && !(Lib.hasSuffix a0.data.toList (⟨#[45]⟩ : ByteArray).data.toList)) else none
theorem impl_NoteOk.mono : ∀ a0 k, LeO (impl_NoteOk.f k a0) (impl_NoteOk.f (k + 1) a0) := fun a0 k => by
 unfold impl_NoteOk.f
 exact LeO.ite (LeO.bind (impl_TextOk.mono _ _) (fun _ => LeO.refl _)) (LeO.none _)
theorem impl_NoteOk.calls_m (k : Nat) (a0 : ByteArray) (r : Bool) (m : Int) (w : World) (hm : w.cell? ⟨0, 0, none⟩ = some (.int .i64 m)) (h : impl_NoteOk.f k a0 = some r) :
  Calls Tryz.prog 49 #[.string a0] w fun e w' => e = .returned (.bool r) ∧ Below w.heap.size w w' := by
 have M0 := am hm
 clear hm
 unfold impl_NoteOk.f at h
 by_cases hs : a0.size ≤ 100000000
 case neg => rw [if_neg hs] at h; cases h
 rw [if_pos hs] at h
 have HS := am hs
 clear hs
 obtain ⟨t, h1, h⟩ := Option.bind_eq_some_iff.mp h
 have A1 := am h1
 clear h1
 obtain ⟨q1, e1⟩ : ∃ q, Lib.contains a0.data.toList (⟨#[13]⟩ : ByteArray).data.toList = q := ⟨_, rfl⟩
 obtain ⟨q2, e2⟩ : ∃ q, Lib.contains a0.data.toList (⟨#[45, 45]⟩ : ByteArray).data.toList = q := ⟨_, rfl⟩
 obtain ⟨q3, e3⟩ : ∃ q, Lib.hasSuffix a0.data.toList (⟨#[45]⟩ : ByteArray).data.toList = q := ⟨_, rfl⟩
 rw [e1, e2, e3] at h
 have E1 := am e1
 have E2 := am e2
 have E3 := am e3
 clear e1 e2 e3
 obtain rfl := Option.some.inj h
 clear h
 cases t with
 | false =>
  go_enter Tryz.func49, Tryz.ntmps49
  go_wp2_with (go_at_call 48; (with_reducible refine (impl_TextOk.calls k a0 false _ A1.out).mono ?_); rintro e w1 ⟨rfl, b1⟩)
  have M1 := am (pw_cell_below b1 M0.out)
  have B1 := am b1
  clear b1
  go_wp2
  go_ret
  exact ⟨rfl, B1.out⟩
 | true => cases q1 with
  | true =>
   go_enter Tryz.func49, Tryz.ntmps49
   go_wp2_with (go_at_call 48; (with_reducible refine (impl_TextOk.calls k a0 true _ A1.out).mono ?_); rintro e w1 ⟨rfl, b1⟩)
   have M1 := am (pw_cell_below b1 M0.out)
   have B1 := am b1
   clear b1
   go_wp2_with (go_at_call 67; (with_reducible refine (bu_Contains a0 ⟨#[13]⟩ true m _ E1.out HS.out M1.out).mono ?_); rintro e w2 ⟨rfl, rfl⟩)
   go_ret
   exact ⟨rfl, B1.out⟩
  | false => cases q2 with
   | true =>
    go_enter Tryz.func49, Tryz.ntmps49
    go_wp2_with (go_at_call 48; (with_reducible refine (impl_TextOk.calls k a0 true _ A1.out).mono ?_); rintro e w1 ⟨rfl, b1⟩)
    have M1 := am (pw_cell_below b1 M0.out)
    have B1 := am b1
    clear b1
    go_wp2_with (go_at_call 67; (with_reducible refine (bu_Contains a0 ⟨#[13]⟩ false m _ E1.out HS.out M1.out).mono ?_); rintro e w2 ⟨rfl, rfl⟩)
    go_wp2_with (go_at_call 67; (with_reducible refine (bu_Contains a0 ⟨#[45, 45]⟩ true m _ E2.out HS.out M1.out).mono ?_); rintro e w2 ⟨rfl, rfl⟩)
    go_ret
    exact ⟨rfl, B1.out⟩
   | false => cases q3 with
    | true =>
     go_enter Tryz.func49, Tryz.ntmps49
     go_wp2_with (go_at_call 48; (with_reducible refine (impl_TextOk.calls k a0 true _ A1.out).mono ?_); rintro e w1 ⟨rfl, b1⟩)
     have M1 := am (pw_cell_below b1 M0.out)
     have B1 := am b1
     clear b1
     go_wp2_with (go_at_call 67; (with_reducible refine (bu_Contains a0 ⟨#[13]⟩ false m _ E1.out HS.out M1.out).mono ?_); rintro e w2 ⟨rfl, rfl⟩)
     go_wp2_with (go_at_call 67; (with_reducible refine (bu_Contains a0 ⟨#[45, 45]⟩ false m _ E2.out HS.out M1.out).mono ?_); rintro e w2 ⟨rfl, rfl⟩)
     go_wp2_with (go_at_call 68; (with_reducible refine (bu_HasSuffix a0 ⟨#[45]⟩ true _ E3.out HS.out).mono ?_); rintro e w2 ⟨rfl, rfl⟩)
     go_ret
     exact ⟨rfl, B1.out⟩
    | false =>
     go_enter Tryz.func49, Tryz.ntmps49
     go_wp2_with (go_at_call 48; (with_reducible refine (impl_TextOk.calls k a0 true _ A1.out).mono ?_); rintro e w1 ⟨rfl, b1⟩)
     have M1 := am (pw_cell_below b1 M0.out)
     have B1 := am b1
     clear b1
     go_wp2_with (go_at_call 67; (with_reducible refine (bu_Contains a0 ⟨#[13]⟩ false m _ E1.out HS.out M1.out).mono ?_); rintro e w2 ⟨rfl, rfl⟩)
     go_wp2_with (go_at_call 67; (with_reducible refine (bu_Contains a0 ⟨#[45, 45]⟩ false m _ E2.out HS.out M1.out).mono ?_); rintro e w2 ⟨rfl, rfl⟩)
     go_wp2_with (go_at_call 68; (with_reducible refine (bu_HasSuffix a0 ⟨#[45]⟩ false _ E3.out HS.out).mono ?_); rintro e w2 ⟨rfl, rfl⟩)
     go_ret
     exact ⟨rfl, B1.out⟩
theorem impl_NoteOk.calls (k : Nat) (a0 : ByteArray) (r : Bool) (w : World) (M_ : Int) (hm_ : w.cell? ⟨0, 0, none⟩ = some (.int .i64 M_)) (h : impl_NoteOk.f k a0 = some r) :
  Calls Tryz.prog 49 #[.string a0] w fun e w' => e = .returned (.bool r) ∧ Below w.heap.size w w' := impl_NoteOk.calls_m k a0 r M_ w hm_ h


end Go.Proofs.YthpdpnpojgegiaaGreatDoor.P
