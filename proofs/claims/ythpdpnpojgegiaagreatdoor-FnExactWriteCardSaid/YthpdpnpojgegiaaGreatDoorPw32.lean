-- WRITTEN BY hprint.py
import Derived.Test.YthpdpnpojgegiaaGreatDoorPw0
import Derived.Test.YthpdpnpojgegiaaGreatDoorPw31
namespace Go.Proofs.YthpdpnpojgegiaaGreatDoor.P
open Go.RowKit Go.Proofs.YthpdpnpojgegiaaGreatDoorW.PrintWords Go.Proofs.YthpdpnpojgegiaaGreatDoorW.PrintLast Go.Proofs.YthpdpnpojgegiaaGreatDoorW.PrintMore
attribute [local go_sem] max2_int min2_int max_two min_two max_three min_three max_four min_four
set_option linter.unusedVariables false
set_option linter.unusedSimpArgs false
set_option maxHeartbeats 8000000
set_option maxRecDepth 100000

/-! ### impl_ElOk: function 19 -/
def impl_ElOk.f (k : Nat) (a0_0 : Int) (a0_1 : Int) (a0_2 : ByteArray) (l0_3 : List (S62)) (a0_4 : ByteArray) (l0_5 : List (S31)) : Option (Bool) := (impl_elOk.f k a0_0 a0_1 a0_2 l0_3 a0_4 l0_5 60).bind fun t396 => (some t396)
theorem impl_ElOk.mono : ∀ a0 a1 a2 a3 a4 a5 k, LeO (impl_ElOk.f k a0 a1 a2 a3 a4 a5) (impl_ElOk.f (k + 1) a0 a1 a2 a3 a4 a5) := by
 intro a0 a1 a2 a3 a4 a5 k
 unfold impl_ElOk.f
 repeat' with_reducible first | exact impl_elOk.mono _ _ _ _ _ _ _ _ | exact LeO.refl _ | exact LeO.none _ | refine LeO.ite ?_ ?_ | refine LeO.bind ?_ fun _ => ?_
theorem impl_ElOk.calls (k : Nat) (a0_0 : Int) (a0_1 : Int) (a0_2 : ByteArray) (A0_3 : Option Addr) (c0_3 : Nat) (l0_3 : List (S62)) (a0_4 : ByteArray) (A0_5 : Option Addr) (c0_5 : Nat) (l0_5 : List (S31)) (r : Bool) (w : World) (hr0_3 : Kd.C k62 w A0_3 l0_3.length l0_3) (hc0_3 : l0_3.length ≤ c0_3) (hr0_5 : Kd.C k31 w A0_5 l0_5.length l0_5) (hc0_5 : l0_5.length ≤ c0_5) (M_ : Int) (hm_ : w.cell? ⟨0, 0, none⟩ = some (.int .i64 M_)) (h : impl_ElOk.f k a0_0 a0_1 a0_2 l0_3 a0_4 l0_5 = some r) :
  Calls Tryz.prog 19 #[.agg #[.int .i64 a0_0, .int .i64 a0_1, .string a0_2, .slice A0_3 l0_3.length c0_3, .string a0_4, .slice A0_5 l0_5.length c0_5]] w fun e w' => e = .returned (.bool r) ∧ Below w.heap.size w w' := by
 have hu31 := Tryz.underlying31
 have HR0_3 := am hr0_3
 have HC0_3 := am hc0_3
 clear hr0_3 hc0_3
 have HR0_5 := am hr0_5
 have HC0_5 := am hc0_5
 clear hr0_5 hc0_5
 have HB := am (Below.refl w.heap.size w)
 have HM_ := am hm_
 clear hm_
 have H : ((impl_elOk.f k a0_0 a0_1 a0_2 l0_3 a0_4 l0_5 60).bind fun t396 => (some t396)) = some r := h
 clear h
 replace H := bi_ H; obtain ⟨t396, A2, H⟩ := H
 obtain rfl := Option.some.inj H
 go_enter Tryz.func19, Tryz.ntmps19
 go_wp2_with (first | ((with_reducible refine gd_ 1 ?_); refine bx_ 1 (cs := #[.int .i64 a0_0, .int .i64 a0_1, .string a0_2, .slice A0_3 l0_3.length c0_3, .string a0_4, .slice A0_5 l0_5.length c0_5]) 31 ?_; intro gb395 hg w3 hbox hb; have BK395 := am hbox; have GW395 := ge_ (w := w) hg; have GE395 := ge_ (w := w) hg; replace HB := am (below_step ab1 hb); clear hb hbox hg; obtain ⟨⟨_, _, _, _, _, _⟩, _, _, _, _, _, _⟩ := Op.cells6 BK395.out) | ((with_reducible refine gf_ 33 ?_); refine gc_ Tryz.func33 (impl_elOk.calls k a0_0 a0_1 a0_2 _ _ l0_3 a0_4 _ _ l0_5 60 t396 _ (sc_ HR0_3) HC0_3.out (sc_ HR0_5) HC0_5.out M_ (pw_cell_below (ab2 GE395) HM_.out) A2.out) ?_; rintro w5 hb; replace BK395 := bl_ BK395 hb; replace HB := am (below_step (ab2 GE395) hb); (try clear hb); (try clear hb2); (try clear hk); (try clear hi)))
 go_ret
 exact ⟨ab7, ab2 GE395⟩

end Go.Proofs.YthpdpnpojgegiaaGreatDoor.P
