-- WRITTEN BY hprint.py
import Derived.Test.YthpdpnpojgegiaaGreatDoorPw0
import Derived.Test.YthpdpnpojgegiaaGreatDoorPw11
import Derived.Test.YthpdpnpojgegiaaGreatDoorPw18
import Derived.Test.YthpdpnpojgegiaaGreatDoorPw26
import Derived.Test.YthpdpnpojgegiaaGreatDoorPw27
namespace Go.Proofs.YthpdpnpojgegiaaGreatDoor.P
open Go.RowKit Go.Proofs.YthpdpnpojgegiaaGreatDoorW.PrintWords Go.Proofs.YthpdpnpojgegiaaGreatDoorW.PrintLast Go.Proofs.YthpdpnpojgegiaaGreatDoorW.PrintMore
attribute [local go_sem] max2_int min2_int max_two min_two max_three min_three max_four min_four
set_option linter.unusedVariables false
set_option linter.unusedSimpArgs false
set_option maxHeartbeats 8000000
set_option maxRecDepth 100000

/-! ### impl_NameOk: function 51 -/
def impl_NameOk.l0 : Nat → ByteArray → List Int → Int → Int → Option (Bool)
 | 0, _, _, _, _ => none
 | k + 1, x0, x6, x7, x8 => if x8 < x7 then (if 0 ≤ x8 then (if x8 < (x6.length : Int) then (if x8 = 0 then ((impl_IsFirst.f (rd x6 x8)).bind fun t371 => (if t371 = true then ((impl_IsNext.f (rd x6 x8)).bind fun t372 => (if t372 = true then (impl_NameOk.l0 k x0 x6 x7 (wrap64 (x8 + 1))) else (some false))) else (some false))) else ((impl_IsNext.f (rd x6 x8)).bind fun t373 => (if t373 = true then (impl_NameOk.l0 k x0 x6 x7 (wrap64 (x8 + 1))) else (some false)))) else (none)) else (none)) else (if x0.toList = ([] : List UInt8) then (some false) else ((impl_CleanOk.f k x0).bind fun t369 => (some t369)))
def impl_NameOk.f (k : Nat) (a0 : ByteArray) : Option (Bool) := (impl_Signs.f k a0).bind fun t366 => (impl_NameOk.l0 k a0 t366 (t366.length : Int) 0)
theorem impl_NameOk.mono_l : ∀ k, (∀ y0 y1 y2 y3, LeO (impl_NameOk.l0 k y0 y1 y2 y3) (impl_NameOk.l0 (k + 1) y0 y1 y2 y3))
 | 0 => fun _ _ _ _ r h => by simp [impl_NameOk.l0] at h
 | k + 1 => by
  have ih0 := impl_NameOk.mono_l k
  ·intro y0 y1 y2 y3
   unfold impl_NameOk.l0
   repeat' with_reducible first | exact ih0 _ _ _ _ | exact impl_CleanOk.mono _ _ | exact impl_Signs.mono _ _ | exact LeO.refl _ | exact LeO.none _ | refine LeO.ite ?_ ?_ | refine LeO.bind ?_ fun _ => ?_
theorem impl_NameOk.mono : ∀ a0 k, LeO (impl_NameOk.f k a0) (impl_NameOk.f (k + 1) a0) := by
 intro a0 k
 have ih0 := impl_NameOk.mono_l k
 unfold impl_NameOk.f
 repeat' with_reducible first | exact ih0 _ _ _ _ | exact impl_CleanOk.mono _ _ | exact impl_Signs.mono _ _ | exact LeO.refl _ | exact LeO.none _ | refine LeO.ite ?_ ?_ | refine LeO.bind ?_ fun _ => ?_
theorem impl_NameOk.calls (k : Nat) (a0 : ByteArray) (r : Bool) (w : World) (h : impl_NameOk.f k a0 = some r) :
  Calls Tryz.prog 51 #[.string a0] w fun e w' => e = .returned (.bool r) ∧ Below w.heap.size w w' := by
 have HB := am (Below.refl w.heap.size w)
 have H : ((impl_Signs.f k a0).bind fun t366 => (impl_NameOk.l0 k a0 t366 (t366.length : Int) 0)) = some r := h
 clear h
 replace H := bi_ H; obtain ⟨t366, A2, H⟩ := H
 have H' := am H
 clear H
 go_enter Tryz.func51, Tryz.ntmps51
 go_wp2_with (first | ((with_reducible refine gf_ 64 ?_); refine gx_ Tryz.func64 (impl_Signs.calls k a0 t366 _ A2.out) ?_; rintro v367 w3 ⟨ho0, hb⟩; have HO368 := am (Kd.R_lower ho0 (below_size ab1)); replace HB := am (below_step ab1 hb); (try clear hb); (try clear hb2); (try clear hk); (try clear hi); (try clear ho0); obtain ⟨Ao4, co4, eo4⟩ := Kd.R_slice HO368.out; subst eo4))
 go_loopg [8] k (fun kq v8 w' => ∃ (x8_1 : Int), v8 = .int .i64 x8_1 ∧ Aside0 (impl_NameOk.l0 kq a0 t366 (t366.length : Int) x8_1 = some r) ∧ Aside0 (kq ≤ k) ∧ Aside0 (Kd.R (Kd.int .i64) 3 w' w.heap.size (fun _ => True) (.slice Ao4 t366.length co4) t366) ∧ Aside0 (Below w.heap.size w w'))
 case atStart => exact ⟨(0), ab6, H', ⟨Nat.le_refl _⟩, ⟨ab8 HO368⟩, ⟨ab1⟩⟩
 case round =>
  clear H'
  try clear p2
  obtain ⟨x8_1, rfl, HA, HK1, HO_6, HB⟩ := hrel
  cases gk with
  | zero => exact absurd HA.out (by simp [impl_NameOk.l0])
  | succ k1 =>
   have H := HA.out
   clear HA
   simp only [impl_NameOk.l0] at H
   replace H := ir_ H; rcases H with ⟨c5b0, H⟩ | ⟨c5b0, H⟩
   ·replace H := iq_ H; obtain ⟨c6b0, H⟩ := H
    replace H := iq_ H; obtain ⟨c7b0, H⟩ := H
    replace H := ie_ H; rcases H with ⟨c8b0, c8b1, H⟩ | ⟨c8, c8b0, c8b1, H⟩
    ·replace H := bi_ H; obtain ⟨t371, A9, H⟩ := H
     replace H := ib_ H; rcases H with ⟨rfl, H⟩ | ⟨rfl, H⟩
     ·replace H := bi_ H; obtain ⟨t372, A11, H⟩ := H
      replace H := ib_ H; rcases H with ⟨rfl, H⟩ | ⟨rfl, H⟩
      ·have H' := am H
       clear H
       have p370 : 0 ≤ (x8_1 : Int) := of_decide_eq_true ab4
       have q370 : x8_1 < (t366.length : Int) := of_decide_eq_true ab4
       obtain ⟨ad370, e370, hx370_0⟩ := Kd.at_int (Kd.R_reads' HO_6.out).2.2 x8_1 p370 q370
       cases e370
       replace p370 := eq_true p370
       replace q370 := eq_true q370
       go_wp2_with (first | (go_at_call 69; (with_reducible refine (impl_IsFirst.calls (rd t366 x8_1) true _ A9.out).mono ?_); rintro e w13 ⟨rfl, hb⟩; replace HO_6 := am (Kd.R_below (ab8 HO_6) hb); replace HB := am (below_step ab1 hb); (try clear hb); (try clear hb2); (try clear hk); (try clear hi)) | (go_at_call 70; (with_reducible refine (impl_IsNext.calls (rd t366 x8_1) true _ A11.out).mono ?_); rintro e w14 ⟨rfl, hb⟩; replace HO_6 := am (Kd.R_below (ab8 HO_6) hb); replace HB := am (below_step ab1 hb); (try clear hb); (try clear hb2); (try clear hk); (try clear hi)))
       go_roundg k1
       case measure => have := HK1.out; omega
       case rel => exact ⟨(wrap64 (x8_1 + 1)), ab6, H', ⟨by have := HK1.out; omega⟩, ⟨ab8 HO_6⟩, ⟨ab1⟩⟩
      ·obtain rfl := Option.some.inj H
       have p370 : 0 ≤ (x8_1 : Int) := of_decide_eq_true ab4
       have q370 : x8_1 < (t366.length : Int) := of_decide_eq_true ab4
       obtain ⟨ad370, e370, hx370_0⟩ := Kd.at_int (Kd.R_reads' HO_6.out).2.2 x8_1 p370 q370
       cases e370
       replace p370 := eq_true p370
       replace q370 := eq_true q370
       go_wp2_with (first | (go_at_call 69; (with_reducible refine (impl_IsFirst.calls (rd t366 x8_1) true _ A9.out).mono ?_); rintro e w15 ⟨rfl, hb⟩; replace HO_6 := am (Kd.R_below (ab8 HO_6) hb); replace HB := am (below_step ab1 hb); (try clear hb); (try clear hb2); (try clear hk); (try clear hi)) | (go_at_call 70; (with_reducible refine (impl_IsNext.calls (rd t366 x8_1) false _ A11.out).mono ?_); rintro e w16 ⟨rfl, hb⟩; replace HO_6 := am (Kd.R_below (ab8 HO_6) hb); replace HB := am (below_step ab1 hb); (try clear hb); (try clear hb2); (try clear hk); (try clear hi)))
       go_ret
       exact ⟨ab7, ab1⟩
     ·obtain rfl := Option.some.inj H
      have p370 : 0 ≤ (x8_1 : Int) := of_decide_eq_true ab4
      have q370 : x8_1 < (t366.length : Int) := of_decide_eq_true ab4
      obtain ⟨ad370, e370, hx370_0⟩ := Kd.at_int (Kd.R_reads' HO_6.out).2.2 x8_1 p370 q370
      cases e370
      replace p370 := eq_true p370
      replace q370 := eq_true q370
      go_wp2_with (first | (go_at_call 69; (with_reducible refine (impl_IsFirst.calls (rd t366 x8_1) false _ A9.out).mono ?_); rintro e w17 ⟨rfl, hb⟩; replace HO_6 := am (Kd.R_below (ab8 HO_6) hb); replace HB := am (below_step ab1 hb); (try clear hb); (try clear hb2); (try clear hk); (try clear hi)))
      go_ret
      exact ⟨ab7, ab1⟩
    ·replace H := bi_ H; obtain ⟨t373, A18, H⟩ := H
     replace H := ib_ H; rcases H with ⟨rfl, H⟩ | ⟨rfl, H⟩
     ·have H' := am H
      clear H
      have p370 : 0 ≤ (x8_1 : Int) := of_decide_eq_true ab4
      have q370 : x8_1 < (t366.length : Int) := of_decide_eq_true ab4
      obtain ⟨ad370, e370, hx370_0⟩ := Kd.at_int (Kd.R_reads' HO_6.out).2.2 x8_1 p370 q370
      cases e370
      replace p370 := eq_true p370
      replace q370 := eq_true q370
      go_wp2_with (first | (go_at_call 70; (with_reducible refine (impl_IsNext.calls (rd t366 x8_1) true _ A18.out).mono ?_); rintro e w20 ⟨rfl, hb⟩; replace HO_6 := am (Kd.R_below (ab8 HO_6) hb); replace HB := am (below_step ab1 hb); (try clear hb); (try clear hb2); (try clear hk); (try clear hi)))
      go_roundg k1
      case measure => have := HK1.out; omega
      case rel => exact ⟨(wrap64 (x8_1 + 1)), ab6, H', ⟨by have := HK1.out; omega⟩, ⟨ab8 HO_6⟩, ⟨ab1⟩⟩
     ·obtain rfl := Option.some.inj H
      have p370 : 0 ≤ (x8_1 : Int) := of_decide_eq_true ab4
      have q370 : x8_1 < (t366.length : Int) := of_decide_eq_true ab4
      obtain ⟨ad370, e370, hx370_0⟩ := Kd.at_int (Kd.R_reads' HO_6.out).2.2 x8_1 p370 q370
      cases e370
      replace p370 := eq_true p370
      replace q370 := eq_true q370
      go_wp2_with (first | (go_at_call 70; (with_reducible refine (impl_IsNext.calls (rd t366 x8_1) false _ A18.out).mono ?_); rintro e w21 ⟨rfl, hb⟩; replace HO_6 := am (Kd.R_below (ab8 HO_6) hb); replace HB := am (below_step ab1 hb); (try clear hb); (try clear hb2); (try clear hk); (try clear hi)))
      go_ret
      exact ⟨ab7, ab1⟩
   ·replace H := ie_ H; rcases H with ⟨c22b0, c22b1, H⟩ | ⟨c22, c22b0, c22b1, H⟩
    ·obtain rfl := Option.some.inj H
     go_wp2
     go_ret
     exact ⟨ab7, ab1⟩
    ·replace H := bi_ H; obtain ⟨t369, A23, H⟩ := H
     obtain rfl := Option.some.inj H
     go_wp2_with (first | (go_at_call 66; (with_reducible refine (impl_CleanOk.calls k1 a0 t369 _ A23.out).mono ?_); rintro e w24 ⟨rfl, hb⟩; replace HO_6 := am (Kd.R_below (ab8 HO_6) hb); replace HB := am (below_step ab1 hb); (try clear hb); (try clear hb2); (try clear hk); (try clear hi)))
     go_ret
     exact ⟨ab7, ab1⟩

-- NOT PRINTED: function 98 (impl_Attr_98)

-- NOT PRINTED: function 87 (impl_Attr_87)

end Go.Proofs.YthpdpnpojgegiaaGreatDoor.P
