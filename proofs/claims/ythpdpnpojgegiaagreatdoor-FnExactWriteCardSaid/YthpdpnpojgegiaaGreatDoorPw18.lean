-- WRITTEN BY hprint.py
import Derived.Test.YthpdpnpojgegiaaGreatDoorPw0
import Derived.Test.YthpdpnpojgegiaaGreatDoorPw11
import Derived.Test.YthpdpnpojgegiaaGreatDoorPw17
namespace Go.Proofs.YthpdpnpojgegiaaGreatDoor.P
open Go.RowKit Go.Proofs.YthpdpnpojgegiaaGreatDoorW.PrintWords Go.Proofs.YthpdpnpojgegiaaGreatDoorW.PrintLast Go.Proofs.YthpdpnpojgegiaaGreatDoorW.PrintMore
attribute [local go_sem] max2_int min2_int max_two min_two max_three min_three max_four min_four
set_option linter.unusedVariables false
set_option linter.unusedSimpArgs false
set_option maxHeartbeats 8000000
set_option maxRecDepth 100000

/-! ### impl_Clean: function 82 -/
def impl_Clean.f (k : Nat) (a0 : ByteArray) : Option (ByteArray) := (impl_Signs.f k a0).bind fun t353 => ((impl_SignText.f k t353).bind fun t356 => (some t356))
theorem impl_Clean.mono : ∀ a0 k, LeO (impl_Clean.f k a0) (impl_Clean.f (k + 1) a0) := by
 intro a0 k
 unfold impl_Clean.f
 repeat' with_reducible first | exact impl_SignText.mono _ _ | exact impl_Signs.mono _ _ | exact LeO.refl _ | exact LeO.none _ | refine LeO.ite ?_ ?_ | refine LeO.bind ?_ fun _ => ?_
theorem impl_Clean.calls (k : Nat) (a0 : ByteArray) (r : ByteArray) (w : World) (h : impl_Clean.f k a0 = some r) :
  Calls Tryz.prog 82 #[.string a0] w fun e w' => e = .returned (.string r) ∧ Below w.heap.size w w' := by
 have HB := am (Below.refl w.heap.size w)
 have H : ((impl_Signs.f k a0).bind fun t353 => ((impl_SignText.f k t353).bind fun t356 => (some t356))) = some r := h
 clear h
 replace H := bi_ H; obtain ⟨t353, A2, H⟩ := H
 replace H := bi_ H; obtain ⟨t356, A3, H⟩ := H
 obtain rfl := Option.some.inj H
 go_enter Tryz.func82, Tryz.ntmps82
 go_wp2_with (first | ((with_reducible refine gf_ 64 ?_); refine gx_ Tryz.func64 (impl_Signs.calls k a0 t353 _ A2.out) ?_; rintro v354 w4 ⟨ho0, hb⟩; have HO355 := am (Kd.R_lower ho0 (below_size ab1)); replace HB := am (below_step ab1 hb); (try clear hb); (try clear hb2); (try clear hk); (try clear hi); (try clear ho0); obtain ⟨Ao5, co5, eo5⟩ := Kd.R_slice HO355.out; subst eo5) | ((with_reducible refine gf_ 96 ?_); refine gc_ Tryz.func96 (impl_SignText.calls k _ _ t353 t356 _ ?side1 ?side2 A3.out) ?_; (case side1 => repeat (first | exact (Kd.R_reads' HO355.out).2.2 | (with_reducible refine Kd.C_alloc ?_ _) | (with_reducible refine Kd.C_drewN ?_ _) | (with_reducible refine Kd.C_drew ?_))); (case side2 => exact (Kd.R_reads' HO355.out).2.1); rintro w6 hb; replace HO355 := am (Kd.R_below (ab8 HO355) hb); replace HB := am (below_step ab1 hb); (try clear hb); (try clear hb2); (try clear hk); (try clear hi)))
 go_ret
 exact ⟨ab7, ab1⟩

/-! ### impl_CleanOk: function 66 -/
def impl_CleanOk.f (k : Nat) (a0 : ByteArray) : Option (Bool) := (impl_Clean.f k a0).bind fun t357 => (some (t357.toList == a0.toList))
theorem impl_CleanOk.mono : ∀ a0 k, LeO (impl_CleanOk.f k a0) (impl_CleanOk.f (k + 1) a0) := by
 intro a0 k
 unfold impl_CleanOk.f
 repeat' with_reducible first | exact impl_Clean.mono _ _ | exact LeO.refl _ | exact LeO.none _ | refine LeO.ite ?_ ?_ | refine LeO.bind ?_ fun _ => ?_
theorem impl_CleanOk.calls (k : Nat) (a0 : ByteArray) (r : Bool) (w : World) (h : impl_CleanOk.f k a0 = some r) :
  Calls Tryz.prog 66 #[.string a0] w fun e w' => e = .returned (.bool r) ∧ Below w.heap.size w w' := by
 have HB := am (Below.refl w.heap.size w)
 have H : ((impl_Clean.f k a0).bind fun t357 => (some (t357.toList == a0.toList))) = some r := h
 clear h
 replace H := bi_ H; obtain ⟨t357, A2, H⟩ := H
 obtain rfl := Option.some.inj H
 go_enter Tryz.func66, Tryz.ntmps66
 go_wp2_with (first | ((with_reducible refine gf_ 82 ?_); refine gc_ Tryz.func82 (impl_Clean.calls k a0 t357 _ A2.out) ?_; rintro w3 hb; replace HB := am (below_step ab1 hb); (try clear hb); (try clear hb2); (try clear hk); (try clear hi)))
 go_ret
 exact ⟨ab7, ab1⟩

/-! ### impl_TextOk: function 48 -/
def impl_TextOk.l0 : Nat → ByteArray → List Int → Int → Int → Option (Bool)
 | 0, _, _, _, _ => none
 | k + 1, x0, x6, x7, x8 => if x8 < x7 then (if 0 ≤ x8 then (if x8 < (x6.length : Int) then ((impl_IsText.f (rd x6 x8)).bind fun t362 => (if t362 = true then (impl_TextOk.l0 k x0 x6 x7 (wrap64 (x8 + 1))) else (some false))) else (none)) else (none)) else ((impl_CleanOk.f k x0).bind fun t363 => (some t363))
def impl_TextOk.f (k : Nat) (a0 : ByteArray) : Option (Bool) := (impl_Signs.f k a0).bind fun t358 => (impl_TextOk.l0 k a0 t358 (t358.length : Int) 0)
theorem impl_TextOk.mono_l : ∀ k, (∀ y0 y1 y2 y3, LeO (impl_TextOk.l0 k y0 y1 y2 y3) (impl_TextOk.l0 (k + 1) y0 y1 y2 y3))
 | 0 => fun _ _ _ _ r h => by simp [impl_TextOk.l0] at h
 | k + 1 => by
  have ih0 := impl_TextOk.mono_l k
  ·intro y0 y1 y2 y3
   unfold impl_TextOk.l0
   repeat' with_reducible first | exact ih0 _ _ _ _ | exact impl_CleanOk.mono _ _ | exact impl_Signs.mono _ _ | exact LeO.refl _ | exact LeO.none _ | refine LeO.ite ?_ ?_ | refine LeO.bind ?_ fun _ => ?_
theorem impl_TextOk.mono : ∀ a0 k, LeO (impl_TextOk.f k a0) (impl_TextOk.f (k + 1) a0) := by
 intro a0 k
 have ih0 := impl_TextOk.mono_l k
 unfold impl_TextOk.f
 repeat' with_reducible first | exact ih0 _ _ _ _ | exact impl_CleanOk.mono _ _ | exact impl_Signs.mono _ _ | exact LeO.refl _ | exact LeO.none _ | refine LeO.ite ?_ ?_ | refine LeO.bind ?_ fun _ => ?_
theorem impl_TextOk.calls (k : Nat) (a0 : ByteArray) (r : Bool) (w : World) (h : impl_TextOk.f k a0 = some r) :
  Calls Tryz.prog 48 #[.string a0] w fun e w' => e = .returned (.bool r) ∧ Below w.heap.size w w' := by
 have HB := am (Below.refl w.heap.size w)
 have H : ((impl_Signs.f k a0).bind fun t358 => (impl_TextOk.l0 k a0 t358 (t358.length : Int) 0)) = some r := h
 clear h
 replace H := bi_ H; obtain ⟨t358, A2, H⟩ := H
 have H' := am H
 clear H
 go_enter Tryz.func48, Tryz.ntmps48
 go_wp2_with (first | ((with_reducible refine gf_ 64 ?_); refine gx_ Tryz.func64 (impl_Signs.calls k a0 t358 _ A2.out) ?_; rintro v359 w3 ⟨ho0, hb⟩; have HO360 := am (Kd.R_lower ho0 (below_size ab1)); replace HB := am (below_step ab1 hb); (try clear hb); (try clear hb2); (try clear hk); (try clear hi); (try clear ho0); obtain ⟨Ao4, co4, eo4⟩ := Kd.R_slice HO360.out; subst eo4))
 go_loopg [8] k (fun kq v8 w' => ∃ (x8_1 : Int), v8 = .int .i64 x8_1 ∧ Aside0 (impl_TextOk.l0 kq a0 t358 (t358.length : Int) x8_1 = some r) ∧ Aside0 (kq ≤ k) ∧ Aside0 (Kd.R (Kd.int .i64) 3 w' w.heap.size (fun _ => True) (.slice Ao4 t358.length co4) t358) ∧ Aside0 (Below w.heap.size w w'))
 case atStart => exact ⟨(0), ab6, H', ⟨Nat.le_refl _⟩, ⟨ab8 HO360⟩, ⟨ab1⟩⟩
 case round =>
  clear H'
  (try clear p2); (try clear c4)
  obtain ⟨x8_1, rfl, HA, HK1, HO_6, HB⟩ := hrel
  cases gk with
  | zero => exact absurd HA.out (by simp [impl_TextOk.l0])
  | succ k1 =>
   have H := HA.out
   clear HA
   simp only [impl_TextOk.l0] at H
   replace H := ir_ H; rcases H with ⟨c5b0, H⟩ | ⟨c5b0, H⟩
   ·replace H := iq_ H; obtain ⟨c6b0, H⟩ := H
    replace H := iq_ H; obtain ⟨c7b0, H⟩ := H
    replace H := bi_ H; obtain ⟨t362, A8, H⟩ := H
    replace H := ib_ H; rcases H with ⟨rfl, H⟩ | ⟨rfl, H⟩
    ·have H' := am H
     clear H
     have p361 : 0 ≤ (x8_1 : Int) := of_decide_eq_true ab4
     have q361 : x8_1 < (t358.length : Int) := of_decide_eq_true ab4
     obtain ⟨ad361, e361, hx361_0⟩ := Kd.at_int (Kd.R_reads' HO_6.out).2.2 x8_1 p361 q361
     cases e361
     replace p361 := eq_true p361
     replace q361 := eq_true q361
     go_wp2_with (first | ((with_reducible refine gf_ 65 ?_); refine gc_ Tryz.func65 (impl_IsText.calls (rd t358 x8_1) true _ A8.out) ?_; rintro w' ⟨nd, rfl⟩))
     go_roundg k1
     case measure => have := HK1.out; omega
     case rel => exact ⟨(wrap64 (x8_1 + 1)), ab6, H', ⟨by have := HK1.out; omega⟩, ⟨ab8 HO_6⟩, ⟨ab1⟩⟩
    ·obtain rfl := Option.some.inj H
     have p361 : 0 ≤ (x8_1 : Int) := of_decide_eq_true ab4
     have q361 : x8_1 < (t358.length : Int) := of_decide_eq_true ab4
     obtain ⟨ad361, e361, hx361_0⟩ := Kd.at_int (Kd.R_reads' HO_6.out).2.2 x8_1 p361 q361
     cases e361
     replace p361 := eq_true p361
     replace q361 := eq_true q361
     go_wp2_with (first | ((with_reducible refine gf_ 65 ?_); refine gc_ Tryz.func65 (impl_IsText.calls (rd t358 x8_1) false _ A8.out) ?_; rintro w' ⟨nd, rfl⟩))
     go_ret
     exact ⟨ab7, ab1⟩
   ·replace H := bi_ H; obtain ⟨t363, A10, H⟩ := H
    obtain rfl := Option.some.inj H
    go_wp2_with (first | ((with_reducible refine gf_ 66 ?_); refine gc_ Tryz.func66 (impl_CleanOk.calls k1 a0 t363 _ A10.out) ?_; rintro w11 hb; replace HO_6 := am (Kd.R_below (ab8 HO_6) hb); replace HB := am (below_step ab1 hb); (try clear hb); (try clear hb2); (try clear hk); (try clear hi)))
    go_ret
    exact ⟨ab7, ab1⟩

-- NOT PRINTED: function 111 (bytealg_IndexByteString)

-- NOT PRINTED: function 105 (stringslite_IndexByte)

-- NOT PRINTED: function 106 (bytealg_IndexString)

-- NOT PRINTED: function 107 (bytealg_Cutover)

-- NOT PRINTED: function 112 (bytealg_hashStr_string)

-- NOT PRINTED: function 108 (bytealg_IndexRabinKarp_string)

-- NOT PRINTED: function 97 (stringslite_Index)

end Go.Proofs.YthpdpnpojgegiaaGreatDoor.P
