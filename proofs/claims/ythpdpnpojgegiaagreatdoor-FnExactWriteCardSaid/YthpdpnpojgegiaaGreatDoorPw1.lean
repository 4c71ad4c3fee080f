-- WRITTEN BY hprint.py
import Derived.Test.YthpdpnpojgegiaaGreatDoorPw0
namespace Go.Proofs.YthpdpnpojgegiaaGreatDoor.P
open Go.RowKit Go.Proofs.YthpdpnpojgegiaaGreatDoorW.PrintWords Go.Proofs.YthpdpnpojgegiaaGreatDoorW.PrintLast Go.Proofs.YthpdpnpojgegiaaGreatDoorW.PrintMore
attribute [local go_sem] max2_int min2_int max_two min_two max_three min_three max_four min_four
set_option linter.unusedVariables false
set_option linter.unusedSimpArgs false
set_option maxHeartbeats 8000000
set_option maxRecDepth 100000

/-! ### laws_szAttr: function 27 -/
def laws_szAttr.f (a0_0 : ByteArray) (a0_1 : ByteArray) (a1 : Int) : Option (Int) := if (wrap64 (a1 - (a0_0.size : Int))) < 0 then (some (-1)) else (if (wrap64 ((wrap64 (a1 - (a0_0.size : Int))) - (a0_1.size : Int))) < 0 then (some (-1)) else (some (wrap64 ((wrap64 (a1 - (a0_0.size : Int))) - (a0_1.size : Int)))))
theorem laws_szAttr.calls (a0_0 : ByteArray) (a0_1 : ByteArray) (a1 : Int) (r : Int) (w : World) (h : laws_szAttr.f a0_0 a0_1 a1 = some r) :
  Calls Tryz.prog 27 #[.agg #[.string a0_0, .string a0_1], .int .i64 a1] w fun e w' => e = .returned (.int .i64 r) ∧ Below w.heap.size w w' := by
 have hu58 := Tryz.underlying58
 have HB := am (Below.refl w.heap.size w)
 have H : (if (wrap64 (a1 - (a0_0.size : Int))) < 0 then (some (-1)) else (if (wrap64 ((wrap64 (a1 - (a0_0.size : Int))) - (a0_1.size : Int))) < 0 then (some (-1)) else (some (wrap64 ((wrap64 (a1 - (a0_0.size : Int))) - (a0_1.size : Int)))))) = some r := h
 clear h
 replace H := ir_ H; rcases H with ⟨c3b0, H⟩ | ⟨c3b0, H⟩
 ·obtain rfl := Option.some.inj H
  go_enter Tryz.func27, Tryz.ntmps27
  go_wp2_with (first | ((with_reducible refine gd_ 2 ?_); refine bx_ 2 (cs := #[.string a0_0, .string a0_1]) 58 ?_; intro gb101 hg w4 hbox hb; have BK101 := am hbox; have GW101 := ge_ (w := w) hg; have GE101 := ge_ (w := w) hg; replace HB := am (below_step ab1 hb); clear hb hbox hg; obtain ⟨⟨_, _⟩, _, _⟩ := Op.cells2 BK101.out))
  go_ret
  exact ⟨ab7, ab2 GE101⟩
 ·replace H := ir_ H; rcases H with ⟨c6b0, H⟩ | ⟨c6b0, H⟩
  ·obtain rfl := Option.some.inj H
   go_enter Tryz.func27, Tryz.ntmps27
   go_wp2_with (first | ((with_reducible refine gd_ 2 ?_); refine bx_ 2 (cs := #[.string a0_0, .string a0_1]) 58 ?_; intro gb101 hg w7 hbox hb; have BK101 := am hbox; have GW101 := ge_ (w := w) hg; have GE101 := ge_ (w := w) hg; replace HB := am (below_step ab1 hb); clear hb hbox hg; obtain ⟨⟨_, _⟩, _, _⟩ := Op.cells2 BK101.out))
   go_ret
   exact ⟨ab7, ab2 GE101⟩
  ·obtain rfl := Option.some.inj H
   go_enter Tryz.func27, Tryz.ntmps27
   go_wp2_with (first | ((with_reducible refine gd_ 2 ?_); refine bx_ 2 (cs := #[.string a0_0, .string a0_1]) 58 ?_; intro gb101 hg w9 hbox hb; have BK101 := am hbox; have GW101 := ge_ (w := w) hg; have GE101 := ge_ (w := w) hg; replace HB := am (below_step ab1 hb); clear hb hbox hg; obtain ⟨⟨_, _⟩, _, _⟩ := Op.cells2 BK101.out))
   go_ret
   exact ⟨ab7, ab2 GE101⟩

/-! ### laws_szAttrS: function 15 -/
def laws_szAttrS.l0 : Nat → List (S58) → Int → Int → Option (Int)
 | 0, _, _, _ => none
 | k + 1, x0, x1, x5 => if x5 < (x0.length : Int) then (if 0 ≤ x5 then ((laws_szAttr.f ((rd_T58 x0 x5).f0) ((rd_T58 x0 x5).f1) x1).bind fun t103 => (if t103 < 0 then (some (-1)) else (laws_szAttrS.l0 k x0 t103 (wrap64 (x5 + 1))))) else (none)) else (some x1)
def laws_szAttrS.f (k : Nat) (l0 : List (S58)) (a1 : Int) : Option (Int) := if (wrap64 (a1 - (l0.length : Int))) < 0 then (some (-1)) else (laws_szAttrS.l0 k l0 (wrap64 (a1 - (l0.length : Int))) 0)
theorem laws_szAttrS.mono_l : ∀ k, (∀ y0 y1 y2, LeO (laws_szAttrS.l0 k y0 y1 y2) (laws_szAttrS.l0 (k + 1) y0 y1 y2))
 | 0 => fun _ _ _ r h => by simp [laws_szAttrS.l0] at h
 | k + 1 => by
  have ih0 := laws_szAttrS.mono_l k
  ·intro y0 y1 y2
   unfold laws_szAttrS.l0
   repeat' with_reducible first | exact ih0 _ _ _ | exact LeO.refl _ | exact LeO.none _ | refine LeO.ite ?_ ?_ | refine LeO.bind ?_ fun _ => ?_
theorem laws_szAttrS.mono : ∀ a0 a1 k, LeO (laws_szAttrS.f k a0 a1) (laws_szAttrS.f (k + 1) a0 a1) := by
 intro a0 a1 k
 have ih0 := laws_szAttrS.mono_l k
 unfold laws_szAttrS.f
 repeat' with_reducible first | exact ih0 _ _ _ | exact LeO.refl _ | exact LeO.none _ | refine LeO.ite ?_ ?_ | refine LeO.bind ?_ fun _ => ?_
theorem laws_szAttrS.calls (k : Nat) (A0 : Option Addr) (c0 : Nat) (l0 : List (S58)) (a1 : Int) (r : Int) (w : World) (hr0 : Kd.C k58 w A0 l0.length l0) (hc0 : l0.length ≤ c0) (h : laws_szAttrS.f k l0 a1 = some r) :
  Calls Tryz.prog 15 #[.slice A0 l0.length c0, .int .i64 a1] w fun e w' => e = .returned (.int .i64 r) ∧ Below w.heap.size w w' := by
 have hu58 := Tryz.underlying58
 have HR0 := am hr0
 have HC0 := am hc0
 clear hr0 hc0
 have HB := am (Below.refl w.heap.size w)
 have H : (if (wrap64 (a1 - (l0.length : Int))) < 0 then (some (-1)) else (laws_szAttrS.l0 k l0 (wrap64 (a1 - (l0.length : Int))) 0)) = some r := h
 clear h
 replace H := ir_ H; rcases H with ⟨c3b0, H⟩ | ⟨c3b0, H⟩
 ·obtain rfl := Option.some.inj H
  go_enter Tryz.func15, Tryz.ntmps15
  go_wp2
  go_ret
  exact ⟨ab7, ab1⟩
 ·have H' := am H
  clear H
  go_enter Tryz.func15, Tryz.ntmps15
  go_wp2
  go_loopg [1, 5] k (fun kq v1 v5 w' => ∃ (x1_1 : Int) (x5_1 : Int), v1 = .int .i64 x1_1 ∧ v5 = .int .i64 x5_1 ∧ Aside0 (laws_szAttrS.l0 kq l0 x1_1 x5_1 = some r) ∧ Aside0 (kq ≤ k) ∧ Aside0 (Below w.heap.size w w'))
  case atStart => exact ⟨(wrap64 (a1 - (l0.length : Int))), (0), ab6, ab6, H', ⟨Nat.le_refl _⟩, ⟨ab1⟩⟩
  case round =>
   clear H'
   (try clear c1); (try clear p2); (try clear c3); (try clear c3b0)
   obtain ⟨x1_1, x5_1, rfl, rfl, HA, HK1, HB⟩ := hrel
   cases gk with
   | zero => exact absurd HA.out (by simp [laws_szAttrS.l0])
   | succ k1 =>
    have H := HA.out
    clear HA
    simp only [laws_szAttrS.l0] at H
    replace H := ir_ H; rcases H with ⟨c4b0, H⟩ | ⟨c4b0, H⟩
    ·replace H := iq_ H; obtain ⟨c5b0, H⟩ := H
     replace H := bi_ H; obtain ⟨t103, A6, H⟩ := H
     replace H := ir_ H; rcases H with ⟨c7b0, H⟩ | ⟨c7b0, H⟩
     ·obtain rfl := Option.some.inj H
      have p102 : 0 ≤ (x5_1 : Int) := of_decide_eq_true ab4
      have q102 : x5_1 < (l0.length : Int) := of_decide_eq_true ab4
      obtain ⟨ad102, e102, hx102_0, hx102_1⟩ := at_T58 HR0.out x5_1 p102 q102
      cases e102
      replace hx102_0 := pc_ HB hx102_0
      replace hx102_1 := pc_ HB hx102_1
      replace p102 := eq_true p102
      replace q102 := eq_true q102
      go_wp2_with (first | ((with_reducible refine gf_ 27 ?_); refine gc_ Tryz.func27 (laws_szAttr.calls ((rd_T58 l0 x5_1).f0) ((rd_T58 l0 x5_1).f1) x1_1 t103 _ A6.out) ?_; rintro w8 hb; replace HB := am (below_step ab1 hb); (try clear hb); (try clear hb2); (try clear hk); (try clear hi)))
      go_ret
      exact ⟨ab7, ab1⟩
     ·have H' := am H
      clear H
      have p102 : 0 ≤ (x5_1 : Int) := of_decide_eq_true ab4
      have q102 : x5_1 < (l0.length : Int) := of_decide_eq_true ab4
      obtain ⟨ad102, e102, hx102_0, hx102_1⟩ := at_T58 HR0.out x5_1 p102 q102
      cases e102
      replace hx102_0 := pc_ HB hx102_0
      replace hx102_1 := pc_ HB hx102_1
      replace p102 := eq_true p102
      replace q102 := eq_true q102
      go_wp2_with (first | ((with_reducible refine gf_ 27 ?_); refine gc_ Tryz.func27 (laws_szAttr.calls ((rd_T58 l0 x5_1).f0) ((rd_T58 l0 x5_1).f1) x1_1 t103 _ A6.out) ?_; rintro w9 hb; replace HB := am (below_step ab1 hb); (try clear hb); (try clear hb2); (try clear hk); (try clear hi)))
      go_roundg k1
      case measure => have := HK1.out; omega
      case rel => exact ⟨(t103), (wrap64 (x5_1 + 1)), ab6, ab6, H', ⟨by have := HK1.out; omega⟩, ⟨ab1⟩⟩
    ·obtain rfl := Option.some.inj H
     go_wp2
     go_ret
     exact ⟨ab7, ab1⟩

mutual
def laws_szElS.l0 : Nat → List (S25) → Int → Int → Option (Int)
 | 0, _, _, _ => none
 | k + 1, x0, x1, x5 => if x5 < (x0.length : Int) then (if 0 ≤ x5 then ((laws_szEl.f k ((rd_T25 x0 x5).f0) ((rd_T25 x0 x5).f1) ((rd_T25 x0 x5).f2) ((rd_T25 x0 x5).f3) ((rd_T25 x0 x5).f4) ((rd_T25 x0 x5).f5) x1).bind fun t115 => (if t115 < 0 then (some (-1)) else (laws_szElS.l0 k x0 t115 (wrap64 (x5 + 1))))) else (none)) else (some x1)
def laws_szElS.f : Nat → List (S25) → Int → Option (Int)
 | 0, _, _ => none
 | k + 1, l0, a1 => if (wrap64 (a1 - (l0.length : Int))) < 0 then (some (-1)) else (laws_szElS.l0 k l0 (wrap64 (a1 - (l0.length : Int))) 0)
def laws_szEl.f : Nat → Int → Int → ByteArray → List (S58) → ByteArray → List (S25) → Int → Option (Int)
 | 0, _, _, _, _, _, _, _ => none
 | k + 1, a0_0, a0_1, a0_2, l0_3, a0_4, l0_5, a1 => if (wrap64 (a1 - (a0_2.size : Int))) < 0 then (some (-1)) else ((laws_szAttrS.f k l0_3 (wrap64 (a1 - (a0_2.size : Int)))).bind fun t117 => (if t117 < 0 then (some (-1)) else (if (wrap64 (t117 - (a0_4.size : Int))) < 0 then (some (-1)) else ((laws_szElS.f k l0_5 (wrap64 (t117 - (a0_4.size : Int)))).bind fun t118 => (if t118 < 0 then (some (-1)) else (some t118))))))
end
theorem laws_szElS_laws_szEl.mono_l : ∀ k, (∀ y0 y1, LeO (laws_szElS.f k y0 y1) (laws_szElS.f (k + 1) y0 y1)) ∧ (∀ y0 y1 y2, LeO (laws_szElS.l0 k y0 y1 y2) (laws_szElS.l0 (k + 1) y0 y1 y2)) ∧ (∀ y0 y1 y2 y3 y4 y5 y6, LeO (laws_szEl.f k y0 y1 y2 y3 y4 y5 y6) (laws_szEl.f (k + 1) y0 y1 y2 y3 y4 y5 y6))
 | 0 => ⟨fun _ _ r h => by simp [laws_szElS.f] at h, fun _ _ _ r h => by simp [laws_szElS.l0] at h, fun _ _ _ _ _ _ _ r h => by simp [laws_szEl.f] at h⟩
 | k + 1 => by
  obtain ⟨ih0, ih1, ih2⟩ := laws_szElS_laws_szEl.mono_l k
  refine ⟨?_, ?_, ?_⟩
  ·intro y0 y1
   unfold laws_szElS.f
   repeat' with_reducible first | exact ih0 _ _ | exact ih1 _ _ _ | exact ih2 _ _ _ _ _ _ _ | exact laws_szAttrS.mono _ _ _ | exact LeO.refl _ | exact LeO.none _ | refine LeO.ite ?_ ?_ | refine LeO.bind ?_ fun _ => ?_
  ·intro y0 y1 y2
   unfold laws_szElS.l0
   repeat' with_reducible first | exact ih0 _ _ | exact ih1 _ _ _ | exact ih2 _ _ _ _ _ _ _ | exact laws_szAttrS.mono _ _ _ | exact LeO.refl _ | exact LeO.none _ | refine LeO.ite ?_ ?_ | refine LeO.bind ?_ fun _ => ?_
  ·intro y0 y1 y2 y3 y4 y5 y6
   unfold laws_szEl.f
   repeat' with_reducible first | exact ih0 _ _ | exact ih1 _ _ _ | exact ih2 _ _ _ _ _ _ _ | exact laws_szAttrS.mono _ _ _ | exact LeO.refl _ | exact LeO.none _ | refine LeO.ite ?_ ?_ | refine LeO.bind ?_ fun _ => ?_
theorem laws_szElS.mono : ∀ a0 a1 k, LeO (laws_szElS.f k a0 a1) (laws_szElS.f (k + 1) a0 a1) := fun a0 a1 k => (laws_szElS_laws_szEl.mono_l k).1 a0 a1
theorem laws_szEl.mono : ∀ a0 a1 a2 a3 a4 a5 a6 k, LeO (laws_szEl.f k a0 a1 a2 a3 a4 a5 a6) (laws_szEl.f (k + 1) a0 a1 a2 a3 a4 a5 a6) := fun a0 a1 a2 a3 a4 a5 a6 k => (laws_szElS_laws_szEl.mono_l k).2.2 a0 a1 a2 a3 a4 a5 a6
/-! ### laws_szElS: function 10 -/
theorem laws_szElS.calls_ (k : Nat) (ih_laws_szEl : ∀ m, m < k → (∀ (a0_0 : Int) (a0_1 : Int) (a0_2 : ByteArray) (A0_3 : Option Addr) (c0_3 : Nat) (l0_3 : List (S58)) (a0_4 : ByteArray) (A0_5 : Option Addr) (c0_5 : Nat) (l0_5 : List (S25)) (a1 : Int) (r : Int) (w : World) (hr0_3 : Kd.C k58 w A0_3 l0_3.length l0_3) (hc0_3 : l0_3.length ≤ c0_3) (hr0_5 : Kd.C k25 w A0_5 l0_5.length l0_5) (hc0_5 : l0_5.length ≤ c0_5) (h : laws_szEl.f m a0_0 a0_1 a0_2 l0_3 a0_4 l0_5 a1 = some r),
  Calls Tryz.prog 5 #[.agg #[.int .i64 a0_0, .int .i64 a0_1, .string a0_2, .slice A0_3 l0_3.length c0_3, .string a0_4, .slice A0_5 l0_5.length c0_5], .int .i64 a1] w fun e w' => e = .returned (.int .i64 r) ∧ Below w.heap.size w w')) : ∀ (A0 : Option Addr) (c0 : Nat) (l0 : List (S25)) (a1 : Int) (r : Int) (w : World) (hr0 : Kd.C k25 w A0 l0.length l0) (hc0 : l0.length ≤ c0) (h : laws_szElS.f k l0 a1 = some r),
  Calls Tryz.prog 10 #[.slice A0 l0.length c0, .int .i64 a1] w fun e w' => e = .returned (.int .i64 r) ∧ Below w.heap.size w w' := by
 intro A0 c0 l0 a1 r w hr0 hc0 h
 cases k with
 | zero => exact absurd h (by simp [laws_szElS.f])
 | succ k =>
 simp only [laws_szElS.f] at h
 have hu25 := Tryz.underlying25
 have HR0 := am hr0
 have HC0 := am hc0
 clear hr0 hc0
 have HB := am (Below.refl w.heap.size w)
 have H : (if (wrap64 (a1 - (l0.length : Int))) < 0 then (some (-1)) else (laws_szElS.l0 k l0 (wrap64 (a1 - (l0.length : Int))) 0)) = some r := h
 clear h
 replace H := ir_ H; rcases H with ⟨c3b0, H⟩ | ⟨c3b0, H⟩
 ·obtain rfl := Option.some.inj H
  go_enter Tryz.func10, Tryz.ntmps10
  go_wp2
  go_ret
  exact ⟨ab7, ab1⟩
 ·have H' := am H
  clear H
  go_enter Tryz.func10, Tryz.ntmps10
  go_wp2
  go_loopg [1, 5] k (fun kq v1 v5 w' => ∃ (x1_1 : Int) (x5_1 : Int), v1 = .int .i64 x1_1 ∧ v5 = .int .i64 x5_1 ∧ Aside0 (laws_szElS.l0 kq l0 x1_1 x5_1 = some r) ∧ Aside0 (kq ≤ k) ∧ Aside0 (Below w.heap.size w w'))
  case atStart => exact ⟨(wrap64 (a1 - (l0.length : Int))), (0), ab6, ab6, H', ⟨Nat.le_refl _⟩, ⟨ab1⟩⟩
  case round =>
   clear H'
   (try clear c1); (try clear p2); (try clear c3); (try clear c3b0)
   obtain ⟨x1_1, x5_1, rfl, rfl, HA, HK1, HB⟩ := hrel
   cases gk with
   | zero => exact absurd HA.out (by simp [laws_szElS.l0])
   | succ k1 =>
    have H := HA.out
    clear HA
    simp only [laws_szElS.l0] at H
    replace H := ir_ H; rcases H with ⟨c4b0, H⟩ | ⟨c4b0, H⟩
    ·replace H := iq_ H; obtain ⟨c5b0, H⟩ := H
     replace H := bi_ H; obtain ⟨t115, A6, H⟩ := H
     replace H := ir_ H; rcases H with ⟨c7b0, H⟩ | ⟨c7b0, H⟩
     ·obtain rfl := Option.some.inj H
      have p114 : 0 ≤ (x5_1 : Int) := of_decide_eq_true ab4
      have q114 : x5_1 < (l0.length : Int) := of_decide_eq_true ab4
      obtain ⟨ad114, A114_3, c114_3, A114_5, c114_5, e114, hx114_0, hx114_1, hx114_2, hx114_3, hx114_4, hx114_5, hl114_3, hi114_3, hl114_5, hi114_5⟩ := at_T25 HR0.out x5_1 p114 q114
      cases e114
      replace hx114_0 := pc_ HB hx114_0
      replace hx114_1 := pc_ HB hx114_1
      replace hx114_2 := pc_ HB hx114_2
      replace hx114_3 := pc_ HB hx114_3
      replace hx114_4 := pc_ HB hx114_4
      replace hx114_5 := pc_ HB hx114_5
      have HR114_3 := am hi114_3
      have HC114_3 := am hl114_3
      clear hi114_3 hl114_3
      have HR114_5 := am hi114_5
      have HC114_5 := am hl114_5
      clear hi114_5 hl114_5
      replace p114 := eq_true p114
      replace q114 := eq_true q114
      go_wp2_with (first | ((with_reducible refine gate_callee (f := 5) rfl ?_); refine goesL_ (some 23) rfl rfl Tryz.func5 (by kernel_rfl) rfl #[.agg #[.int .i64 ((rd_T25 l0 x5_1).f0), .int .i64 ((rd_T25 l0 x5_1).f1), .string ((rd_T25 l0 x5_1).f2), .slice A114_3 ((rd_T25 l0 x5_1).f3).length c114_3, .string ((rd_T25 l0 x5_1).f4), .slice A114_5 ((rd_T25 l0 x5_1).f5).length c114_5], .int .i64 x1_1] rfl ab5 ?_; (with_reducible refine (ih_laws_szEl k1 (by have := HK1.out; omega) ((rd_T25 l0 x5_1).f0) ((rd_T25 l0 x5_1).f1) ((rd_T25 l0 x5_1).f2) _ _ ((rd_T25 l0 x5_1).f3) ((rd_T25 l0 x5_1).f4) _ _ ((rd_T25 l0 x5_1).f5) x1_1 t115 _ ?side1 ?side2 ?side3 ?side4 A6.out).mono ?_); (case side1 => repeat (first | exact (Kd.C_below HR114_3.out HB.out) | (with_reducible refine Kd.C_alloc ?_ _) | (with_reducible refine Kd.C_drewN ?_ _) | (with_reducible refine Kd.C_drew ?_))); (case side2 => exact HC114_3.out); (case side3 => repeat (first | exact (Kd.C_below HR114_5.out HB.out) | (with_reducible refine Kd.C_alloc ?_ _) | (with_reducible refine Kd.C_drewN ?_ _) | (with_reducible refine Kd.C_drew ?_))); (case side4 => exact HC114_5.out); rintro e w8 ⟨rfl, hb⟩; refine ⟨_, rfl, ?_⟩; replace HB := am (below_step ab1 hb); (try clear hb); (try clear hb2); (try clear hk); (try clear hi)))
      go_ret
      exact ⟨ab7, ab1⟩
     ·have H' := am H
      clear H
      have p114 : 0 ≤ (x5_1 : Int) := of_decide_eq_true ab4
      have q114 : x5_1 < (l0.length : Int) := of_decide_eq_true ab4
      obtain ⟨ad114, A114_3, c114_3, A114_5, c114_5, e114, hx114_0, hx114_1, hx114_2, hx114_3, hx114_4, hx114_5, hl114_3, hi114_3, hl114_5, hi114_5⟩ := at_T25 HR0.out x5_1 p114 q114
      cases e114
      replace hx114_0 := pc_ HB hx114_0
      replace hx114_1 := pc_ HB hx114_1
      replace hx114_2 := pc_ HB hx114_2
      replace hx114_3 := pc_ HB hx114_3
      replace hx114_4 := pc_ HB hx114_4
      replace hx114_5 := pc_ HB hx114_5
      have HR114_3 := am hi114_3
      have HC114_3 := am hl114_3
      clear hi114_3 hl114_3
      have HR114_5 := am hi114_5
      have HC114_5 := am hl114_5
      clear hi114_5 hl114_5
      replace p114 := eq_true p114
      replace q114 := eq_true q114
      go_wp2_with (first | ((with_reducible refine gate_callee (f := 5) rfl ?_); refine goesL_ (some 23) rfl rfl Tryz.func5 (by kernel_rfl) rfl #[.agg #[.int .i64 ((rd_T25 l0 x5_1).f0), .int .i64 ((rd_T25 l0 x5_1).f1), .string ((rd_T25 l0 x5_1).f2), .slice A114_3 ((rd_T25 l0 x5_1).f3).length c114_3, .string ((rd_T25 l0 x5_1).f4), .slice A114_5 ((rd_T25 l0 x5_1).f5).length c114_5], .int .i64 x1_1] rfl ab5 ?_; (with_reducible refine (ih_laws_szEl k1 (by have := HK1.out; omega) ((rd_T25 l0 x5_1).f0) ((rd_T25 l0 x5_1).f1) ((rd_T25 l0 x5_1).f2) _ _ ((rd_T25 l0 x5_1).f3) ((rd_T25 l0 x5_1).f4) _ _ ((rd_T25 l0 x5_1).f5) x1_1 t115 _ ?side1 ?side2 ?side3 ?side4 A6.out).mono ?_); (case side1 => repeat (first | exact (Kd.C_below HR114_3.out HB.out) | (with_reducible refine Kd.C_alloc ?_ _) | (with_reducible refine Kd.C_drewN ?_ _) | (with_reducible refine Kd.C_drew ?_))); (case side2 => exact HC114_3.out); (case side3 => repeat (first | exact (Kd.C_below HR114_5.out HB.out) | (with_reducible refine Kd.C_alloc ?_ _) | (with_reducible refine Kd.C_drewN ?_ _) | (with_reducible refine Kd.C_drew ?_))); (case side4 => exact HC114_5.out); rintro e w9 ⟨rfl, hb⟩; refine ⟨_, rfl, ?_⟩; replace HB := am (below_step ab1 hb); (try clear hb); (try clear hb2); (try clear hk); (try clear hi)))
      go_roundg k1
      case measure => have := HK1.out; omega
      case rel => exact ⟨(t115), (wrap64 (x5_1 + 1)), ab6, ab6, H', ⟨by have := HK1.out; omega⟩, ⟨ab1⟩⟩
    ·obtain rfl := Option.some.inj H
     go_wp2
     go_ret
     exact ⟨ab7, ab1⟩

/-! ### laws_szEl: function 5 -/
theorem laws_szEl.calls_ (k : Nat) (ih_laws_szElS : ∀ m, m < k → (∀ (A0 : Option Addr) (c0 : Nat) (l0 : List (S25)) (a1 : Int) (r : Int) (w : World) (hr0 : Kd.C k25 w A0 l0.length l0) (hc0 : l0.length ≤ c0) (h : laws_szElS.f m l0 a1 = some r),
  Calls Tryz.prog 10 #[.slice A0 l0.length c0, .int .i64 a1] w fun e w' => e = .returned (.int .i64 r) ∧ Below w.heap.size w w')) : ∀ (a0_0 : Int) (a0_1 : Int) (a0_2 : ByteArray) (A0_3 : Option Addr) (c0_3 : Nat) (l0_3 : List (S58)) (a0_4 : ByteArray) (A0_5 : Option Addr) (c0_5 : Nat) (l0_5 : List (S25)) (a1 : Int) (r : Int) (w : World) (hr0_3 : Kd.C k58 w A0_3 l0_3.length l0_3) (hc0_3 : l0_3.length ≤ c0_3) (hr0_5 : Kd.C k25 w A0_5 l0_5.length l0_5) (hc0_5 : l0_5.length ≤ c0_5) (h : laws_szEl.f k a0_0 a0_1 a0_2 l0_3 a0_4 l0_5 a1 = some r),
  Calls Tryz.prog 5 #[.agg #[.int .i64 a0_0, .int .i64 a0_1, .string a0_2, .slice A0_3 l0_3.length c0_3, .string a0_4, .slice A0_5 l0_5.length c0_5], .int .i64 a1] w fun e w' => e = .returned (.int .i64 r) ∧ Below w.heap.size w w' := by
 intro a0_0 a0_1 a0_2 A0_3 c0_3 l0_3 a0_4 A0_5 c0_5 l0_5 a1 r w hr0_3 hc0_3 hr0_5 hc0_5 h
 cases k with
 | zero => exact absurd h (by simp [laws_szEl.f])
 | succ k =>
 simp only [laws_szEl.f] at h
 have hu25 := Tryz.underlying25
 have HR0_3 := am hr0_3
 have HC0_3 := am hc0_3
 clear hr0_3 hc0_3
 have HR0_5 := am hr0_5
 have HC0_5 := am hc0_5
 clear hr0_5 hc0_5
 have HB := am (Below.refl w.heap.size w)
 have H : (if (wrap64 (a1 - (a0_2.size : Int))) < 0 then (some (-1)) else ((laws_szAttrS.f k l0_3 (wrap64 (a1 - (a0_2.size : Int)))).bind fun t117 => (if t117 < 0 then (some (-1)) else (if (wrap64 (t117 - (a0_4.size : Int))) < 0 then (some (-1)) else ((laws_szElS.f k l0_5 (wrap64 (t117 - (a0_4.size : Int)))).bind fun t118 => (if t118 < 0 then (some (-1)) else (some t118))))))) = some r := h
 clear h
 replace H := ir_ H; rcases H with ⟨c3b0, H⟩ | ⟨c3b0, H⟩
 ·obtain rfl := Option.some.inj H
  go_enter Tryz.func5, Tryz.ntmps5
  go_wp2_with (first | ((with_reducible refine gd_ 2 ?_); refine bx_ 2 (cs := #[.int .i64 a0_0, .int .i64 a0_1, .string a0_2, .slice A0_3 l0_3.length c0_3, .string a0_4, .slice A0_5 l0_5.length c0_5]) 25 ?_; intro gb116 hg w4 hbox hb; have BK116 := am hbox; have GW116 := ge_ (w := w) hg; have GE116 := ge_ (w := w) hg; replace HB := am (below_step ab1 hb); clear hb hbox hg; obtain ⟨⟨_, _, _, _, _, _⟩, _, _, _, _, _, _⟩ := Op.cells6 BK116.out))
  go_ret
  exact ⟨ab7, ab2 GE116⟩
 ·replace H := bi_ H; obtain ⟨t117, A6, H⟩ := H
  replace H := ir_ H; rcases H with ⟨c7b0, H⟩ | ⟨c7b0, H⟩
  ·obtain rfl := Option.some.inj H
   go_enter Tryz.func5, Tryz.ntmps5
   go_wp2_with (first | ((with_reducible refine gd_ 2 ?_); refine bx_ 2 (cs := #[.int .i64 a0_0, .int .i64 a0_1, .string a0_2, .slice A0_3 l0_3.length c0_3, .string a0_4, .slice A0_5 l0_5.length c0_5]) 25 ?_; intro gb116 hg w8 hbox hb; have BK116 := am hbox; have GW116 := ge_ (w := w) hg; have GE116 := ge_ (w := w) hg; replace HB := am (below_step ab1 hb); clear hb hbox hg; obtain ⟨⟨_, _, _, _, _, _⟩, _, _, _, _, _, _⟩ := Op.cells6 BK116.out) | ((with_reducible refine gf_ 15 ?_); refine gc_ Tryz.func15 (laws_szAttrS.calls k _ _ l0_3 (wrap64 (a1 - (a0_2.size : Int))) t117 _ (sc_ HR0_3) HC0_3.out A6.out) ?_; rintro w10 hb; replace BK116 := bl_ BK116 hb; replace HB := am (below_step (ab2 GE116) hb); (try clear hb); (try clear hb2); (try clear hk); (try clear hi)))
   go_ret
   exact ⟨ab7, ab2 GE116⟩
  ·replace H := ir_ H; rcases H with ⟨c11b0, H⟩ | ⟨c11b0, H⟩
   ·obtain rfl := Option.some.inj H
    go_enter Tryz.func5, Tryz.ntmps5
    go_wp2_with (first | ((with_reducible refine gd_ 2 ?_); refine bx_ 2 (cs := #[.int .i64 a0_0, .int .i64 a0_1, .string a0_2, .slice A0_3 l0_3.length c0_3, .string a0_4, .slice A0_5 l0_5.length c0_5]) 25 ?_; intro gb116 hg w12 hbox hb; have BK116 := am hbox; have GW116 := ge_ (w := w) hg; have GE116 := ge_ (w := w) hg; replace HB := am (below_step ab1 hb); clear hb hbox hg; obtain ⟨⟨_, _, _, _, _, _⟩, _, _, _, _, _, _⟩ := Op.cells6 BK116.out) | ((with_reducible refine gf_ 15 ?_); refine gc_ Tryz.func15 (laws_szAttrS.calls k _ _ l0_3 (wrap64 (a1 - (a0_2.size : Int))) t117 _ (sc_ HR0_3) HC0_3.out A6.out) ?_; rintro w14 hb; replace BK116 := bl_ BK116 hb; replace HB := am (below_step (ab2 GE116) hb); (try clear hb); (try clear hb2); (try clear hk); (try clear hi); obtain ⟨⟨_, _, _, _, _, _⟩, _, _, _, _, _, _⟩ := Op.cells6 BK116.out))
    go_ret
    exact ⟨ab7, ab2 GE116⟩
   ·replace H := bi_ H; obtain ⟨t118, A16, H⟩ := H
    replace H := ir_ H; rcases H with ⟨c17b0, H⟩ | ⟨c17b0, H⟩
    ·obtain rfl := Option.some.inj H
     go_enter Tryz.func5, Tryz.ntmps5
     go_wp2_with (first | ((with_reducible refine gd_ 2 ?_); refine bx_ 2 (cs := #[.int .i64 a0_0, .int .i64 a0_1, .string a0_2, .slice A0_3 l0_3.length c0_3, .string a0_4, .slice A0_5 l0_5.length c0_5]) 25 ?_; intro gb116 hg w18 hbox hb; have BK116 := am hbox; have GW116 := ge_ (w := w) hg; have GE116 := ge_ (w := w) hg; replace HB := am (below_step ab1 hb); clear hb hbox hg; obtain ⟨⟨_, _, _, _, _, _⟩, _, _, _, _, _, _⟩ := Op.cells6 BK116.out) | ((with_reducible refine gf_ 15 ?_); refine gc_ Tryz.func15 (laws_szAttrS.calls k _ _ l0_3 (wrap64 (a1 - (a0_2.size : Int))) t117 _ (sc_ HR0_3) HC0_3.out A6.out) ?_; rintro w20 hb; replace BK116 := bl_ BK116 hb; replace HB := am (below_step (ab2 GE116) hb); (try clear hb); (try clear hb2); (try clear hk); (try clear hi); obtain ⟨⟨_, _, _, _, _, _⟩, _, _, _, _, _, _⟩ := Op.cells6 BK116.out) | ((with_reducible refine gf_ 10 ?_); refine gc_ Tryz.func10 (ih_laws_szElS k (by omega) _ _ l0_5 (wrap64 (t117 - (a0_4.size : Int))) t118 _ (sc_ HR0_5) HC0_5.out A16.out) ?_; rintro w22 hb; replace BK116 := bl_ BK116 hb; replace HB := am (below_step (ab2 GE116) hb); (try clear hb); (try clear hb2); (try clear hk); (try clear hi)))
     go_ret
     exact ⟨ab7, ab2 GE116⟩
    ·obtain rfl := Option.some.inj H
     go_enter Tryz.func5, Tryz.ntmps5
     go_wp2_with (first | ((with_reducible refine gd_ 2 ?_); refine bx_ 2 (cs := #[.int .i64 a0_0, .int .i64 a0_1, .string a0_2, .slice A0_3 l0_3.length c0_3, .string a0_4, .slice A0_5 l0_5.length c0_5]) 25 ?_; intro gb116 hg w23 hbox hb; have BK116 := am hbox; have GW116 := ge_ (w := w) hg; have GE116 := ge_ (w := w) hg; replace HB := am (below_step ab1 hb); clear hb hbox hg; obtain ⟨⟨_, _, _, _, _, _⟩, _, _, _, _, _, _⟩ := Op.cells6 BK116.out) | ((with_reducible refine gf_ 15 ?_); refine gc_ Tryz.func15 (laws_szAttrS.calls k _ _ l0_3 (wrap64 (a1 - (a0_2.size : Int))) t117 _ (sc_ HR0_3) HC0_3.out A6.out) ?_; rintro w25 hb; replace BK116 := bl_ BK116 hb; replace HB := am (below_step (ab2 GE116) hb); (try clear hb); (try clear hb2); (try clear hk); (try clear hi); obtain ⟨⟨_, _, _, _, _, _⟩, _, _, _, _, _, _⟩ := Op.cells6 BK116.out) | ((with_reducible refine gf_ 10 ?_); refine gc_ Tryz.func10 (ih_laws_szElS k (by omega) _ _ l0_5 (wrap64 (t117 - (a0_4.size : Int))) t118 _ (sc_ HR0_5) HC0_5.out A16.out) ?_; rintro w27 hb; replace BK116 := bl_ BK116 hb; replace HB := am (below_step (ab2 GE116) hb); (try clear hb); (try clear hb2); (try clear hk); (try clear hi)))
     go_ret
     exact ⟨ab7, ab2 GE116⟩

theorem laws_szElS_laws_szEl.calls_all : ∀ k, (∀ (A0 : Option Addr) (c0 : Nat) (l0 : List (S25)) (a1 : Int) (r : Int) (w : World) (hr0 : Kd.C k25 w A0 l0.length l0) (hc0 : l0.length ≤ c0) (h : laws_szElS.f k l0 a1 = some r),
  Calls Tryz.prog 10 #[.slice A0 l0.length c0, .int .i64 a1] w fun e w' => e = .returned (.int .i64 r) ∧ Below w.heap.size w w') ∧ (∀ (a0_0 : Int) (a0_1 : Int) (a0_2 : ByteArray) (A0_3 : Option Addr) (c0_3 : Nat) (l0_3 : List (S58)) (a0_4 : ByteArray) (A0_5 : Option Addr) (c0_5 : Nat) (l0_5 : List (S25)) (a1 : Int) (r : Int) (w : World) (hr0_3 : Kd.C k58 w A0_3 l0_3.length l0_3) (hc0_3 : l0_3.length ≤ c0_3) (hr0_5 : Kd.C k25 w A0_5 l0_5.length l0_5) (hc0_5 : l0_5.length ≤ c0_5) (h : laws_szEl.f k a0_0 a0_1 a0_2 l0_3 a0_4 l0_5 a1 = some r),
  Calls Tryz.prog 5 #[.agg #[.int .i64 a0_0, .int .i64 a0_1, .string a0_2, .slice A0_3 l0_3.length c0_3, .string a0_4, .slice A0_5 l0_5.length c0_5], .int .i64 a1] w fun e w' => e = .returned (.int .i64 r) ∧ Below w.heap.size w w') := by
 intro k
 induction k using Nat.strongRecOn with
 | _ k ih => exact ⟨laws_szElS.calls_ k (fun m hm => (ih m hm).2), laws_szEl.calls_ k (fun m hm => (ih m hm).1)⟩
theorem laws_szElS.calls (k : Nat) (A0 : Option Addr) (c0 : Nat) (l0 : List (S25)) (a1 : Int) (r : Int) (w : World) (hr0 : Kd.C k25 w A0 l0.length l0) (hc0 : l0.length ≤ c0) (h : laws_szElS.f k l0 a1 = some r) :
  Calls Tryz.prog 10 #[.slice A0 l0.length c0, .int .i64 a1] w fun e w' => e = .returned (.int .i64 r) ∧ Below w.heap.size w w' := (laws_szElS_laws_szEl.calls_all k).1 A0 c0 l0 a1 r w hr0 hc0 h
theorem laws_szEl.calls (k : Nat) (a0_0 : Int) (a0_1 : Int) (a0_2 : ByteArray) (A0_3 : Option Addr) (c0_3 : Nat) (l0_3 : List (S58)) (a0_4 : ByteArray) (A0_5 : Option Addr) (c0_5 : Nat) (l0_5 : List (S25)) (a1 : Int) (r : Int) (w : World) (hr0_3 : Kd.C k58 w A0_3 l0_3.length l0_3) (hc0_3 : l0_3.length ≤ c0_3) (hr0_5 : Kd.C k25 w A0_5 l0_5.length l0_5) (hc0_5 : l0_5.length ≤ c0_5) (h : laws_szEl.f k a0_0 a0_1 a0_2 l0_3 a0_4 l0_5 a1 = some r) :
  Calls Tryz.prog 5 #[.agg #[.int .i64 a0_0, .int .i64 a0_1, .string a0_2, .slice A0_3 l0_3.length c0_3, .string a0_4, .slice A0_5 l0_5.length c0_5], .int .i64 a1] w fun e w' => e = .returned (.int .i64 r) ∧ Below w.heap.size w w' := (laws_szElS_laws_szEl.calls_all k).2 a0_0 a0_1 a0_2 A0_3 c0_3 l0_3 a0_4 A0_5 c0_5 l0_5 a1 r w hr0_3 hc0_3 hr0_5 hc0_5 h

/-! ### spec_l1Max: function 41 -/
def spec_l1Max.f (a0 : Int) (a1 : Int) : Option (Int) := if a0 > a1 then (some a0) else (some a1)
theorem spec_l1Max.calls (a0 : Int) (a1 : Int) (r : Int) (w : World) (h : spec_l1Max.f a0 a1 = some r) :
  Calls Tryz.prog 41 #[.int .i64 a0, .int .i64 a1] w fun e w' => e = .returned (.int .i64 r) ∧ Drawn0 w w' := by
 have H : (if a0 > a1 then (some a0) else (some a1)) = some r := h
 clear h
 by_cases c3 : a0 > a1
 ·rw [if_pos c3] at H
  have c3b0 : decide (a1 < a0) = true := decide_eq_true c3
  clear c3
  obtain rfl := Option.some.inj H
  go_enter Tryz.func41, Tryz.ntmps41
  go_wp2
  go_ret
  exact ⟨ab6, by repeat (first | exact Drawn0.refl _ | apply Drawn0.step)⟩
 ·rw [if_neg c3] at H
  have c3b0 : decide (a1 < a0) = false := decide_eq_false c3
  clear c3
  obtain rfl := Option.some.inj H
  go_enter Tryz.func41, Tryz.ntmps41
  go_wp2
  go_ret
  exact ⟨ab6, by repeat (first | exact Drawn0.refl _ | apply Drawn0.step)⟩

/-! ### spec_ElDeep: function 28 -/
mutual
def spec_ElDeep.l0 : Nat → Int → Int → Int → Int → ByteArray → List (S62) → ByteArray → List (S31) → Option (Int)
 | 0, _, _, _, _, _, _, _, _ => none
 | k + 1, x3, x4, x120000, x120001, x120002, x120003, x120004, x120005 => if x4 < (x120005.length : Int) then (if 0 ≤ x4 then ((spec_ElDeep.f k ((rd_T31 x120005 x4).f0) ((rd_T31 x120005 x4).f1) ((rd_T31 x120005 x4).f2) ((rd_T31 x120005 x4).f3) ((rd_T31 x120005 x4).f4) ((rd_T31 x120005 x4).f5)).bind fun t121 => ((spec_l1Max.f x3 t121).bind fun t122 => (spec_ElDeep.l0 k t122 (wrap64 (x4 + 1)) x120000 x120001 x120002 x120003 x120004 x120005))) else (none)) else (some (wrap64 (x3 + 1)))
def spec_ElDeep.f : Nat → Int → Int → ByteArray → List (S62) → ByteArray → List (S31) → Option (Int)
 | 0, _, _, _, _, _, _ => none
 | k + 1, a0_0, a0_1, a0_2, l0_3, a0_4, l0_5 => spec_ElDeep.l0 k 0 0 a0_0 a0_1 a0_2 l0_3 a0_4 l0_5
end
theorem spec_ElDeep.mono_l : ∀ k, (∀ y0 y1 y2 y3 y4 y5, LeO (spec_ElDeep.f k y0 y1 y2 y3 y4 y5) (spec_ElDeep.f (k + 1) y0 y1 y2 y3 y4 y5)) ∧ (∀ y0 y1 y2 y3 y4 y5 y6 y7, LeO (spec_ElDeep.l0 k y0 y1 y2 y3 y4 y5 y6 y7) (spec_ElDeep.l0 (k + 1) y0 y1 y2 y3 y4 y5 y6 y7))
 | 0 => ⟨fun _ _ _ _ _ _ r h => by simp [spec_ElDeep.f] at h, fun _ _ _ _ _ _ _ _ r h => by simp [spec_ElDeep.l0] at h⟩
 | k + 1 => by
  obtain ⟨ih0, ih1⟩ := spec_ElDeep.mono_l k
  refine ⟨?_, ?_⟩
  ·intro y0 y1 y2 y3 y4 y5
   unfold spec_ElDeep.f
   repeat' with_reducible first | exact ih0 _ _ _ _ _ _ | exact ih1 _ _ _ _ _ _ _ _ | exact LeO.refl _ | exact LeO.none _ | refine LeO.ite ?_ ?_ | refine LeO.bind ?_ fun _ => ?_
  ·intro y0 y1 y2 y3 y4 y5 y6 y7
   unfold spec_ElDeep.l0
   repeat' with_reducible first | exact ih0 _ _ _ _ _ _ | exact ih1 _ _ _ _ _ _ _ _ | exact LeO.refl _ | exact LeO.none _ | refine LeO.ite ?_ ?_ | refine LeO.bind ?_ fun _ => ?_
theorem spec_ElDeep.mono : ∀ a0 a1 a2 a3 a4 a5 k, LeO (spec_ElDeep.f k a0 a1 a2 a3 a4 a5) (spec_ElDeep.f (k + 1) a0 a1 a2 a3 a4 a5) := by
 intro a0 a1 a2 a3 a4 a5 k
 obtain ⟨ih0, ih1⟩ := spec_ElDeep.mono_l k
 exact ih0 a0 a1 a2 a3 a4 a5
theorem spec_ElDeep.calls (k : Nat) : ∀ (a0_0 : Int) (a0_1 : Int) (a0_2 : ByteArray) (A0_3 : Option Addr) (c0_3 : Nat) (l0_3 : List (S62)) (a0_4 : ByteArray) (A0_5 : Option Addr) (c0_5 : Nat) (l0_5 : List (S31)) (r : Int) (w : World) (hr0_3 : Kd.C k62 w A0_3 l0_3.length l0_3) (hc0_3 : l0_3.length ≤ c0_3) (hr0_5 : Kd.C k31 w A0_5 l0_5.length l0_5) (hc0_5 : l0_5.length ≤ c0_5) (h : spec_ElDeep.f k a0_0 a0_1 a0_2 l0_3 a0_4 l0_5 = some r),
  Calls Tryz.prog 28 #[.agg #[.int .i64 a0_0, .int .i64 a0_1, .string a0_2, .slice A0_3 l0_3.length c0_3, .string a0_4, .slice A0_5 l0_5.length c0_5]] w fun e w' => e = .returned (.int .i64 r) ∧ Below w.heap.size w w' := by
 induction k using Nat.strongRecOn with
 | _ k ih =>
 intro a0_0 a0_1 a0_2 A0_3 c0_3 l0_3 a0_4 A0_5 c0_5 l0_5 r w hr0_3 hc0_3 hr0_5 hc0_5 h
 cases k with
 | zero => exact absurd h (by simp [spec_ElDeep.f])
 | succ k =>
 simp only [spec_ElDeep.f] at h
 have hu31 := Tryz.underlying31
 have HR0_3 := am hr0_3
 have HC0_3 := am hc0_3
 clear hr0_3 hc0_3
 have HR0_5 := am hr0_5
 have HC0_5 := am hc0_5
 clear hr0_5 hc0_5
 have HB := am (Below.refl w.heap.size w)
 have H : (spec_ElDeep.l0 k 0 0 a0_0 a0_1 a0_2 l0_3 a0_4 l0_5) = some r := h
 clear h
 have H' := am H
 clear H
 go_enter Tryz.func28, Tryz.ntmps28
 go_wp2_with (first | ((with_reducible refine gd_ 1 ?_); refine bx_ 1 (cs := #[.int .i64 a0_0, .int .i64 a0_1, .string a0_2, .slice A0_3 l0_3.length c0_3, .string a0_4, .slice A0_5 l0_5.length c0_5]) 31 ?_; intro gb119 hg w2 hbox hb; have BK119 := am hbox; have GW119 := ge_ (w := w) hg; have GE119 := ge_ (w := w) hg; replace HB := am (below_step ab1 hb); clear hb hbox hg))
 go_loopg [3, 4] k (fun kq v3 v4 w' => ∃ (x3_1 : Int) (x4_1 : Int), v3 = .int .i64 x3_1 ∧ v4 = .int .i64 x4_1 ∧ Aside0 (spec_ElDeep.l0 kq x3_1 x4_1 a0_0 a0_1 a0_2 l0_3 a0_4 l0_5 = some r) ∧ Aside0 (kq ≤ k) ∧ Aside0 (w'.heap[gb119]? = some (.cells #[.int .i64 a0_0, .int .i64 a0_1, .string a0_2, (.slice A0_3 l0_3.length c0_3), .string a0_4, (.slice A0_5 l0_5.length c0_5)] 31 (0, 0))) ∧ Aside0 (Below w.heap.size w w'))
 case atStart => exact ⟨(0), (0), ab6, ab6, H', ⟨Nat.le_refl _⟩, ⟨ab3 BK119⟩, ⟨ab2 GE119⟩⟩
 case round =>
  clear H'
  (try clear c2); (try clear p2)
  obtain ⟨x3_1, x4_1, rfl, rfl, HA, HK1, BK119, HB⟩ := hrel
  cases gk with
  | zero => exact absurd HA.out (by simp [spec_ElDeep.l0])
  | succ k1 =>
   have H := HA.out
   clear HA
   simp only [spec_ElDeep.l0] at H
   replace H := ir_ H; rcases H with ⟨c3b0, H⟩ | ⟨c3b0, H⟩
   ·replace H := iq_ H; obtain ⟨c4b0, H⟩ := H
    replace H := bi_ H; obtain ⟨t121, A5, H⟩ := H
    replace H := bi_ H; obtain ⟨t122, A6, H⟩ := H
    have H' := am H
    clear H
    obtain ⟨⟨_, _, _, _, _, _⟩, _, _, _, _, _, _⟩ := Op.cells6 BK119.out
    have p120 : 0 ≤ (x4_1 : Int) := of_decide_eq_true ab4
    have q120 : x4_1 < (l0_5.length : Int) := of_decide_eq_true ab4
    obtain ⟨ad120, A120_3, c120_3, A120_5, c120_5, e120, hx120_0, hx120_1, hx120_2, hx120_3, hx120_4, hx120_5, hl120_3, hi120_3, hl120_5, hi120_5⟩ := at_T31 HR0_5.out x4_1 p120 q120
    cases e120
    replace hx120_0 := pc_ HB hx120_0
    replace hx120_1 := pc_ HB hx120_1
    replace hx120_2 := pc_ HB hx120_2
    replace hx120_3 := pc_ HB hx120_3
    replace hx120_4 := pc_ HB hx120_4
    replace hx120_5 := pc_ HB hx120_5
    have HR120_3 := am hi120_3
    have HC120_3 := am hl120_3
    clear hi120_3 hl120_3
    have HR120_5 := am hi120_5
    have HC120_5 := am hl120_5
    clear hi120_5 hl120_5
    replace p120 := eq_true p120
    replace q120 := eq_true q120
    go_wp2_with (first | ((with_reducible refine gate_callee (f := 28) rfl ?_); refine goesL_ (some 18) rfl rfl Tryz.func28 (by kernel_rfl) rfl #[.agg #[.int .i64 ((rd_T31 l0_5 x4_1).f0), .int .i64 ((rd_T31 l0_5 x4_1).f1), .string ((rd_T31 l0_5 x4_1).f2), .slice A120_3 ((rd_T31 l0_5 x4_1).f3).length c120_3, .string ((rd_T31 l0_5 x4_1).f4), .slice A120_5 ((rd_T31 l0_5 x4_1).f5).length c120_5]] rfl ab5 ?_; (with_reducible refine (ih k1 (by have := HK1.out; omega) ((rd_T31 l0_5 x4_1).f0) ((rd_T31 l0_5 x4_1).f1) ((rd_T31 l0_5 x4_1).f2) _ _ ((rd_T31 l0_5 x4_1).f3) ((rd_T31 l0_5 x4_1).f4) _ _ ((rd_T31 l0_5 x4_1).f5) t121 _ ?side1 ?side2 ?side3 ?side4 A5.out).mono ?_); (case side1 => repeat (first | exact (Kd.C_below HR120_3.out HB.out) | (with_reducible refine Kd.C_alloc ?_ _) | (with_reducible refine Kd.C_drewN ?_ _) | (with_reducible refine Kd.C_drew ?_))); (case side2 => exact HC120_3.out); (case side3 => repeat (first | exact (Kd.C_below HR120_5.out HB.out) | (with_reducible refine Kd.C_alloc ?_ _) | (with_reducible refine Kd.C_drewN ?_ _) | (with_reducible refine Kd.C_drew ?_))); (case side4 => exact HC120_5.out); rintro e w8 ⟨rfl, hb⟩; refine ⟨_, rfl, ?_⟩; replace BK119 := bl_ BK119 hb; replace HB := am (below_step (ab2 GE119) hb); (try clear hb); (try clear hb2); (try clear hk); (try clear hi)) | ((with_reducible refine gf_ 41 ?_); refine gc_ Tryz.func41 (spec_l1Max.calls x3_1 t121 t122 _ A6.out) ?_; rintro w' ⟨nd, rfl⟩))
    go_roundg k1
    case measure => have := HK1.out; omega
    case rel => exact ⟨(t122), (wrap64 (x4_1 + 1)), ab6, ab6, H', ⟨by have := HK1.out; omega⟩, ⟨ab3 BK119⟩, ⟨ab2 GE119⟩⟩
   ·obtain rfl := Option.some.inj H
    obtain ⟨⟨_, _, _, _, _, _⟩, _, _, _, _, _, _⟩ := Op.cells6 BK119.out
    go_wp2
    go_ret
    exact ⟨ab7, ab2 GE119⟩

/-! ### spec_l1In: function 42 -/
def spec_l1In.f (a0 : Int) (a1 : Int) (a2 : Int) : Option (Bool) := if a0 ≥ a1 then (some (decide (a0 ≤ a2))) else (some false)
theorem spec_l1In.calls (a0 : Int) (a1 : Int) (a2 : Int) (r : Bool) (w : World) (h : spec_l1In.f a0 a1 a2 = some r) :
  Calls Tryz.prog 42 #[.int .i64 a0, .int .i64 a1, .int .i64 a2] w fun e w' => e = .returned (.bool r) ∧ Drawn0 w w' := by
 have H : (if a0 ≥ a1 then (some (decide (a0 ≤ a2))) else (some false)) = some r := h
 clear h
 by_cases c4 : a0 ≥ a1
 ·rw [if_pos c4] at H
  have c4b0 : decide (a1 ≤ a0) = true := decide_eq_true c4
  clear c4
  obtain rfl := Option.some.inj H
  go_enter Tryz.func42, Tryz.ntmps42
  go_wp2
  go_ret
  exact ⟨ab6, by repeat (first | exact Drawn0.refl _ | apply Drawn0.step)⟩
 ·rw [if_neg c4] at H
  have c4b0 : decide (a1 ≤ a0) = false := decide_eq_false c4
  clear c4
  obtain rfl := Option.some.inj H
  go_enter Tryz.func42, Tryz.ntmps42
  go_wp2
  go_ret
  exact ⟨ab6, by repeat (first | exact Drawn0.refl _ | apply Drawn0.step)⟩

/-! ### spec_l1Many: function 92 -/
def spec_l1Many.f (a0 : Int) : Option (Int) := if a0 < 128 then (some 1) else ((spec_l1In.f a0 194 223).bind fun t123 => (if t123 = true then (some 2) else ((spec_l1In.f a0 224 239).bind fun t124 => (if t124 = true then (some 3) else ((spec_l1In.f a0 240 244).bind fun t125 => (if t125 = true then (some 4) else (some 0)))))))
theorem spec_l1Many.calls (a0 : Int) (r : Int) (w : World) (h : spec_l1Many.f a0 = some r) :
  Calls Tryz.prog 92 #[.int .i64 a0] w fun e w' => e = .returned (.int .i64 r) ∧ Drawn0 w w' := by
 have H : (if a0 < 128 then (some 1) else ((spec_l1In.f a0 194 223).bind fun t123 => (if t123 = true then (some 2) else ((spec_l1In.f a0 224 239).bind fun t124 => (if t124 = true then (some 3) else ((spec_l1In.f a0 240 244).bind fun t125 => (if t125 = true then (some 4) else (some 0)))))))) = some r := h
 clear h
 replace H := ir_ H; rcases H with ⟨c2b0, H⟩ | ⟨c2b0, H⟩
 ·obtain rfl := Option.some.inj H
  go_enter Tryz.func92, Tryz.ntmps92
  go_wp2
  go_ret
  exact ⟨ab6, by repeat (first | exact Drawn0.refl _ | apply Drawn0.step)⟩
 ·replace H := bi_ H; obtain ⟨t123, A3, H⟩ := H
  replace H := ib_ H; rcases H with ⟨rfl, H⟩ | ⟨rfl, H⟩
  ·obtain rfl := Option.some.inj H
   go_enter Tryz.func92, Tryz.ntmps92
   go_wp2_with (first | ((with_reducible refine gf_ 42 ?_); refine gc_ Tryz.func42 (spec_l1In.calls a0 194 223 true _ A3.out) ?_; rintro w' ⟨nd, rfl⟩))
   go_ret
   exact ⟨ab6, by repeat (first | exact Drawn0.refl _ | apply Drawn0.step)⟩
  ·replace H := bi_ H; obtain ⟨t124, A5, H⟩ := H
   replace H := ib_ H; rcases H with ⟨rfl, H⟩ | ⟨rfl, H⟩
   ·obtain rfl := Option.some.inj H
    go_enter Tryz.func92, Tryz.ntmps92
    go_wp2_with (first | ((with_reducible refine gf_ 42 ?_); refine gc_ Tryz.func42 (spec_l1In.calls a0 194 223 false _ A3.out) ?_; rintro w' ⟨nd, rfl⟩) | ((with_reducible refine gf_ 42 ?_); refine gc_ Tryz.func42 (spec_l1In.calls a0 224 239 true _ A5.out) ?_; rintro w' ⟨nd, rfl⟩))
    go_ret
    exact ⟨ab6, by repeat (first | exact Drawn0.refl _ | apply Drawn0.step)⟩
   ·replace H := bi_ H; obtain ⟨t125, A7, H⟩ := H
    replace H := ib_ H; rcases H with ⟨rfl, H⟩ | ⟨rfl, H⟩
    ·obtain rfl := Option.some.inj H
     go_enter Tryz.func92, Tryz.ntmps92
     go_wp2_with (first | ((with_reducible refine gf_ 42 ?_); refine gc_ Tryz.func42 (spec_l1In.calls a0 194 223 false _ A3.out) ?_; rintro w' ⟨nd, rfl⟩) | ((with_reducible refine gf_ 42 ?_); refine gc_ Tryz.func42 (spec_l1In.calls a0 224 239 false _ A5.out) ?_; rintro w' ⟨nd, rfl⟩) | ((with_reducible refine gf_ 42 ?_); refine gc_ Tryz.func42 (spec_l1In.calls a0 240 244 true _ A7.out) ?_; rintro w' ⟨nd, rfl⟩))
     go_ret
     exact ⟨ab6, by repeat (first | exact Drawn0.refl _ | apply Drawn0.step)⟩
    ·obtain rfl := Option.some.inj H
     go_enter Tryz.func92, Tryz.ntmps92
     go_wp2_with (first | ((with_reducible refine gf_ 42 ?_); refine gc_ Tryz.func42 (spec_l1In.calls a0 194 223 false _ A3.out) ?_; rintro w' ⟨nd, rfl⟩) | ((with_reducible refine gf_ 42 ?_); refine gc_ Tryz.func42 (spec_l1In.calls a0 224 239 false _ A5.out) ?_; rintro w' ⟨nd, rfl⟩) | ((with_reducible refine gf_ 42 ?_); refine gc_ Tryz.func42 (spec_l1In.calls a0 240 244 false _ A7.out) ?_; rintro w' ⟨nd, rfl⟩))
     go_ret
     exact ⟨ab6, by repeat (first | exact Drawn0.refl _ | apply Drawn0.step)⟩

/-! ### spec_l1Second: function 93 -/
def spec_l1Second.f (a0 : Int) (a1 : Int) : Option (Bool) := if a0 = 224 then ((spec_l1In.f a1 160 191).bind fun t126 => (some t126)) else (if a0 = 237 then ((spec_l1In.f a1 128 159).bind fun t127 => (some t127)) else (if a0 = 240 then ((spec_l1In.f a1 144 191).bind fun t128 => (some t128)) else (if a0 = 244 then ((spec_l1In.f a1 128 143).bind fun t129 => (some t129)) else ((spec_l1In.f a1 128 191).bind fun t130 => (some t130)))))
theorem spec_l1Second.calls (a0 : Int) (a1 : Int) (r : Bool) (w : World) (h : spec_l1Second.f a0 a1 = some r) :
  Calls Tryz.prog 93 #[.int .i64 a0, .int .i64 a1] w fun e w' => e = .returned (.bool r) ∧ Drawn0 w w' := by
 have H : (if a0 = 224 then ((spec_l1In.f a1 160 191).bind fun t126 => (some t126)) else (if a0 = 237 then ((spec_l1In.f a1 128 159).bind fun t127 => (some t127)) else (if a0 = 240 then ((spec_l1In.f a1 144 191).bind fun t128 => (some t128)) else (if a0 = 244 then ((spec_l1In.f a1 128 143).bind fun t129 => (some t129)) else ((spec_l1In.f a1 128 191).bind fun t130 => (some t130)))))) = some r := h
 clear h
 replace H := ie_ H; rcases H with ⟨c3b0, c3b1, H⟩ | ⟨c3, c3b0, c3b1, H⟩
 ·replace H := bi_ H; obtain ⟨t126, A4, H⟩ := H
  obtain rfl := Option.some.inj H
  go_enter Tryz.func93, Tryz.ntmps93
  go_wp2_with (first | ((with_reducible refine gf_ 42 ?_); refine gc_ Tryz.func42 (spec_l1In.calls a1 160 191 t126 _ A4.out) ?_; rintro w' ⟨nd, rfl⟩))
  go_ret
  exact ⟨ab6, by repeat (first | exact Drawn0.refl _ | apply Drawn0.step)⟩
 ·replace H := ie_ H; rcases H with ⟨c5b0, c5b1, H⟩ | ⟨c5, c5b0, c5b1, H⟩
  ·replace H := bi_ H; obtain ⟨t127, A6, H⟩ := H
   obtain rfl := Option.some.inj H
   go_enter Tryz.func93, Tryz.ntmps93
   go_wp2_with (first | ((with_reducible refine gf_ 42 ?_); refine gc_ Tryz.func42 (spec_l1In.calls a1 128 159 t127 _ A6.out) ?_; rintro w' ⟨nd, rfl⟩))
   go_ret
   exact ⟨ab6, by repeat (first | exact Drawn0.refl _ | apply Drawn0.step)⟩
  ·replace H := ie_ H; rcases H with ⟨c7b0, c7b1, H⟩ | ⟨c7, c7b0, c7b1, H⟩
   ·replace H := bi_ H; obtain ⟨t128, A8, H⟩ := H
    obtain rfl := Option.some.inj H
    go_enter Tryz.func93, Tryz.ntmps93
    go_wp2_with (first | ((with_reducible refine gf_ 42 ?_); refine gc_ Tryz.func42 (spec_l1In.calls a1 144 191 t128 _ A8.out) ?_; rintro w' ⟨nd, rfl⟩))
    go_ret
    exact ⟨ab6, by repeat (first | exact Drawn0.refl _ | apply Drawn0.step)⟩
   ·replace H := ie_ H; rcases H with ⟨c9b0, c9b1, H⟩ | ⟨c9, c9b0, c9b1, H⟩
    ·replace H := bi_ H; obtain ⟨t129, A10, H⟩ := H
     obtain rfl := Option.some.inj H
     go_enter Tryz.func93, Tryz.ntmps93
     go_wp2_with (first | ((with_reducible refine gf_ 42 ?_); refine gc_ Tryz.func42 (spec_l1In.calls a1 128 143 t129 _ A10.out) ?_; rintro w' ⟨nd, rfl⟩))
     go_ret
     exact ⟨ab6, by repeat (first | exact Drawn0.refl _ | apply Drawn0.step)⟩
    ·replace H := bi_ H; obtain ⟨t130, A11, H⟩ := H
     obtain rfl := Option.some.inj H
     go_enter Tryz.func93, Tryz.ntmps93
     go_wp2_with (first | ((with_reducible refine gf_ 42 ?_); refine gc_ Tryz.func42 (spec_l1In.calls a1 128 191 t130 _ A11.out) ?_; rintro w' ⟨nd, rfl⟩))
     go_ret
     exact ⟨ab6, by repeat (first | exact Drawn0.refl _ | apply Drawn0.step)⟩

end Go.Proofs.YthpdpnpojgegiaaGreatDoor.P
