-- WRITTEN BY hprint.py
import Derived.Test.YthpdpnpojgegiaaGreatDoorPw0
import Derived.Test.YthpdpnpojgegiaaGreatDoorPw1
import Derived.Test.YthpdpnpojgegiaaGreatDoorPw8
import Derived.Test.YthpdpnpojgegiaaGreatDoorPw10
namespace Go.Proofs.YthpdpnpojgegiaaGreatDoor.P
open Go.RowKit Go.Proofs.YthpdpnpojgegiaaGreatDoorW.PrintWords Go.Proofs.YthpdpnpojgegiaaGreatDoorW.PrintLast Go.Proofs.YthpdpnpojgegiaaGreatDoorW.PrintMore
attribute [local go_sem] max2_int min2_int max_two min_two max_three min_three max_four min_four
set_option linter.unusedVariables false
set_option linter.unusedSimpArgs false
set_option maxHeartbeats 8000000
set_option maxRecDepth 100000

/-! ### spec_l1Bit: function 37 -/
def spec_l1Bit.f (a0 : Bool) : Option (Int) := if a0 = true then (some 1) else (some 0)
theorem spec_l1Bit.calls (a0 : Bool) (r : Int) (w : World) (h : spec_l1Bit.f a0 = some r) :
  Calls Tryz.prog 37 #[.bool a0] w fun e w' => e = .returned (.int .i64 r) ∧ Drawn0 w w' := by
 have H : (if a0 = true then (some 1) else (some 0)) = some r := h
 clear h
 replace H := ib_ H; rcases H with ⟨rfl, H⟩ | ⟨rfl, H⟩
 ·obtain rfl := Option.some.inj H
  go_enter Tryz.func37, Tryz.ntmps37
  go_wp2
  go_ret
  exact ⟨ab6, by repeat (first | exact Drawn0.refl _ | apply Drawn0.step)⟩
 ·obtain rfl := Option.some.inj H
  go_enter Tryz.func37, Tryz.ntmps37
  go_wp2
  go_ret
  exact ⟨ab6, by repeat (first | exact Drawn0.refl _ | apply Drawn0.step)⟩

/-! ### spec_ElSize: function 38 -/
mutual
def spec_ElSize.l0 : Nat → Int → Int → Int → Int → ByteArray → List (S62) → ByteArray → List (S31) → Option (Int)
 | 0, _, _, _, _, _, _, _, _ => none
 | k + 1, x3, x4, x460000, x460001, x460002, x460003, x460004, x460005 => if x4 < (x460005.length : Int) then (if 0 ≤ x4 then ((spec_ElSize.f k ((rd_T31 x460005 x4).f0) ((rd_T31 x460005 x4).f1) ((rd_T31 x460005 x4).f2) ((rd_T31 x460005 x4).f3) ((rd_T31 x460005 x4).f4) ((rd_T31 x460005 x4).f5)).bind fun t461 => (spec_ElSize.l0 k (wrap64 (x3 + t461)) (wrap64 (x4 + 1)) x460000 x460001 x460002 x460003 x460004 x460005)) else (none)) else (some x3)
def spec_ElSize.f : Nat → Int → Int → ByteArray → List (S62) → ByteArray → List (S31) → Option (Int)
 | 0, _, _, _, _, _, _ => none
 | k + 1, a0_0, a0_1, a0_2, l0_3, a0_4, l0_5 => spec_ElSize.l0 k 1 0 a0_0 a0_1 a0_2 l0_3 a0_4 l0_5
end
theorem spec_ElSize.mono_l : ∀ k, (∀ y0 y1 y2 y3 y4 y5, LeO (spec_ElSize.f k y0 y1 y2 y3 y4 y5) (spec_ElSize.f (k + 1) y0 y1 y2 y3 y4 y5)) ∧ (∀ y0 y1 y2 y3 y4 y5 y6 y7, LeO (spec_ElSize.l0 k y0 y1 y2 y3 y4 y5 y6 y7) (spec_ElSize.l0 (k + 1) y0 y1 y2 y3 y4 y5 y6 y7))
 | 0 => ⟨fun _ _ _ _ _ _ r h => by simp [spec_ElSize.f] at h, fun _ _ _ _ _ _ _ _ r h => by simp [spec_ElSize.l0] at h⟩
 | k + 1 => by
  obtain ⟨ih0, ih1⟩ := spec_ElSize.mono_l k
  refine ⟨?_, ?_⟩
  ·intro y0 y1 y2 y3 y4 y5
   unfold spec_ElSize.f
   repeat' with_reducible first | exact ih0 _ _ _ _ _ _ | exact ih1 _ _ _ _ _ _ _ _ | exact LeO.refl _ | exact LeO.none _ | refine LeO.ite ?_ ?_ | refine LeO.bind ?_ fun _ => ?_
  ·intro y0 y1 y2 y3 y4 y5 y6 y7
   unfold spec_ElSize.l0
   repeat' with_reducible first | exact ih0 _ _ _ _ _ _ | exact ih1 _ _ _ _ _ _ _ _ | exact LeO.refl _ | exact LeO.none _ | refine LeO.ite ?_ ?_ | refine LeO.bind ?_ fun _ => ?_
theorem spec_ElSize.mono : ∀ a0 a1 a2 a3 a4 a5 k, LeO (spec_ElSize.f k a0 a1 a2 a3 a4 a5) (spec_ElSize.f (k + 1) a0 a1 a2 a3 a4 a5) := by
 intro a0 a1 a2 a3 a4 a5 k
 obtain ⟨ih0, ih1⟩ := spec_ElSize.mono_l k
 exact ih0 a0 a1 a2 a3 a4 a5
theorem spec_ElSize.calls (k : Nat) : ∀ (a0_0 : Int) (a0_1 : Int) (a0_2 : ByteArray) (A0_3 : Option Addr) (c0_3 : Nat) (l0_3 : List (S62)) (a0_4 : ByteArray) (A0_5 : Option Addr) (c0_5 : Nat) (l0_5 : List (S31)) (r : Int) (w : World) (hr0_3 : Kd.C k62 w A0_3 l0_3.length l0_3) (hc0_3 : l0_3.length ≤ c0_3) (hr0_5 : Kd.C k31 w A0_5 l0_5.length l0_5) (hc0_5 : l0_5.length ≤ c0_5) (h : spec_ElSize.f k a0_0 a0_1 a0_2 l0_3 a0_4 l0_5 = some r),
  Calls Tryz.prog 38 #[.agg #[.int .i64 a0_0, .int .i64 a0_1, .string a0_2, .slice A0_3 l0_3.length c0_3, .string a0_4, .slice A0_5 l0_5.length c0_5]] w fun e w' => e = .returned (.int .i64 r) ∧ Below w.heap.size w w' := by
 induction k using Nat.strongRecOn with
 | _ k ih =>
 intro a0_0 a0_1 a0_2 A0_3 c0_3 l0_3 a0_4 A0_5 c0_5 l0_5 r w hr0_3 hc0_3 hr0_5 hc0_5 h
 cases k with
 | zero => exact absurd h (by simp [spec_ElSize.f])
 | succ k =>
 simp only [spec_ElSize.f] at h
 have hu31 := Tryz.underlying31
 have HR0_3 := am hr0_3
 have HC0_3 := am hc0_3
 clear hr0_3 hc0_3
 have HR0_5 := am hr0_5
 have HC0_5 := am hc0_5
 clear hr0_5 hc0_5
 have HB := am (Below.refl w.heap.size w)
 have H : (spec_ElSize.l0 k 1 0 a0_0 a0_1 a0_2 l0_3 a0_4 l0_5) = some r := h
 clear h
 have H' := am H
 clear H
 go_enter Tryz.func38, Tryz.ntmps38
 go_wp2_with (first | ((with_reducible refine gd_ 1 ?_); refine bx_ 1 (cs := #[.int .i64 a0_0, .int .i64 a0_1, .string a0_2, .slice A0_3 l0_3.length c0_3, .string a0_4, .slice A0_5 l0_5.length c0_5]) 31 ?_; intro gb459 hg w2 hbox hb; have BK459 := am hbox; have GW459 := ge_ (w := w) hg; have GE459 := ge_ (w := w) hg; replace HB := am (below_step ab1 hb); clear hb hbox hg))
 go_loopg [3, 4] k (fun kq v3 v4 w' => ∃ (x3_1 : Int) (x4_1 : Int), v3 = .int .i64 x3_1 ∧ v4 = .int .i64 x4_1 ∧ Aside0 (spec_ElSize.l0 kq x3_1 x4_1 a0_0 a0_1 a0_2 l0_3 a0_4 l0_5 = some r) ∧ Aside0 (kq ≤ k) ∧ Aside0 (w'.heap[gb459]? = some (.cells #[.int .i64 a0_0, .int .i64 a0_1, .string a0_2, (.slice A0_3 l0_3.length c0_3), .string a0_4, (.slice A0_5 l0_5.length c0_5)] 31 (0, 0))) ∧ Aside0 (Below w.heap.size w w'))
 case atStart => exact ⟨(1), (0), ab6, ab6, H', ⟨Nat.le_refl _⟩, ⟨ab3 BK459⟩, ⟨ab2 GE459⟩⟩
 case round =>
  clear H'
  try clear p2
  obtain ⟨x3_1, x4_1, rfl, rfl, HA, HK1, BK459, HB⟩ := hrel
  cases gk with
  | zero => exact absurd HA.out (by simp [spec_ElSize.l0])
  | succ k1 =>
   have H := HA.out
   clear HA
   simp only [spec_ElSize.l0] at H
   replace H := ir_ H; rcases H with ⟨c3b0, H⟩ | ⟨c3b0, H⟩
   ·replace H := iq_ H; obtain ⟨c4b0, H⟩ := H
    replace H := bi_ H; obtain ⟨t461, A5, H⟩ := H
    have H' := am H
    clear H
    obtain ⟨⟨_, _, _, _, _, _⟩, _, _, _, _, _, _⟩ := Op.cells6 BK459.out
    have p460 : 0 ≤ (x4_1 : Int) := of_decide_eq_true ab4
    have q460 : x4_1 < (l0_5.length : Int) := of_decide_eq_true ab4
    obtain ⟨ad460, A460_3, c460_3, A460_5, c460_5, e460, hx460_0, hx460_1, hx460_2, hx460_3, hx460_4, hx460_5, hl460_3, hi460_3, hl460_5, hi460_5⟩ := at_T31 HR0_5.out x4_1 p460 q460
    cases e460
    replace hx460_0 := pc_ HB hx460_0
    replace hx460_1 := pc_ HB hx460_1
    replace hx460_2 := pc_ HB hx460_2
    replace hx460_3 := pc_ HB hx460_3
    replace hx460_4 := pc_ HB hx460_4
    replace hx460_5 := pc_ HB hx460_5
    have HR460_3 := am hi460_3
    have HC460_3 := am hl460_3
    clear hi460_3 hl460_3
    have HR460_5 := am hi460_5
    have HC460_5 := am hl460_5
    clear hi460_5 hl460_5
    replace p460 := eq_true p460
    replace q460 := eq_true q460
    go_wp2_with (first | ((with_reducible refine gate_callee (f := 38) rfl ?_); refine goesL_ (some 18) rfl rfl Tryz.func38 (by kernel_rfl) rfl #[.agg #[.int .i64 ((rd_T31 l0_5 x4_1).f0), .int .i64 ((rd_T31 l0_5 x4_1).f1), .string ((rd_T31 l0_5 x4_1).f2), .slice A460_3 ((rd_T31 l0_5 x4_1).f3).length c460_3, .string ((rd_T31 l0_5 x4_1).f4), .slice A460_5 ((rd_T31 l0_5 x4_1).f5).length c460_5]] rfl ab5 ?_; (with_reducible refine (ih k1 (by have := HK1.out; omega) ((rd_T31 l0_5 x4_1).f0) ((rd_T31 l0_5 x4_1).f1) ((rd_T31 l0_5 x4_1).f2) _ _ ((rd_T31 l0_5 x4_1).f3) ((rd_T31 l0_5 x4_1).f4) _ _ ((rd_T31 l0_5 x4_1).f5) t461 _ ?side1 ?side2 ?side3 ?side4 A5.out).mono ?_); (case side1 => repeat (first | exact (Kd.C_below HR460_3.out HB.out) | (with_reducible refine Kd.C_alloc ?_ _) | (with_reducible refine Kd.C_drewN ?_ _) | (with_reducible refine Kd.C_drew ?_))); (case side2 => exact HC460_3.out); (case side3 => repeat (first | exact (Kd.C_below HR460_5.out HB.out) | (with_reducible refine Kd.C_alloc ?_ _) | (with_reducible refine Kd.C_drewN ?_ _) | (with_reducible refine Kd.C_drew ?_))); (case side4 => exact HC460_5.out); rintro e w7 ⟨rfl, hb⟩; refine ⟨_, rfl, ?_⟩; replace BK459 := bl_ BK459 hb; replace HB := am (below_step (ab2 GE459) hb); (try clear hb); (try clear hb2); (try clear hk); (try clear hi)))
    go_roundg k1
    case measure => have := HK1.out; omega
    case rel => exact ⟨(wrap64 (x3_1 + t461)), (wrap64 (x4_1 + 1)), ab6, ab6, H', ⟨by have := HK1.out; omega⟩, ⟨ab3 BK459⟩, ⟨ab2 GE459⟩⟩
   ·obtain rfl := Option.some.inj H
    obtain ⟨⟨_, _, _, _, _, _⟩, _, _, _, _, _, _⟩ := Op.cells6 BK459.out
    go_wp2
    go_ret
    exact ⟨ab7, ab2 GE459⟩

/-! ### spec_DocOk: function 23 -/
mutual
def spec_DocOk.l0 : Nat → List (S31) → Int → Int → Int → Option (Bool)
 | 0, _, _, _, _ => none
 | k + 1, x0, x3, x4, x5 => if x5 < (x0.length : Int) then (if 0 ≤ x5 then ((spec_ElOk.f k ((rd_T31 x0 x5).f0) ((rd_T31 x0 x5).f1) ((rd_T31 x0 x5).f2) ((rd_T31 x0 x5).f3) ((rd_T31 x0 x5).f4) ((rd_T31 x0 x5).f5)).bind fun t463 => (if t463 = true then (spec_DocOk.j1 k x0 x3 x4 x5 (((rd_T31 x0 x5).f0) == 2)) else (spec_DocOk.j1 k x0 x3 x4 x5 true))) else (none)) else (if x3 = 1 then (some (decide (x4 ≤ 3000))) else (some false))
def spec_DocOk.j1 : Nat → List (S31) → Int → Int → Int → Bool → Option (Bool)
 | 0, _, _, _, _, _ => none
 | k + 1, x0, x3, x4, x5, x25 => if x25 = true then (some false) else (if 0 ≤ x5 then (if x5 < (x0.length : Int) then ((spec_l1Bit.f (((rd_T31 x0 x5).f0) == 1)).bind fun t466 => ((spec_ElSize.f k ((rd_T31 x0 x5).f0) ((rd_T31 x0 x5).f1) ((rd_T31 x0 x5).f2) ((rd_T31 x0 x5).f3) ((rd_T31 x0 x5).f4) ((rd_T31 x0 x5).f5)).bind fun t468 => (spec_DocOk.l0 k x0 (wrap64 (x3 + t466)) (wrap64 (x4 + t468)) (wrap64 (x5 + 1))))) else (none)) else (none))
end
def spec_DocOk.f (k : Nat) (l0 : List (S31)) : Option (Bool) := spec_DocOk.l0 k l0 0 0 0
theorem spec_DocOk.mono_l : ∀ k, (∀ y0 y1 y2 y3, LeO (spec_DocOk.l0 k y0 y1 y2 y3) (spec_DocOk.l0 (k + 1) y0 y1 y2 y3)) ∧ (∀ y0 y1 y2 y3 y4, LeO (spec_DocOk.j1 k y0 y1 y2 y3 y4) (spec_DocOk.j1 (k + 1) y0 y1 y2 y3 y4))
 | 0 => ⟨fun _ _ _ _ r h => by simp [spec_DocOk.l0] at h, fun _ _ _ _ _ r h => by simp [spec_DocOk.j1] at h⟩
 | k + 1 => by
  obtain ⟨ih0, ih1⟩ := spec_DocOk.mono_l k
  refine ⟨?_, ?_⟩
  ·intro y0 y1 y2 y3
   unfold spec_DocOk.l0
   repeat' with_reducible first | exact ih0 _ _ _ _ | exact ih1 _ _ _ _ _ | exact spec_ElOk.mono _ _ _ _ _ _ _ | exact spec_ElSize.mono _ _ _ _ _ _ _ | exact LeO.refl _ | exact LeO.none _ | refine LeO.ite ?_ ?_ | refine LeO.bind ?_ fun _ => ?_
  ·intro y0 y1 y2 y3 y4
   unfold spec_DocOk.j1
   repeat' with_reducible first | exact ih0 _ _ _ _ | exact ih1 _ _ _ _ _ | exact spec_ElOk.mono _ _ _ _ _ _ _ | exact spec_ElSize.mono _ _ _ _ _ _ _ | exact LeO.refl _ | exact LeO.none _ | refine LeO.ite ?_ ?_ | refine LeO.bind ?_ fun _ => ?_
theorem spec_DocOk.mono : ∀ a0 k, LeO (spec_DocOk.f k a0) (spec_DocOk.f (k + 1) a0) := by
 intro a0 k
 obtain ⟨ih0, ih1⟩ := spec_DocOk.mono_l k
 unfold spec_DocOk.f
 repeat' with_reducible first | exact ih0 _ _ _ _ | exact ih1 _ _ _ _ _ | exact spec_ElOk.mono _ _ _ _ _ _ _ | exact spec_ElSize.mono _ _ _ _ _ _ _ | exact LeO.refl _ | exact LeO.none _ | refine LeO.ite ?_ ?_ | refine LeO.bind ?_ fun _ => ?_
theorem spec_DocOk.calls (k : Nat) (A0 : Option Addr) (c0 : Nat) (l0 : List (S31)) (r : Bool) (w : World) (hr0 : Kd.C k31 w A0 l0.length l0) (hc0 : l0.length ≤ c0) (h : spec_DocOk.f k l0 = some r) :
  Calls Tryz.prog 23 #[.slice A0 l0.length c0] w fun e w' => e = .returned (.bool r) ∧ Below w.heap.size w w' := by
 have hu31 := Tryz.underlying31
 have HR0 := am hr0
 have HC0 := am hc0
 clear hr0 hc0
 have HB := am (Below.refl w.heap.size w)
 have H : (spec_DocOk.l0 k l0 0 0 0) = some r := h
 clear h
 have H' := am H
 clear H
 go_enter Tryz.func23, Tryz.ntmps23
 go_wp2
 go_loopg [3, 4, 5] k (fun kq v3 v4 v5 w' => ∃ (x3_1 : Int) (x4_1 : Int) (x5_1 : Int), v3 = .int .i64 x3_1 ∧ v4 = .int .i64 x4_1 ∧ v5 = .int .i64 x5_1 ∧ Aside0 (spec_DocOk.l0 kq l0 x3_1 x4_1 x5_1 = some r) ∧ Aside0 (kq ≤ k) ∧ Aside0 (Below w.heap.size w w'))
 case atStart => exact ⟨(0), (0), (0), ab6, ab6, ab6, H', ⟨Nat.le_refl _⟩, ⟨ab1⟩⟩
 case round =>
  clear H'
  obtain ⟨x3_1, x4_1, x5_1, rfl, rfl, rfl, HA, HK1, HB⟩ := hrel
  cases gk with
  | zero => exact absurd HA.out (by simp [spec_DocOk.l0])
  | succ k1 =>
   have H := HA.out
   clear HA
   simp only [spec_DocOk.l0] at H
   replace H := ir_ H; rcases H with ⟨c2b0, H⟩ | ⟨c2b0, H⟩
   ·have HC3 := am H
    clear H
    go_upto_region 5 with (fail)
    go_cut [25] (fun v25 wc => ∃ (kq : Nat) (x25_2 : Bool), v25 = .bool x25_2 ∧ Aside0 (spec_DocOk.j1 kq l0 x3_1 x4_1 x5_1 x25_2 = some r) ∧ Aside0 (kq ≤ k1) ∧ Aside0 (Below w.heap.size w wc))
    case first =>
     have H := HC3.out
     clear HC3
     replace H := iq_ H; obtain ⟨c4b0, H⟩ := H
     (first | rw [c4b0] | (simp only [i64_w, i32_w]; rw [c4b0]) | skip)
     (try (generalize hgzc4 : decide (0 ≤ x5_1) = bqc4 at *; subst c4b0; have c4b0 := hgzc4; clear hgzc4))
     replace H := bi_ H; obtain ⟨t463, A5, H⟩ := H
     replace H : (if t463 = true then (spec_DocOk.j1 k1 l0 x3_1 x4_1 x5_1 (((rd_T31 l0 x5_1).f0) == 2)) else (spec_DocOk.j1 k1 l0 x3_1 x4_1 x5_1 true)) = some r := by first | exact H | (rw [c4b0]; exact H)
     replace H := ib_ H; rcases H with ⟨rfl, H⟩ | ⟨rfl, H⟩
     ·have H' := am H
      clear H
      have p462 : 0 ≤ (x5_1 : Int) := of_decide_eq_true ab4
      have q462 : x5_1 < (l0.length : Int) := of_decide_eq_true ab4
      obtain ⟨ad462, A462_3, c462_3, A462_5, c462_5, e462, hx462_0, hx462_1, hx462_2, hx462_3, hx462_4, hx462_5, hl462_3, hi462_3, hl462_5, hi462_5⟩ := at_T31 HR0.out x5_1 p462 q462
      cases e462
      replace hx462_0 := pc_ HB hx462_0
      replace hx462_1 := pc_ HB hx462_1
      replace hx462_2 := pc_ HB hx462_2
      replace hx462_3 := pc_ HB hx462_3
      replace hx462_4 := pc_ HB hx462_4
      replace hx462_5 := pc_ HB hx462_5
      have HR462_3 := am hi462_3
      have HC462_3 := am hl462_3
      clear hi462_3 hl462_3
      have HR462_5 := am hi462_5
      have HC462_5 := am hl462_5
      clear hi462_5 hl462_5
      replace p462 := eq_true p462
      replace q462 := eq_true q462
      go_wp2_with (first | ((with_reducible refine gf_ 16 ?_); refine gc_ Tryz.func16 (spec_ElOk.calls k1 ((rd_T31 l0 x5_1).f0) ((rd_T31 l0 x5_1).f1) ((rd_T31 l0 x5_1).f2) _ _ ((rd_T31 l0 x5_1).f3) ((rd_T31 l0 x5_1).f4) _ _ ((rd_T31 l0 x5_1).f5) true _ (sc_ HR462_3) HC462_3.out (sc_ HR462_5) HC462_5.out A5.out) ?_; rintro w7 hb; replace HB := am (below_step ab1 hb); (try clear hb); (try clear hb2); (try clear hk); (try clear hi); have p464 : 0 ≤ (x5_1 : Int) := of_decide_eq_true ab4; have q464 : x5_1 < (l0.length : Int) := of_decide_eq_true ab4; obtain ⟨ad464, A464_3, c464_3, A464_5, c464_5, e464, hx464_0, hx464_1, hx464_2, hx464_3, hx464_4, hx464_5, hl464_3, hi464_3, hl464_5, hi464_5⟩ := at_T31 HR0.out x5_1 p464 q464; obtain rfl : ad462 = ad464 := (by injection e464); replace hx464_0 := pc_ HB hx464_0; replace hx464_1 := pc_ HB hx464_1; replace hx464_2 := pc_ HB hx464_2; replace hx464_3 := pc_ HB hx464_3; replace hx464_4 := pc_ HB hx464_4; replace hx464_5 := pc_ HB hx464_5; have HR464_3 := am hi464_3; have HC464_3 := am hl464_3; clear hi464_3 hl464_3; have HR464_5 := am hi464_5; have HC464_5 := am hl464_5; clear hi464_5 hl464_5; replace p464 := eq_true p464; replace q464 := eq_true q464))
      go_meet
      case rel => exact ⟨_, ((((rd_T31 l0 x5_1).f0) == 2)), ab6, (by first | exact H' | (have h_ := H'.out; rw [c4b0] at h_; exact ⟨h_⟩)), ⟨by have := HK1.out; first | omega | exact Nat.le_refl _⟩, ⟨ab1⟩⟩
     ·have H' := am H
      clear H
      have p462 : 0 ≤ (x5_1 : Int) := of_decide_eq_true ab4
      have q462 : x5_1 < (l0.length : Int) := of_decide_eq_true ab4
      obtain ⟨ad462, A462_3, c462_3, A462_5, c462_5, e462, hx462_0, hx462_1, hx462_2, hx462_3, hx462_4, hx462_5, hl462_3, hi462_3, hl462_5, hi462_5⟩ := at_T31 HR0.out x5_1 p462 q462
      cases e462
      replace hx462_0 := pc_ HB hx462_0
      replace hx462_1 := pc_ HB hx462_1
      replace hx462_2 := pc_ HB hx462_2
      replace hx462_3 := pc_ HB hx462_3
      replace hx462_4 := pc_ HB hx462_4
      replace hx462_5 := pc_ HB hx462_5
      have HR462_3 := am hi462_3
      have HC462_3 := am hl462_3
      clear hi462_3 hl462_3
      have HR462_5 := am hi462_5
      have HC462_5 := am hl462_5
      clear hi462_5 hl462_5
      replace p462 := eq_true p462
      replace q462 := eq_true q462
      go_wp2_with (first | ((with_reducible refine gf_ 16 ?_); refine gc_ Tryz.func16 (spec_ElOk.calls k1 ((rd_T31 l0 x5_1).f0) ((rd_T31 l0 x5_1).f1) ((rd_T31 l0 x5_1).f2) _ _ ((rd_T31 l0 x5_1).f3) ((rd_T31 l0 x5_1).f4) _ _ ((rd_T31 l0 x5_1).f5) false _ (sc_ HR462_3) HC462_3.out (sc_ HR462_5) HC462_5.out A5.out) ?_; rintro w8 hb; replace HB := am (below_step ab1 hb); (try clear hb); (try clear hb2); (try clear hk); (try clear hi)))
      go_meet
      case rel => exact ⟨_, (true), ab6, (by first | exact H' | (have h_ := H'.out; rw [c4b0] at h_; exact ⟨h_⟩)), ⟨by have := HK1.out; first | omega | exact Nat.le_refl _⟩, ⟨ab1⟩⟩
    case rest =>
     clear HC3
     (try clear c1); (try clear c2); (try clear c2b0); (try clear p2); (try clear c4); (try clear c4b0); (try clear p4); (try clear q4); (try clear hx4); (try clear c6); (try clear hx462_0); (try clear hx462_1); (try clear hx462_2); (try clear hx462_3); (try clear hx462_4); (try clear hx462_5); (try clear hx464_0); (try clear hx464_1); (try clear hx464_2); (try clear hx464_3); (try clear hx464_4); (try clear hx464_5); (try clear p462); (try clear p464); (try clear q462); (try clear q464)
     obtain ⟨kq, x25_2, rfl, HA, HJ2, HB⟩ := hcut
     cases kq with
     | zero => exact absurd HA.out (by simp [spec_DocOk.j1])
     | succ kj2 =>
      have H := HA.out
      clear HA
      simp only [spec_DocOk.j1] at H
      replace H := ib_ H; rcases H with ⟨rfl, H⟩ | ⟨rfl, H⟩
      ·obtain rfl := Option.some.inj H
       go_wp2
       go_ret
       exact ⟨ab7, ab1⟩
      ·replace H := iq_ H; obtain ⟨c10b0, H⟩ := H
       replace H := iq_ H; obtain ⟨c11b0, H⟩ := H
       replace H := bi_ H; obtain ⟨t466, A12, H⟩ := H
       replace H := bi_ H; obtain ⟨t468, A13, H⟩ := H
       have H' := am H
       clear H
       have p465 : 0 ≤ (x5_1 : Int) := of_decide_eq_true ab4
       have q465 : x5_1 < (l0.length : Int) := of_decide_eq_true ab4
       obtain ⟨ad465, A465_3, c465_3, A465_5, c465_5, e465, hx465_0, hx465_1, hx465_2, hx465_3, hx465_4, hx465_5, hl465_3, hi465_3, hl465_5, hi465_5⟩ := at_T31 HR0.out x5_1 p465 q465
       cases e465
       replace hx465_0 := pc_ HB hx465_0
       replace hx465_1 := pc_ HB hx465_1
       replace hx465_2 := pc_ HB hx465_2
       replace hx465_3 := pc_ HB hx465_3
       replace hx465_4 := pc_ HB hx465_4
       replace hx465_5 := pc_ HB hx465_5
       have HR465_3 := am hi465_3
       have HC465_3 := am hl465_3
       clear hi465_3 hl465_3
       have HR465_5 := am hi465_5
       have HC465_5 := am hl465_5
       clear hi465_5 hl465_5
       replace p465 := eq_true p465
       replace q465 := eq_true q465
       go_wp2_with (first | ((with_reducible refine gf_ 37 ?_); refine gc_ Tryz.func37 (spec_l1Bit.calls (((rd_T31 l0 x5_1).f0) == 1) t466 _ A12.out) ?_; rintro w' ⟨nd, rfl⟩; have p467 : 0 ≤ (x5_1 : Int) := of_decide_eq_true ab4; have q467 : x5_1 < (l0.length : Int) := of_decide_eq_true ab4; obtain ⟨ad467, A467_3, c467_3, A467_5, c467_5, e467, hx467_0, hx467_1, hx467_2, hx467_3, hx467_4, hx467_5, hl467_3, hi467_3, hl467_5, hi467_5⟩ := at_T31 HR0.out x5_1 p467 q467; obtain rfl : ad465 = ad467 := (by injection e467); replace hx467_0 := pc_ HB hx467_0; replace hx467_1 := pc_ HB hx467_1; replace hx467_2 := pc_ HB hx467_2; replace hx467_3 := pc_ HB hx467_3; replace hx467_4 := pc_ HB hx467_4; replace hx467_5 := pc_ HB hx467_5; have HR467_3 := am hi467_3; have HC467_3 := am hl467_3; clear hi467_3 hl467_3; have HR467_5 := am hi467_5; have HC467_5 := am hl467_5; clear hi467_5 hl467_5; replace p467 := eq_true p467; replace q467 := eq_true q467; have ea_ := Option.some.inj (hx465_3.symm.trans hx467_3); injection ea_ with ea_ en_ ec_; subst ea_; subst ec_; clear en_; have ea_ := Option.some.inj (hx465_5.symm.trans hx467_5); injection ea_ with ea_ en_ ec_; subst ea_; subst ec_; clear en_) | ((with_reducible refine gf_ 38 ?_); refine gc_ Tryz.func38 (spec_ElSize.calls kj2 ((rd_T31 l0 x5_1).f0) ((rd_T31 l0 x5_1).f1) ((rd_T31 l0 x5_1).f2) _ _ ((rd_T31 l0 x5_1).f3) ((rd_T31 l0 x5_1).f4) _ _ ((rd_T31 l0 x5_1).f5) t468 _ ?side1 ?side2 ?side3 ?side4 A13.out) ?_; (case side1 => repeat (first | exact (Kd.C_below HR467_3.out ab1) | (with_reducible refine Kd.C_alloc ?_ _) | (with_reducible refine Kd.C_drewN ?_ _) | (with_reducible refine Kd.C_drew ?_))); (case side2 => exact HC467_3.out); (case side3 => repeat (first | exact (Kd.C_below HR467_5.out ab1) | (with_reducible refine Kd.C_alloc ?_ _) | (with_reducible refine Kd.C_drewN ?_ _) | (with_reducible refine Kd.C_drew ?_))); (case side4 => exact HC467_5.out); rintro w14 hb; replace HB := am (below_step ab1 hb); (try clear hb); (try clear hb2); (try clear hk); (try clear hi)))
       go_roundg kj2
       case measure => have := HK1.out; have := HJ2.out; omega
       case rel => exact ⟨(wrap64 (x3_1 + t466)), (wrap64 (x4_1 + t468)), (wrap64 (x5_1 + 1)), ab6, ab6, ab6, H', ⟨by have := HK1.out; have := HJ2.out; omega⟩, ⟨ab1⟩⟩
   ·replace H := ie_ H; rcases H with ⟨c15b0, c15b1, H⟩ | ⟨c15, c15b0, c15b1, H⟩
    ·obtain rfl := Option.some.inj H
     go_wp2
     go_ret
     exact ⟨ab7, ab1⟩
    ·obtain rfl := Option.some.inj H
     go_wp2
     go_ret
     exact ⟨ab7, ab1⟩

end Go.Proofs.YthpdpnpojgegiaaGreatDoor.P
