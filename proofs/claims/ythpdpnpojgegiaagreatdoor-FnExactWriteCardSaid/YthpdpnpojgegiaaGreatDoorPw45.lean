-- WRITTEN BY hprint.py
import Derived.Test.YthpdpnpojgegiaaGreatDoorPw0
import Derived.Test.YthpdpnpojgegiaaGreatDoorPw9
import Derived.Test.YthpdpnpojgegiaaGreatDoorPw32
import Derived.Test.YthpdpnpojgegiaaGreatDoorPw44
namespace Go.Proofs.YthpdpnpojgegiaaGreatDoor.P
open Go.RowKit Go.Proofs.YthpdpnpojgegiaaGreatDoorW.PrintWords Go.Proofs.YthpdpnpojgegiaaGreatDoorW.PrintLast Go.Proofs.YthpdpnpojgegiaaGreatDoorW.PrintMore
attribute [local go_sem] max2_int min2_int max_two min_two max_three min_three max_four min_four
set_option linter.unusedVariables false
set_option linter.unusedSimpArgs false
set_option maxHeartbeats 8000000
set_option maxRecDepth 100000

/-! ### spec_Write: function 11 -/
def spec_Write.l0 : Nat → List (S31) → ByteArray → Int → Option (ByteArray)
 | 0, _, _, _ => none
 | k + 1, x0, x3, x4 => if x4 < (x0.length : Int) then (if 0 ≤ x4 then ((spec_l17Said.f k ((rd_T31 x0 x4).f0) ((rd_T31 x0 x4).f1) ((rd_T31 x0 x4).f2) ((rd_T31 x0 x4).f3) ((rd_T31 x0 x4).f4) ((rd_T31 x0 x4).f5) (-1)).bind fun t471 => (if x3.size + t471.size ≤ 9223372036854775807 then (if (x3 ++ t471).size + 1 ≤ 9223372036854775807 then (spec_Write.l0 k x0 ((x3 ++ t471) ++ (⟨#[10]⟩ : ByteArray)) (wrap64 (x4 + 1))) else (none)) else (none))) else (none)) else (some x3)
def spec_Write.f (k : Nat) (l0 : List (S31)) : Option (ByteArray) := (spec_DocOk.f k l0).bind fun t469 => (if t469 = true then (spec_Write.l0 k l0 (⟨#[60, 63, 120, 109, 108, 32, 118, 101, 114, 115, 105, 111, 110, 61, 34, 49, 46, 48, 34, 63, 62, 10]⟩ : ByteArray) 0) else (some (⟨#[]⟩ : ByteArray)))
theorem spec_Write.mono_l : ∀ k, (∀ y0 y1 y2, LeO (spec_Write.l0 k y0 y1 y2) (spec_Write.l0 (k + 1) y0 y1 y2))
 | 0 => fun _ _ _ r h => by simp [spec_Write.l0] at h
 | k + 1 => by
  have ih0 := spec_Write.mono_l k
  ·intro y0 y1 y2
   unfold spec_Write.l0
   repeat' with_reducible first | exact ih0 _ _ _ | exact spec_DocOk.mono _ _ | exact spec_l17Said.mono _ _ _ _ _ _ _ _ | exact LeO.refl _ | exact LeO.none _ | refine LeO.ite ?_ ?_ | refine LeO.bind ?_ fun _ => ?_
theorem spec_Write.mono : ∀ a0 k, LeO (spec_Write.f k a0) (spec_Write.f (k + 1) a0) := by
 intro a0 k
 have ih0 := spec_Write.mono_l k
 unfold spec_Write.f
 repeat' with_reducible first | exact ih0 _ _ _ | exact spec_DocOk.mono _ _ | exact spec_l17Said.mono _ _ _ _ _ _ _ _ | exact LeO.refl _ | exact LeO.none _ | refine LeO.ite ?_ ?_ | refine LeO.bind ?_ fun _ => ?_
theorem spec_Write.calls (k : Nat) (A0 : Option Addr) (c0 : Nat) (l0 : List (S31)) (r : ByteArray) (w : World) (hr0 : Kd.C k31 w A0 l0.length l0) (hc0 : l0.length ≤ c0) (h : spec_Write.f k l0 = some r) :
  Calls Tryz.prog 11 #[.slice A0 l0.length c0] w fun e w' => e = .returned (.string r) ∧ Below w.heap.size w w' := by
 have hu31 := Tryz.underlying31
 have HR0 := am hr0
 have HC0 := am hc0
 clear hr0 hc0
 have HB := am (Below.refl w.heap.size w)
 have H : ((spec_DocOk.f k l0).bind fun t469 => (if t469 = true then (spec_Write.l0 k l0 (⟨#[60, 63, 120, 109, 108, 32, 118, 101, 114, 115, 105, 111, 110, 61, 34, 49, 46, 48, 34, 63, 62, 10]⟩ : ByteArray) 0) else (some (⟨#[]⟩ : ByteArray)))) = some r := h
 clear h
 replace H := bi_ H; obtain ⟨t469, A2, H⟩ := H
 replace H := ib_ H; rcases H with ⟨rfl, H⟩ | ⟨rfl, H⟩
 ·have H' := am H
  clear H
  go_enter Tryz.func11, Tryz.ntmps11
  go_wp2_with (first | ((with_reducible refine gf_ 23 ?_); refine gc_ Tryz.func23 (spec_DocOk.calls k _ _ l0 true _ ?side1 HC0.out A2.out) ?_; (case side1 => exact (by repeat (first | exact HR0.out | (with_reducible refine Kd.C_alloc ?_ _) | (with_reducible refine Kd.C_drewN ?_ _) | (with_reducible refine Kd.C_drew ?_)))); rintro w4 hb; replace HB := am (below_step ab1 hb); (try clear hb); (try clear hb2); (try clear hk); (try clear hi)))
  go_loopg [3, 4] k (fun kq v3 v4 w' => ∃ (x3_1 : ByteArray) (x4_1 : Int), v3 = .string x3_1 ∧ v4 = .int .i64 x4_1 ∧ Aside0 (spec_Write.l0 kq l0 x3_1 x4_1 = some r) ∧ Aside0 (kq ≤ k) ∧ Aside0 (Below w.heap.size w w'))
  case atStart => exact ⟨((⟨#[60, 63, 120, 109, 108, 32, 118, 101, 114, 115, 105, 111, 110, 61, 34, 49, 46, 48, 34, 63, 62, 10]⟩ : ByteArray)), (0), ab6, ab6, H', ⟨Nat.le_refl _⟩, ⟨ab1⟩⟩
  case round =>
   clear H'
   (try clear c1); (try clear c2); (try clear p2); (try clear c3)
   obtain ⟨x3_1, x4_1, rfl, rfl, HA, HK1, HB⟩ := hrel
   cases gk with
   | zero => exact absurd HA.out (by simp [spec_Write.l0])
   | succ k1 =>
    have H := HA.out
    clear HA
    simp only [spec_Write.l0] at H
    replace H := ir_ H; rcases H with ⟨c5b0, H⟩ | ⟨c5b0, H⟩
    ·replace H := iq_ H; obtain ⟨c6b0, H⟩ := H
     replace H := bi_ H; obtain ⟨t471, A7, H⟩ := H
     by_cases c8 : x3_1.size + t471.size ≤ 9223372036854775807
     case neg => rw [if_neg c8] at H; exact absurd H (by simp)
     rw [if_pos c8] at H
     have c8b0 := eq_true c8
     have c8b1 := decide_eq_true c8
     try have c8b2 : (9223372036854775807 < x3_1.size + t471.size) = False := eq_false (Nat.not_lt.2 c8)
     by_cases c9 : (x3_1 ++ t471).size + 1 ≤ 9223372036854775807
     case neg => rw [if_neg c9] at H; exact absurd H (by simp)
     rw [if_pos c9] at H
     have c9b0 := eq_true c9
     have c9b1 := decide_eq_true c9
     try (have c9b5 := c9; simp only [ByteArray.size_append] at c9b5; have c9b6 := eq_false (Nat.not_lt.2 c9b5))
     try have c9b2 : (9223372036854775807 < (x3_1 ++ t471).size + 1) = False := eq_false (Nat.not_lt.2 c9)
     have H' := am H
     clear H
     have p470 : 0 ≤ (x4_1 : Int) := of_decide_eq_true ab4
     have q470 : x4_1 < (l0.length : Int) := of_decide_eq_true ab4
     obtain ⟨ad470, A470_3, c470_3, A470_5, c470_5, e470, hx470_0, hx470_1, hx470_2, hx470_3, hx470_4, hx470_5, hl470_3, hi470_3, hl470_5, hi470_5⟩ := at_T31 HR0.out x4_1 p470 q470
     cases e470
     replace hx470_0 := pc_ HB hx470_0
     replace hx470_1 := pc_ HB hx470_1
     replace hx470_2 := pc_ HB hx470_2
     replace hx470_3 := pc_ HB hx470_3
     replace hx470_4 := pc_ HB hx470_4
     replace hx470_5 := pc_ HB hx470_5
     have HR470_3 := am hi470_3
     have HC470_3 := am hl470_3
     clear hi470_3 hl470_3
     have HR470_5 := am hi470_5
     have HC470_5 := am hl470_5
     clear hi470_5 hl470_5
     replace p470 := eq_true p470
     replace q470 := eq_true q470
     go_wp2_with (first | ((with_reducible refine gf_ 17 ?_); refine gc_ Tryz.func17 (spec_l17Said.calls k1 ((rd_T31 l0 x4_1).f0) ((rd_T31 l0 x4_1).f1) ((rd_T31 l0 x4_1).f2) _ _ ((rd_T31 l0 x4_1).f3) ((rd_T31 l0 x4_1).f4) _ _ ((rd_T31 l0 x4_1).f5) (-1) t471 _ (sc_ HR470_3) HC470_3.out (sc_ HR470_5) HC470_5.out A7.out) ?_; rintro w10 hb; replace HB := am (below_step ab1 hb); (try clear hb); (try clear hb2); (try clear hk); (try clear hi)))
     go_roundg k1
     case measure => have := HK1.out; omega
     case rel => exact ⟨((x3_1 ++ t471) ++ (⟨#[10]⟩ : ByteArray)), (wrap64 (x4_1 + 1)), ab6, ab6, H', ⟨by have := HK1.out; omega⟩, ⟨ab1⟩⟩
    ·obtain rfl := Option.some.inj H
     go_wp2
     go_ret
     exact ⟨ab7, ab1⟩
 ·obtain rfl := Option.some.inj H
  go_enter Tryz.func11, Tryz.ntmps11
  go_wp2_with (first | ((with_reducible refine gf_ 23 ?_); refine gc_ Tryz.func23 (spec_DocOk.calls k _ _ l0 false _ ?side1 HC0.out A2.out) ?_; (case side1 => exact (by repeat (first | exact HR0.out | (with_reducible refine Kd.C_alloc ?_ _) | (with_reducible refine Kd.C_drewN ?_ _) | (with_reducible refine Kd.C_drew ?_)))); rintro w11 hb; replace HB := am (below_step ab1 hb); (try clear hb); (try clear hb2); (try clear hk); (try clear hi)))
  go_ret
  exact ⟨ab7, ab1⟩

/-! ### impl_ElSize: function 39 -/
mutual
def impl_ElSize.l0 : Nat → Int → List (S31) → Int → Int → Option (Int)
 | 0, _, _, _, _ => none
 | k + 1, x3, x7, x8, x9 => if x9 < x8 then (if 0 ≤ x9 then (if x9 < (x7.length : Int) then ((impl_ElSize.f k ((rd_T31 x7 x9).f0) ((rd_T31 x7 x9).f1) ((rd_T31 x7 x9).f2) ((rd_T31 x7 x9).f3) ((rd_T31 x7 x9).f4) ((rd_T31 x7 x9).f5)).bind fun t475 => (impl_ElSize.l0 k (wrap64 (x3 + t475)) x7 x8 (wrap64 (x9 + 1)))) else (none)) else (none)) else (some x3)
def impl_ElSize.f : Nat → Int → Int → ByteArray → List (S62) → ByteArray → List (S31) → Option (Int)
 | 0, _, _, _, _, _, _ => none
 | k + 1, a0_0, a0_1, a0_2, l0_3, a0_4, l0_5 => impl_ElSize.l0 k 1 l0_5 (l0_5.length : Int) 0
end
theorem impl_ElSize.mono_l : ∀ k, (∀ y0 y1 y2 y3 y4 y5, LeO (impl_ElSize.f k y0 y1 y2 y3 y4 y5) (impl_ElSize.f (k + 1) y0 y1 y2 y3 y4 y5)) ∧ (∀ y0 y1 y2 y3, LeO (impl_ElSize.l0 k y0 y1 y2 y3) (impl_ElSize.l0 (k + 1) y0 y1 y2 y3))
 | 0 => ⟨fun _ _ _ _ _ _ r h => by simp [impl_ElSize.f] at h, fun _ _ _ _ r h => by simp [impl_ElSize.l0] at h⟩
 | k + 1 => by
  obtain ⟨ih0, ih1⟩ := impl_ElSize.mono_l k
  refine ⟨?_, ?_⟩
  ·intro y0 y1 y2 y3 y4 y5
   unfold impl_ElSize.f
   repeat' with_reducible first | exact ih0 _ _ _ _ _ _ | exact ih1 _ _ _ _ | exact LeO.refl _ | exact LeO.none _ | refine LeO.ite ?_ ?_ | refine LeO.bind ?_ fun _ => ?_
  ·intro y0 y1 y2 y3
   unfold impl_ElSize.l0
   repeat' with_reducible first | exact ih0 _ _ _ _ _ _ | exact ih1 _ _ _ _ | exact LeO.refl _ | exact LeO.none _ | refine LeO.ite ?_ ?_ | refine LeO.bind ?_ fun _ => ?_
theorem impl_ElSize.mono : ∀ a0 a1 a2 a3 a4 a5 k, LeO (impl_ElSize.f k a0 a1 a2 a3 a4 a5) (impl_ElSize.f (k + 1) a0 a1 a2 a3 a4 a5) := by
 intro a0 a1 a2 a3 a4 a5 k
 obtain ⟨ih0, ih1⟩ := impl_ElSize.mono_l k
 exact ih0 a0 a1 a2 a3 a4 a5
theorem impl_ElSize.calls (k : Nat) : ∀ (a0_0 : Int) (a0_1 : Int) (a0_2 : ByteArray) (A0_3 : Option Addr) (c0_3 : Nat) (l0_3 : List (S62)) (a0_4 : ByteArray) (A0_5 : Option Addr) (c0_5 : Nat) (l0_5 : List (S31)) (r : Int) (w : World) (hr0_3 : Kd.C k62 w A0_3 l0_3.length l0_3) (hc0_3 : l0_3.length ≤ c0_3) (hr0_5 : Kd.C k31 w A0_5 l0_5.length l0_5) (hc0_5 : l0_5.length ≤ c0_5) (h : impl_ElSize.f k a0_0 a0_1 a0_2 l0_3 a0_4 l0_5 = some r),
  Calls Tryz.prog 39 #[.agg #[.int .i64 a0_0, .int .i64 a0_1, .string a0_2, .slice A0_3 l0_3.length c0_3, .string a0_4, .slice A0_5 l0_5.length c0_5]] w fun e w' => e = .returned (.int .i64 r) ∧ Below w.heap.size w w' := by
 induction k using Nat.strongRecOn with
 | _ k ih =>
 intro a0_0 a0_1 a0_2 A0_3 c0_3 l0_3 a0_4 A0_5 c0_5 l0_5 r w hr0_3 hc0_3 hr0_5 hc0_5 h
 cases k with
 | zero => exact absurd h (by simp [impl_ElSize.f])
 | succ k =>
 simp only [impl_ElSize.f] at h
 have hu31 := Tryz.underlying31
 have HR0_3 := am hr0_3
 have HC0_3 := am hc0_3
 clear hr0_3 hc0_3
 have HR0_5 := am hr0_5
 have HC0_5 := am hc0_5
 clear hr0_5 hc0_5
 have HB := am (Below.refl w.heap.size w)
 have H : (impl_ElSize.l0 k 1 l0_5 (l0_5.length : Int) 0) = some r := h
 clear h
 have H' := am H
 clear H
 go_enter Tryz.func39, Tryz.ntmps39
 go_wp2_with (first | ((with_reducible refine gd_ 1 ?_); refine bx_ 1 (cs := #[.int .i64 a0_0, .int .i64 a0_1, .string a0_2, .slice A0_3 l0_3.length c0_3, .string a0_4, .slice A0_5 l0_5.length c0_5]) 31 ?_; intro gb472 hg w2 hbox hb; have BK472 := am hbox; have GW472 := ge_ (w := w) hg; have GE472 := ge_ (w := w) hg; replace HB := am (below_step ab1 hb); clear hb hbox hg; obtain ⟨⟨_, _, _, _, _, _⟩, _, _, _, _, _, _⟩ := Op.cells6 BK472.out))
 go_loopg [3, 9] k (fun kq v3 v9 w' => ∃ (x3_1 : Int) (x9_1 : Int), v3 = .int .i64 x3_1 ∧ v9 = .int .i64 x9_1 ∧ Aside0 (impl_ElSize.l0 kq x3_1 l0_5 (l0_5.length : Int) x9_1 = some r) ∧ Aside0 (kq ≤ k) ∧ Aside0 (w'.heap[gb472]? = some (.cells #[.int .i64 a0_0, .int .i64 a0_1, .string a0_2, (.slice A0_3 l0_3.length c0_3), .string a0_4, (.slice A0_5 l0_5.length c0_5)] 31 (0, 0))) ∧ Aside0 (Below w.heap.size w w'))
 case atStart => exact ⟨(1), (0), ab6, ab6, H', ⟨Nat.le_refl _⟩, ⟨ab3 BK472⟩, ⟨ab2 GE472⟩⟩
 case round =>
  clear H'
  (try clear p2); (try clear c3); (try clear hcz3_0); (try clear hcz3_1); (try clear hcz3_2); (try clear hcz3_3); (try clear hcz3_4); (try clear hcz3_5); (try clear hfz3_0); (try clear hfz3_1); (try clear hfz3_2); (try clear hfz3_3); (try clear hfz3_4); (try clear hfz3_5)
  obtain ⟨x3_1, x9_1, rfl, rfl, HA, HK1, BK472, HB⟩ := hrel
  cases gk with
  | zero => exact absurd HA.out (by simp [impl_ElSize.l0])
  | succ k1 =>
   have H := HA.out
   clear HA
   simp only [impl_ElSize.l0] at H
   replace H := ir_ H; rcases H with ⟨c4b0, H⟩ | ⟨c4b0, H⟩
   ·replace H := iq_ H; obtain ⟨c5b0, H⟩ := H
    replace H := iq_ H; obtain ⟨c6b0, H⟩ := H
    replace H := bi_ H; obtain ⟨t475, A7, H⟩ := H
    have H' := am H
    clear H
    have p473 : 0 ≤ (x9_1 : Int) := of_decide_eq_true ab4
    have q473 : x9_1 < (l0_5.length : Int) := of_decide_eq_true ab4
    obtain ⟨ad473, A473_3, c473_3, A473_5, c473_5, e473, hx473_0, hx473_1, hx473_2, hx473_3, hx473_4, hx473_5, hl473_3, hi473_3, hl473_5, hi473_5⟩ := at_T31 HR0_5.out x9_1 p473 q473
    cases e473
    replace hx473_0 := pc_ HB hx473_0
    replace hx473_1 := pc_ HB hx473_1
    replace hx473_2 := pc_ HB hx473_2
    replace hx473_3 := pc_ HB hx473_3
    replace hx473_4 := pc_ HB hx473_4
    replace hx473_5 := pc_ HB hx473_5
    have HR473_3 := am hi473_3
    have HC473_3 := am hl473_3
    clear hi473_3 hl473_3
    have HR473_5 := am hi473_5
    have HC473_5 := am hl473_5
    clear hi473_5 hl473_5
    replace p473 := eq_true p473
    replace q473 := eq_true q473
    go_wp2_with (first | ((with_reducible refine gd_ 5 ?_); refine bx_ 5 (cs := #[.int .i64 0, .int .i64 0, .string (⟨#[]⟩ : ByteArray), .slice none 0 0, .string (⟨#[]⟩ : ByteArray), .slice none 0 0]) 31 ?_; intro gb474 hg w8 hbox hb; have BK474 := am hbox; have GW474 := gE_ (w := w) GE472 hg; have GE474 := gE_ (w := w) GE472 hg; replace HB := am (below_step (ab2 GE472) hb); have NB472_474 := nl_ BK472 hg; have NB474_472 := ng_ BK472 hg; replace BK472 := bl_ BK472 hb; clear hb hbox hg; have hnb9 := NB474_472.out; have hnc9 := NB472_474.out; obtain ⟨⟨_, _, _, _, _, _⟩, _, _, _, _, _, _⟩ := Op.cells6 BK474.out) | ((with_reducible refine gate_callee (f := 39) rfl ?_); refine goesL_ (some 15) rfl rfl Tryz.func39 (by kernel_rfl) rfl #[.agg #[.int .i64 ((rd_T31 l0_5 x9_1).f0), .int .i64 ((rd_T31 l0_5 x9_1).f1), .string ((rd_T31 l0_5 x9_1).f2), .slice A473_3 ((rd_T31 l0_5 x9_1).f3).length c473_3, .string ((rd_T31 l0_5 x9_1).f4), .slice A473_5 ((rd_T31 l0_5 x9_1).f5).length c473_5]] rfl ab5 ?_; (with_reducible refine (ih k1 (by have := HK1.out; omega) ((rd_T31 l0_5 x9_1).f0) ((rd_T31 l0_5 x9_1).f1) ((rd_T31 l0_5 x9_1).f2) _ _ ((rd_T31 l0_5 x9_1).f3) ((rd_T31 l0_5 x9_1).f4) _ _ ((rd_T31 l0_5 x9_1).f5) t475 _ ?side1 ?side2 ?side3 ?side4 A7.out).mono ?_); (case side1 => exact Kd.C_below HR473_3.out ba_); (case side2 => exact HC473_3.out); (case side3 => exact Kd.C_below HR473_5.out ba_); (case side4 => exact HC473_5.out); rintro e w11 ⟨rfl, hb⟩; refine ⟨_, rfl, ?_⟩; replace BK472 := bp_ BK472 hb; replace BK474 := bp_ BK474 hb; replace HB := am (below_step ba_ hb); (try clear hb); (try clear hb2); (try clear hk); (try clear hi)))
    go_roundg k1
    case measure => have := HK1.out; omega
    case rel => exact ⟨(wrap64 (x3_1 + t475)), (wrap64 (x9_1 + 1)), ab6, ab6, H', ⟨by have := HK1.out; omega⟩, ⟨ab3 BK472⟩, ⟨ba_⟩⟩
   ·obtain rfl := Option.some.inj H
    go_wp2
    go_ret
    exact ⟨ab7, ab2 GE472⟩

/-! ### impl_DocOk: function 24 -/
mutual
def impl_DocOk.l0 : Nat → Int → Int → List (S31) → Int → Int → Option (Bool)
 | 0, _, _, _, _, _ => none
 | k + 1, x3, x4, x7, x8, x9 => if x9 < x8 then (if 0 ≤ x9 then (if x9 < (x7.length : Int) then ((impl_ElOk.f k ((rd_T31 x7 x9).f0) ((rd_T31 x7 x9).f1) ((rd_T31 x7 x9).f2) ((rd_T31 x7 x9).f3) ((rd_T31 x7 x9).f4) ((rd_T31 x7 x9).f5)).bind fun t478 => (if t478 = true then (impl_DocOk.j1 k x3 x4 x7 x8 x9 (((rd_T31 x7 x9).f0) == 2) ((rd_T31 x7 x9).f0) ((rd_T31 x7 x9).f1) ((rd_T31 x7 x9).f2) ((rd_T31 x7 x9).f3) ((rd_T31 x7 x9).f4) ((rd_T31 x7 x9).f5)) else (impl_DocOk.j1 k x3 x4 x7 x8 x9 true ((rd_T31 x7 x9).f0) ((rd_T31 x7 x9).f1) ((rd_T31 x7 x9).f2) ((rd_T31 x7 x9).f3) ((rd_T31 x7 x9).f4) ((rd_T31 x7 x9).f5)))) else (none)) else (none)) else (if x3 = 1 then (some (decide (x4 ≤ 3000))) else (some false))
def impl_DocOk.j1 : Nat → Int → Int → List (S31) → Int → Int → Bool → Int → Int → ByteArray → List (S62) → ByteArray → List (S31) → Option (Bool)
 | 0, _, _, _, _, _, _, _, _, _, _, _, _ => none
 | k + 1, x3, x4, x7, x8, x9, x20, x478000, x478001, x478002, x478003, x478004, x478005 => if x20 = true then (some false) else (if x478000 = 1 then ((impl_ElSize.f k x478000 x478001 x478002 x478003 x478004 x478005).bind fun t479 => (impl_DocOk.l0 k (wrap64 (x3 + 1)) (wrap64 (x4 + t479)) x7 x8 (wrap64 (x9 + 1)))) else ((impl_ElSize.f k x478000 x478001 x478002 x478003 x478004 x478005).bind fun t480 => (impl_DocOk.l0 k x3 (wrap64 (x4 + t480)) x7 x8 (wrap64 (x9 + 1)))))
end
def impl_DocOk.f (k : Nat) (l0 : List (S31)) : Option (Bool) := impl_DocOk.l0 k 0 0 l0 (l0.length : Int) 0
theorem impl_DocOk.mono_l : ∀ k, (∀ y0 y1 y2 y3 y4, LeO (impl_DocOk.l0 k y0 y1 y2 y3 y4) (impl_DocOk.l0 (k + 1) y0 y1 y2 y3 y4)) ∧ (∀ y0 y1 y2 y3 y4 y5 y6 y7 y8 y9 y10 y11, LeO (impl_DocOk.j1 k y0 y1 y2 y3 y4 y5 y6 y7 y8 y9 y10 y11) (impl_DocOk.j1 (k + 1) y0 y1 y2 y3 y4 y5 y6 y7 y8 y9 y10 y11))
 | 0 => ⟨fun _ _ _ _ _ r h => by simp [impl_DocOk.l0] at h, fun _ _ _ _ _ _ _ _ _ _ _ _ r h => by simp [impl_DocOk.j1] at h⟩
 | k + 1 => by
  obtain ⟨ih0, ih1⟩ := impl_DocOk.mono_l k
  refine ⟨?_, ?_⟩
  ·intro y0 y1 y2 y3 y4
   unfold impl_DocOk.l0
   repeat' with_reducible first | exact ih0 _ _ _ _ _ | exact ih1 _ _ _ _ _ _ _ _ _ _ _ _ | exact impl_ElOk.mono _ _ _ _ _ _ _ | exact impl_ElSize.mono _ _ _ _ _ _ _ | exact LeO.refl _ | exact LeO.none _ | refine LeO.ite ?_ ?_ | refine LeO.bind ?_ fun _ => ?_
  ·intro y0 y1 y2 y3 y4 y5 y6 y7 y8 y9 y10 y11
   unfold impl_DocOk.j1
   repeat' with_reducible first | exact ih0 _ _ _ _ _ | exact ih1 _ _ _ _ _ _ _ _ _ _ _ _ | exact impl_ElOk.mono _ _ _ _ _ _ _ | exact impl_ElSize.mono _ _ _ _ _ _ _ | exact LeO.refl _ | exact LeO.none _ | refine LeO.ite ?_ ?_ | refine LeO.bind ?_ fun _ => ?_
theorem impl_DocOk.mono : ∀ a0 k, LeO (impl_DocOk.f k a0) (impl_DocOk.f (k + 1) a0) := by
 intro a0 k
 obtain ⟨ih0, ih1⟩ := impl_DocOk.mono_l k
 unfold impl_DocOk.f
 repeat' with_reducible first | exact ih0 _ _ _ _ _ | exact ih1 _ _ _ _ _ _ _ _ _ _ _ _ | exact impl_ElOk.mono _ _ _ _ _ _ _ | exact impl_ElSize.mono _ _ _ _ _ _ _ | exact LeO.refl _ | exact LeO.none _ | refine LeO.ite ?_ ?_ | refine LeO.bind ?_ fun _ => ?_
theorem impl_DocOk.calls (k : Nat) (A0 : Option Addr) (c0 : Nat) (l0 : List (S31)) (r : Bool) (w : World) (hr0 : Kd.C k31 w A0 l0.length l0) (hc0 : l0.length ≤ c0) (M_ : Int) (hm_ : w.cell? ⟨0, 0, none⟩ = some (.int .i64 M_)) (h : impl_DocOk.f k l0 = some r) :
  Calls Tryz.prog 24 #[.slice A0 l0.length c0] w fun e w' => e = .returned (.bool r) ∧ Below w.heap.size w w' := by
 have hu31 := Tryz.underlying31
 have HR0 := am hr0
 have HC0 := am hc0
 clear hr0 hc0
 have HB := am (Below.refl w.heap.size w)
 have HM_ := am hm_
 clear hm_
 have H : (impl_DocOk.l0 k 0 0 l0 (l0.length : Int) 0) = some r := h
 clear h
 have H' := am H
 clear H
 go_enter Tryz.func24, Tryz.ntmps24
 go_wp2
 go_loopg [3, 4, 9] k (fun kq v3 v4 v9 w' => ∃ (x3_1 : Int) (x4_1 : Int) (x9_1 : Int), v3 = .int .i64 x3_1 ∧ v4 = .int .i64 x4_1 ∧ v9 = .int .i64 x9_1 ∧ Aside0 (impl_DocOk.l0 kq x3_1 x4_1 l0 (l0.length : Int) x9_1 = some r) ∧ Aside0 (kq ≤ k) ∧ Aside0 (Below w.heap.size w w'))
 case atStart => exact ⟨(0), (0), (0), ab6, ab6, ab6, H', ⟨Nat.le_refl _⟩, ⟨ab1⟩⟩
 case round =>
  clear H'
  obtain ⟨x3_1, x4_1, x9_1, rfl, rfl, rfl, HA, HK1, HB⟩ := hrel
  cases gk with
  | zero => exact absurd HA.out (by simp [impl_DocOk.l0])
  | succ k1 =>
   have H := HA.out
   clear HA
   simp only [impl_DocOk.l0] at H
   replace H := ir_ H; rcases H with ⟨c2b0, H⟩ | ⟨c2b0, H⟩
   ·replace H := iq_ H; obtain ⟨c3b0, H⟩ := H
    replace H := iq_ H; obtain ⟨c4b0, H⟩ := H
    have HC5 := am H
    clear H
    have p476 : 0 ≤ (x9_1 : Int) := of_decide_eq_true ab4
    have q476 : x9_1 < (l0.length : Int) := of_decide_eq_true ab4
    obtain ⟨ad476, A476_3, c476_3, A476_5, c476_5, e476, hx476_0, hx476_1, hx476_2, hx476_3, hx476_4, hx476_5, hl476_3, hi476_3, hl476_5, hi476_5⟩ := at_T31 HR0.out x9_1 p476 q476
    cases e476
    replace hx476_0 := pc_ HB hx476_0
    replace hx476_1 := pc_ HB hx476_1
    replace hx476_2 := pc_ HB hx476_2
    replace hx476_3 := pc_ HB hx476_3
    replace hx476_4 := pc_ HB hx476_4
    replace hx476_5 := pc_ HB hx476_5
    have HR476_3 := am hi476_3
    have HC476_3 := am hl476_3
    clear hi476_3 hl476_3
    have HR476_5 := am hi476_5
    have HC476_5 := am hl476_5
    clear hi476_5 hl476_5
    replace p476 := eq_true p476
    replace q476 := eq_true q476
    go_upto_region 5 with (first | ((with_reducible refine gd_ 6 ?_); refine bx_ 6 (cs := #[.int .i64 0, .int .i64 0, .string (⟨#[]⟩ : ByteArray), .slice none 0 0, .string (⟨#[]⟩ : ByteArray), .slice none 0 0]) 31 ?_; intro gb477 hg w6 hbox hb; have BK477 := am hbox; have GW477 := ge_ (w := w) hg; have GE477 := ge_ (w := w) hg; replace HB := am (below_step ab1 hb); clear hb hbox hg; obtain ⟨⟨_, _, _, _, _, _⟩, _, _, _, _, _, _⟩ := Op.cells6 BK477.out))
    (try simp only [Act.put, List.setIfInBounds_toArray, List.set_cons_zero, List.set_cons_succ])
    go_cut [20] (fun v20 wc => ∃ (kq : Nat) (x20_4 : Bool), v20 = .bool x20_4 ∧ Aside0 (impl_DocOk.j1 kq x3_1 x4_1 l0 (l0.length : Int) x9_1 x20_4 ((rd_T31 l0 x9_1).f0) ((rd_T31 l0 x9_1).f1) ((rd_T31 l0 x9_1).f2) ((rd_T31 l0 x9_1).f3) ((rd_T31 l0 x9_1).f4) ((rd_T31 l0 x9_1).f5) = some r) ∧ Aside0 (kq ≤ k1) ∧ Aside0 (wc.heap[gb477]? = some (.cells #[.int .i64 ((rd_T31 l0 x9_1).f0), .int .i64 ((rd_T31 l0 x9_1).f1), .string ((rd_T31 l0 x9_1).f2), (.slice A476_3 ((rd_T31 l0 x9_1).f3).length c476_3), .string ((rd_T31 l0 x9_1).f4), (.slice A476_5 ((rd_T31 l0 x9_1).f5).length c476_5)] 31 (0, 0))) ∧ Aside0 (Below w.heap.size w wc))
    case first =>
     have H := HC5.out
     clear HC5
     replace H := bi_ H; obtain ⟨t478, A8, H⟩ := H
     replace H := ib_ H; rcases H with ⟨rfl, H⟩ | ⟨rfl, H⟩
     ·have H' := am H
      clear H
      obtain ⟨⟨_, _, _, _, _, _⟩, _, _, _, _, _, _⟩ := Op.cells6 BK477.out
      go_wp2_with (first | ((with_reducible refine gf_ 19 ?_); refine gc_ Tryz.func19 (impl_ElOk.calls k1 ((rd_T31 l0 x9_1).f0) ((rd_T31 l0 x9_1).f1) ((rd_T31 l0 x9_1).f2) _ _ ((rd_T31 l0 x9_1).f3) ((rd_T31 l0 x9_1).f4) _ _ ((rd_T31 l0 x9_1).f5) true _ (Kd.C_below HR476_3.out (ab2 GE477)) HC476_3.out (Kd.C_below HR476_5.out (ab2 GE477)) HC476_5.out M_ (pw_cell_below (ab2 GE477) HM_.out) A8.out) ?_; rintro w11 hb; replace BK477 := bp_ BK477 hb; replace HB := am (below_step (ab2 GE477) hb); (try clear hb); (try clear hb2); (try clear hk); (try clear hi); obtain ⟨⟨_, _, _, _, _, _⟩, _, _, _, _, _, _⟩ := Op.cells6 BK477.out))
      go_meet
      case rel => exact ⟨_, ((((rd_T31 l0 x9_1).f0) == 2)), ab6, H', ⟨by have := HK1.out; first | omega | exact Nat.le_refl _⟩, ⟨ab3 BK477⟩, ⟨ab2 GE477⟩⟩
     ·have H' := am H
      clear H
      obtain ⟨⟨_, _, _, _, _, _⟩, _, _, _, _, _, _⟩ := Op.cells6 BK477.out
      go_wp2_with (first | ((with_reducible refine gf_ 19 ?_); refine gc_ Tryz.func19 (impl_ElOk.calls k1 ((rd_T31 l0 x9_1).f0) ((rd_T31 l0 x9_1).f1) ((rd_T31 l0 x9_1).f2) _ _ ((rd_T31 l0 x9_1).f3) ((rd_T31 l0 x9_1).f4) _ _ ((rd_T31 l0 x9_1).f5) false _ (Kd.C_below HR476_3.out (ab2 GE477)) HC476_3.out (Kd.C_below HR476_5.out (ab2 GE477)) HC476_5.out M_ (pw_cell_below (ab2 GE477) HM_.out) A8.out) ?_; rintro w14 hb; replace BK477 := bp_ BK477 hb; replace HB := am (below_step (ab2 GE477) hb); (try clear hb); (try clear hb2); (try clear hk); (try clear hi)))
      go_meet
      case rel => exact ⟨_, (true), ab6, H', ⟨by have := HK1.out; first | omega | exact Nat.le_refl _⟩, ⟨ab3 BK477⟩, ⟨ab2 GE477⟩⟩
    case rest =>
     clear HC5
     (try clear c1); (try clear c2); (try clear c2b0); (try clear p2); (try clear c3); (try clear c3b0); (try clear c4); (try clear c4b0); (try clear p4); (try clear q4); (try clear hx4); (try clear c9); (try clear hcz10_0); (try clear hcz10_1); (try clear hcz10_2); (try clear hcz10_3); (try clear hcz10_4); (try clear hcz10_5); (try clear hcz12_0); (try clear hcz12_1); (try clear hcz12_2); (try clear hcz12_3); (try clear hcz12_4); (try clear hcz12_5); (try clear hcz13_0); (try clear hcz13_1); (try clear hcz13_2); (try clear hcz13_3); (try clear hcz13_4); (try clear hcz13_5); (try clear hcz7_0); (try clear hcz7_1); (try clear hcz7_2); (try clear hcz7_3); (try clear hcz7_4); (try clear hcz7_5); (try clear hfz10_0); (try clear hfz10_1); (try clear hfz10_2); (try clear hfz10_3); (try clear hfz10_4); (try clear hfz10_5); (try clear hfz12_0); (try clear hfz12_1); (try clear hfz12_2); (try clear hfz12_3); (try clear hfz12_4); (try clear hfz12_5); (try clear hfz13_0); (try clear hfz13_1); (try clear hfz13_2); (try clear hfz13_3); (try clear hfz13_4); (try clear hfz13_5); (try clear hfz7_0); (try clear hfz7_1); (try clear hfz7_2); (try clear hfz7_3); (try clear hfz7_4); (try clear hfz7_5); (try clear hx476_0); (try clear hx476_1); (try clear hx476_2); (try clear hx476_3); (try clear hx476_4); (try clear hx476_5); (try clear p476); (try clear q476)
     obtain ⟨kq, x20_4, rfl, HA, HJ4, BK477, HB⟩ := hcut
     cases kq with
     | zero => exact absurd HA.out (by simp [impl_DocOk.j1])
     | succ kj4 =>
      have H := HA.out
      clear HA
      simp only [impl_DocOk.j1] at H
      replace H := ib_ H; rcases H with ⟨rfl, H⟩ | ⟨rfl, H⟩
      ·obtain rfl := Option.some.inj H
       go_wp2
       go_ret
       exact ⟨ab7, ab2 GE477⟩
      ·replace H := ie_ H; rcases H with ⟨c16b0, c16b1, H⟩ | ⟨c16, c16b0, c16b1, H⟩
       ·replace H := bi_ H; obtain ⟨t479, A17, H⟩ := H
        have H' := am H
        clear H
        obtain ⟨⟨_, _, _, _, _, _⟩, _, _, _, _, _, _⟩ := Op.cells6 BK477.out
        go_wp2_with (first | ((with_reducible refine gf_ 39 ?_); refine gc_ Tryz.func39 (impl_ElSize.calls kj4 ((rd_T31 l0 x9_1).f0) ((rd_T31 l0 x9_1).f1) ((rd_T31 l0 x9_1).f2) _ _ ((rd_T31 l0 x9_1).f3) ((rd_T31 l0 x9_1).f4) _ _ ((rd_T31 l0 x9_1).f5) t479 _ (sc_ HR476_3) HC476_3.out (sc_ HR476_5) HC476_5.out A17.out) ?_; rintro w19 hb; replace BK477 := bl_ BK477 hb; replace HB := am (below_step (ab2 GE477) hb); (try clear hb); (try clear hb2); (try clear hk); (try clear hi)))
        go_roundg kj4
        case measure => have := HK1.out; have := HJ4.out; omega
        case rel => exact ⟨(wrap64 (x3_1 + 1)), (wrap64 (x4_1 + t479)), (wrap64 (x9_1 + 1)), ab6, ab6, ab6, H', ⟨by have := HK1.out; have := HJ4.out; omega⟩, ⟨ab2 GE477⟩⟩
       ·replace H := bi_ H; obtain ⟨t480, A20, H⟩ := H
        have H' := am H
        clear H
        obtain ⟨⟨_, _, _, _, _, _⟩, _, _, _, _, _, _⟩ := Op.cells6 BK477.out
        go_wp2_with (first | ((with_reducible refine gf_ 39 ?_); refine gc_ Tryz.func39 (impl_ElSize.calls kj4 ((rd_T31 l0 x9_1).f0) ((rd_T31 l0 x9_1).f1) ((rd_T31 l0 x9_1).f2) _ _ ((rd_T31 l0 x9_1).f3) ((rd_T31 l0 x9_1).f4) _ _ ((rd_T31 l0 x9_1).f5) t480 _ (sc_ HR476_3) HC476_3.out (sc_ HR476_5) HC476_5.out A20.out) ?_; rintro w22 hb; replace BK477 := bl_ BK477 hb; replace HB := am (below_step (ab2 GE477) hb); (try clear hb); (try clear hb2); (try clear hk); (try clear hi)))
        go_roundg kj4
        case measure => have := HK1.out; have := HJ4.out; omega
        case rel => exact ⟨(x3_1), (wrap64 (x4_1 + t480)), (wrap64 (x9_1 + 1)), ab6, ab6, ab6, H', ⟨by have := HK1.out; have := HJ4.out; omega⟩, ⟨ab2 GE477⟩⟩
   ·replace H := ie_ H; rcases H with ⟨c23b0, c23b1, H⟩ | ⟨c23, c23b0, c23b1, H⟩
    ·obtain rfl := Option.some.inj H
     go_wp2
     go_ret
     exact ⟨ab7, ab1⟩
    ·obtain rfl := Option.some.inj H
     go_wp2
     go_ret
     exact ⟨ab7, ab1⟩

end Go.Proofs.YthpdpnpojgegiaaGreatDoor.P
