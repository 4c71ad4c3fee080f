-- WRITTEN BY hprint.py
import Derived.Test.YthpdpnpojgegiaaGreatDoorPw0
import Derived.Test.YthpdpnpojgegiaaGreatDoorPw1
import Derived.Test.YthpdpnpojgegiaaGreatDoorPw3
import Derived.Test.YthpdpnpojgegiaaGreatDoorPw5
import Derived.Test.YthpdpnpojgegiaaGreatDoorPw6
namespace Go.Proofs.YthpdpnpojgegiaaGreatDoor.P
open Go.RowKit Go.Proofs.YthpdpnpojgegiaaGreatDoorW.PrintWords Go.Proofs.YthpdpnpojgegiaaGreatDoorW.PrintLast Go.Proofs.YthpdpnpojgegiaaGreatDoorW.PrintMore
attribute [local go_sem] max2_int min2_int max_two min_two max_three min_three max_four min_four
set_option linter.unusedVariables false
set_option linter.unusedSimpArgs false
set_option maxHeartbeats 8000000
set_option maxRecDepth 100000

/-! ### spec_l15El: function 29 -/
mutual
def spec_l15El.l0 : Nat → Int → Int → Int → ByteArray → List (S62) → ByteArray → List (S31) → Option (Bool)
 | 0, _, _, _, _, _, _, _ => none
 | k + 1, x3, x221000, x221001, x221002, x221003, x221004, x221005 => if x3 < (x221005.length : Int) then (if 0 ≤ x3 then ((spec_l15El.f k ((rd_T31 x221005 x3).f0) ((rd_T31 x221005 x3).f1) ((rd_T31 x221005 x3).f2) ((rd_T31 x221005 x3).f3) ((rd_T31 x221005 x3).f4) ((rd_T31 x221005 x3).f5)).bind fun t222 => (if t222 = true then (if x3 > 0 then (if ((rd_T31 x221005 x3).f0) = 2 then (if 0 ≤ (wrap64 (x3 - 1)) then (if (wrap64 (x3 - 1)) < (x221005.length : Int) then (if ((rd_T31 x221005 (wrap64 (x3 - 1))).f0) = 2 then (some false) else (spec_l15El.l0 k (wrap64 (x3 + 1)) x221000 x221001 x221002 x221003 x221004 x221005)) else (none)) else (none)) else (spec_l15El.l0 k (wrap64 (x3 + 1)) x221000 x221001 x221002 x221003 x221004 x221005)) else (spec_l15El.l0 k (wrap64 (x3 + 1)) x221000 x221001 x221002 x221003 x221004 x221005)) else (some false))) else (none)) else (if x221001 = 0 then (if x221002.toList = ([] : List UInt8) then (if (x221003.length : Int) = 0 then (spec_l15El.j1 k ((x221005.length : Int) == 0) x221000 x221001 x221002 x221003 x221004 x221005) else (spec_l15El.j1 k false x221000 x221001 x221002 x221003 x221004 x221005)) else (spec_l15El.j1 k false x221000 x221001 x221002 x221003 x221004 x221005)) else (spec_l15El.j1 k false x221000 x221001 x221002 x221003 x221004 x221005))
def spec_l15El.j1 : Nat → Bool → Int → Int → ByteArray → List (S62) → ByteArray → List (S31) → Option (Bool)
 | 0, _, _, _, _, _, _, _ => none
 | k + 1, x4, x221000, x221001, x221002, x221003, x221004, x221005 => if x221000 = 1 then ((spec_l1In.f x221001 0 2).bind fun t225 => (if t225 = true then ((spec_NameOk.f k x221002).bind fun t226 => (if t226 = true then ((spec_l15Attrs.f k x221003).bind fun t227 => (if t227 = true then (some (x221004.toList == ([] : List UInt8))) else (some false))) else (some false))) else (some false))) else (if x221000 = 2 then (if x4 = true then (if x221004.toList = ([] : List UInt8) then (some false) else ((spec_TextOk.f k x221004).bind fun t228 => (some t228))) else (some false)) else (if x221000 = 3 then (if x4 = true then ((spec_NoteOk.f k x221004).bind fun t229 => (some t229)) else (some false)) else (some false)))
def spec_l15El.f : Nat → Int → Int → ByteArray → List (S62) → ByteArray → List (S31) → Option (Bool)
 | 0, _, _, _, _, _, _ => none
 | k + 1, a0_0, a0_1, a0_2, l0_3, a0_4, l0_5 => spec_l15El.l0 k 0 a0_0 a0_1 a0_2 l0_3 a0_4 l0_5
end
theorem spec_l15El.mono_l : ∀ k, (∀ y0 y1 y2 y3 y4 y5, LeO (spec_l15El.f k y0 y1 y2 y3 y4 y5) (spec_l15El.f (k + 1) y0 y1 y2 y3 y4 y5)) ∧ (∀ y0 y1 y2 y3 y4 y5 y6, LeO (spec_l15El.l0 k y0 y1 y2 y3 y4 y5 y6) (spec_l15El.l0 (k + 1) y0 y1 y2 y3 y4 y5 y6)) ∧ (∀ y0 y1 y2 y3 y4 y5 y6, LeO (spec_l15El.j1 k y0 y1 y2 y3 y4 y5 y6) (spec_l15El.j1 (k + 1) y0 y1 y2 y3 y4 y5 y6))
 | 0 => ⟨fun _ _ _ _ _ _ r h => by simp [spec_l15El.f] at h, fun _ _ _ _ _ _ _ r h => by simp [spec_l15El.l0] at h, fun _ _ _ _ _ _ _ r h => by simp [spec_l15El.j1] at h⟩
 | k + 1 => by
  obtain ⟨ih0, ih1, ih2⟩ := spec_l15El.mono_l k
  refine ⟨?_, ?_, ?_⟩
  ·intro y0 y1 y2 y3 y4 y5
   unfold spec_l15El.f
   repeat' with_reducible first | exact ih0 _ _ _ _ _ _ | exact ih1 _ _ _ _ _ _ _ | exact ih2 _ _ _ _ _ _ _ | exact spec_NameOk.mono _ _ | exact spec_NoteOk.mono _ _ | exact spec_TextOk.mono _ _ | exact spec_l15Attrs.mono _ _ | exact LeO.refl _ | exact LeO.none _ | refine LeO.ite ?_ ?_ | refine LeO.bind ?_ fun _ => ?_
  ·intro y0 y1 y2 y3 y4 y5 y6
   unfold spec_l15El.l0
   repeat' with_reducible first | exact ih0 _ _ _ _ _ _ | exact ih1 _ _ _ _ _ _ _ | exact ih2 _ _ _ _ _ _ _ | exact spec_NameOk.mono _ _ | exact spec_NoteOk.mono _ _ | exact spec_TextOk.mono _ _ | exact spec_l15Attrs.mono _ _ | exact LeO.refl _ | exact LeO.none _ | refine LeO.ite ?_ ?_ | refine LeO.bind ?_ fun _ => ?_
  ·intro y0 y1 y2 y3 y4 y5 y6
   unfold spec_l15El.j1
   repeat' with_reducible first | exact ih0 _ _ _ _ _ _ | exact ih1 _ _ _ _ _ _ _ | exact ih2 _ _ _ _ _ _ _ | exact spec_NameOk.mono _ _ | exact spec_NoteOk.mono _ _ | exact spec_TextOk.mono _ _ | exact spec_l15Attrs.mono _ _ | exact LeO.refl _ | exact LeO.none _ | refine LeO.ite ?_ ?_ | refine LeO.bind ?_ fun _ => ?_
theorem spec_l15El.mono : ∀ a0 a1 a2 a3 a4 a5 k, LeO (spec_l15El.f k a0 a1 a2 a3 a4 a5) (spec_l15El.f (k + 1) a0 a1 a2 a3 a4 a5) := by
 intro a0 a1 a2 a3 a4 a5 k
 obtain ⟨ih0, ih1, ih2⟩ := spec_l15El.mono_l k
 exact ih0 a0 a1 a2 a3 a4 a5
theorem spec_l15El.calls (k : Nat) : ∀ (a0_0 : Int) (a0_1 : Int) (a0_2 : ByteArray) (A0_3 : Option Addr) (c0_3 : Nat) (l0_3 : List (S62)) (a0_4 : ByteArray) (A0_5 : Option Addr) (c0_5 : Nat) (l0_5 : List (S31)) (r : Bool) (w : World) (hr0_3 : Kd.C k62 w A0_3 l0_3.length l0_3) (hc0_3 : l0_3.length ≤ c0_3) (hr0_5 : Kd.C k31 w A0_5 l0_5.length l0_5) (hc0_5 : l0_5.length ≤ c0_5) (h : spec_l15El.f k a0_0 a0_1 a0_2 l0_3 a0_4 l0_5 = some r),
  Calls Tryz.prog 29 #[.agg #[.int .i64 a0_0, .int .i64 a0_1, .string a0_2, .slice A0_3 l0_3.length c0_3, .string a0_4, .slice A0_5 l0_5.length c0_5]] w fun e w' => e = .returned (.bool r) ∧ Below w.heap.size w w' := by
 induction k using Nat.strongRecOn with
 | _ k ih =>
 intro a0_0 a0_1 a0_2 A0_3 c0_3 l0_3 a0_4 A0_5 c0_5 l0_5 r w hr0_3 hc0_3 hr0_5 hc0_5 h
 cases k with
 | zero => exact absurd h (by simp [spec_l15El.f])
 | succ k =>
 simp only [spec_l15El.f] at h
 have hu31 := Tryz.underlying31
 have HR0_3 := am hr0_3
 have HC0_3 := am hc0_3
 clear hr0_3 hc0_3
 have HR0_5 := am hr0_5
 have HC0_5 := am hc0_5
 clear hr0_5 hc0_5
 have HB := am (Below.refl w.heap.size w)
 have H : (spec_l15El.l0 k 0 a0_0 a0_1 a0_2 l0_3 a0_4 l0_5) = some r := h
 clear h
 have H' := am H
 clear H
 go_enter Tryz.func29, Tryz.ntmps29
 go_wp2_with (first | ((with_reducible refine gd_ 1 ?_); (try (refine gate_guard (by rfl) ?_; dsimp only)); refine bx_ 1 (cs := #[.int .i64 a0_0, .int .i64 a0_1, .string a0_2, .slice A0_3 l0_3.length c0_3, .string a0_4, .slice A0_5 l0_5.length c0_5]) 31 ?_; intro gb220 hg w2 hbox hb; have BK220 := am hbox; have GW220 := ge_ (w := w) hg; have GE220 := ge_ (w := w) hg; replace HB := am (below_step ab1 hb); clear hb hbox hg))
 go_loopg [3] k (fun kq v3 w' => ∃ (x3_1 : Int), v3 = .int .i64 x3_1 ∧ Aside0 (spec_l15El.l0 kq x3_1 a0_0 a0_1 a0_2 l0_3 a0_4 l0_5 = some r) ∧ Aside0 (kq ≤ k) ∧ Aside0 (w'.heap[gb220]? = some (.cells #[.int .i64 a0_0, .int .i64 a0_1, .string a0_2, (.slice A0_3 l0_3.length c0_3), .string a0_4, (.slice A0_5 l0_5.length c0_5)] 31 (0, 0))) ∧ Aside0 (Below w.heap.size w w'))
 case atStart => exact ⟨(0), ab6, H', ⟨Nat.le_refl _⟩, ⟨ab3 BK220⟩, ⟨ab2 GE220⟩⟩
 case round =>
  clear H'
  (try clear c2); (try clear p2)
  obtain ⟨x3_1, rfl, HA, HK1, BK220, HB⟩ := hrel
  cases gk with
  | zero => exact absurd HA.out (by simp [spec_l15El.l0])
  | succ k1 =>
   have H := HA.out
   clear HA
   simp only [spec_l15El.l0] at H
   replace H := ir_ H; rcases H with ⟨c3b0, H⟩ | ⟨c3b0, H⟩
   ·replace H := iq_ H; obtain ⟨c4b0, H⟩ := H
    replace H := bi_ H; obtain ⟨t222, A5, H⟩ := H
    replace H := ib_ H; rcases H with ⟨rfl, H⟩ | ⟨rfl, H⟩
    ·by_cases c7 : x3_1 > 0
     ·rw [if_pos c7] at H
      have c7b0 : decide (0 < x3_1) = true := decide_eq_true c7
      clear c7
      replace H := ie_ H; rcases H with ⟨c8b0, c8b1, H⟩ | ⟨c8, c8b0, c8b1, H⟩
      ·obtain ⟨ji9, hji9⟩ : ∃ j_ : Int, (wrap64 (x3_1 - 1)) = j_ := ⟨_, rfl⟩
       replace H : (if 0 ≤ (ji9) then (if (ji9) < (l0_5.length : Int) then (if ((rd_T31 l0_5 (ji9)).f0) = 2 then (some false) else (spec_l15El.l0 k1 (wrap64 (x3_1 + 1)) a0_0 a0_1 a0_2 l0_3 a0_4 l0_5)) else (none)) else (none)) = some r := by first | (rw [hji9] at H; exact H) | (simp only [hji9] at H ⊢; exact H)
       (try rw [hji9] at A5)
       have hji9w : (IntKind.i64.wrap (x3_1 - 1)) = ji9 := (i64_w _).trans hji9
       replace H := iq_ H; obtain ⟨c10b0, H⟩ := H
       replace H := iq_ H; obtain ⟨c11b0, H⟩ := H
       replace H := ie_ H; rcases H with ⟨c12b0, c12b1, H⟩ | ⟨c12, c12b0, c12b1, H⟩
       ·obtain rfl := Option.some.inj H
        obtain ⟨⟨_, _, _, _, _, _⟩, _, _, _, _, _, _⟩ := Op.cells6 BK220.out
        have p221 : 0 ≤ (x3_1 : Int) := of_decide_eq_true ab4
        have q221 : x3_1 < (l0_5.length : Int) := of_decide_eq_true ab4
        obtain ⟨ad221, A221_3, c221_3, A221_5, c221_5, e221, hx221_0, hx221_1, hx221_2, hx221_3, hx221_4, hx221_5, hl221_3, hi221_3, hl221_5, hi221_5⟩ := at_T31 HR0_5.out x3_1 p221 q221
        cases e221
        replace hx221_0 := pc_ HB hx221_0
        replace hx221_1 := pc_ HB hx221_1
        replace hx221_2 := pc_ HB hx221_2
        replace hx221_3 := pc_ HB hx221_3
        replace hx221_4 := pc_ HB hx221_4
        replace hx221_5 := pc_ HB hx221_5
        have HR221_3 := am hi221_3
        have HC221_3 := am hl221_3
        clear hi221_3 hl221_3
        have HR221_5 := am hi221_5
        have HC221_5 := am hl221_5
        clear hi221_5 hl221_5
        replace p221 := eq_true p221
        replace q221 := eq_true q221
        go_wp2_with (first | ((with_reducible refine gate_callee (f := 29) rfl ?_); refine goesL_ (some 17) rfl rfl Tryz.func29 (by kernel_rfl) rfl #[.agg #[.int .i64 ((rd_T31 l0_5 x3_1).f0), .int .i64 ((rd_T31 l0_5 x3_1).f1), .string ((rd_T31 l0_5 x3_1).f2), .slice A221_3 ((rd_T31 l0_5 x3_1).f3).length c221_3, .string ((rd_T31 l0_5 x3_1).f4), .slice A221_5 ((rd_T31 l0_5 x3_1).f5).length c221_5]] rfl ab5 ?_; (with_reducible refine (ih k1 (by have := HK1.out; omega) ((rd_T31 l0_5 x3_1).f0) ((rd_T31 l0_5 x3_1).f1) ((rd_T31 l0_5 x3_1).f2) _ _ ((rd_T31 l0_5 x3_1).f3) ((rd_T31 l0_5 x3_1).f4) _ _ ((rd_T31 l0_5 x3_1).f5) true _ ?side1 ?side2 ?side3 ?side4 A5.out).mono ?_); (case side1 => repeat (first | exact (Kd.C_below HR221_3.out HB.out) | (with_reducible refine Kd.C_alloc ?_ _) | (with_reducible refine Kd.C_drewN ?_ _) | (with_reducible refine Kd.C_drew ?_))); (case side2 => exact HC221_3.out); (case side3 => repeat (first | exact (Kd.C_below HR221_5.out HB.out) | (with_reducible refine Kd.C_alloc ?_ _) | (with_reducible refine Kd.C_drewN ?_ _) | (with_reducible refine Kd.C_drew ?_))); (case side4 => exact HC221_5.out); rintro e w14 ⟨rfl, hb⟩; refine ⟨_, rfl, ?_⟩; replace BK220 := bl_ BK220 hb; replace HB := am (below_step (ab2 GE220) hb); (try clear hb); (try clear hb2); (try clear hk); (try clear hi); obtain ⟨⟨_, _, _, _, _, _⟩, _, _, _, _, _, _⟩ := Op.cells6 BK220.out; have p223 : 0 ≤ (x3_1 : Int) := of_decide_eq_true ab4; have q223 : x3_1 < (l0_5.length : Int) := of_decide_eq_true ab4; obtain ⟨ad223, A223_3, c223_3, A223_5, c223_5, e223, hx223_0, hx223_1, hx223_2, hx223_3, hx223_4, hx223_5, hl223_3, hi223_3, hl223_5, hi223_5⟩ := at_T31 HR0_5.out x3_1 p223 q223; obtain rfl : ad221 = ad223 := (by injection e223); replace hx223_0 := pc_ HB hx223_0; replace hx223_1 := pc_ HB hx223_1; replace hx223_2 := pc_ HB hx223_2; replace hx223_3 := pc_ HB hx223_3; replace hx223_4 := pc_ HB hx223_4; replace hx223_5 := pc_ HB hx223_5; have HR223_3 := am hi223_3; have HC223_3 := am hl223_3; clear hi223_3 hl223_3; have HR223_5 := am hi223_5; have HC223_5 := am hl223_5; clear hi223_5 hl223_5; replace p223 := eq_true p223; replace q223 := eq_true q223; have p224 : 0 ≤ ((ji9) : Int) := of_decide_eq_true ab4; have q224 : (ji9) < (l0_5.length : Int) := of_decide_eq_true ab4; obtain ⟨ad224, A224_3, c224_3, A224_5, c224_5, e224, hx224_0, hx224_1, hx224_2, hx224_3, hx224_4, hx224_5, hl224_3, hi224_3, hl224_5, hi224_5⟩ := at_T31 HR0_5.out (ji9) p224 q224; obtain rfl : ad221 = ad224 := (by injection e224); replace hx224_0 := pc_ HB hx224_0; replace hx224_1 := pc_ HB hx224_1; replace hx224_2 := pc_ HB hx224_2; replace hx224_3 := pc_ HB hx224_3; replace hx224_4 := pc_ HB hx224_4; replace hx224_5 := pc_ HB hx224_5; have HR224_3 := am hi224_3; have HC224_3 := am hl224_3; clear hi224_3 hl224_3; have HR224_5 := am hi224_5; have HC224_5 := am hl224_5; clear hi224_5 hl224_5; replace p224 := eq_true p224; replace q224 := eq_true q224))
        go_ret
        exact ⟨by first | rfl | (simp [errW_none, errW_some] <;> rfl) | (simp only [← hji9]; first | rfl | (simp [errW_none, errW_some] <;> rfl)) | (simp [*, errW_none, errW_some] <;> rfl), ab2 GE220⟩
       ·have H' := am H
        clear H
        obtain ⟨⟨_, _, _, _, _, _⟩, _, _, _, _, _, _⟩ := Op.cells6 BK220.out
        have p221 : 0 ≤ (x3_1 : Int) := of_decide_eq_true ab4
        have q221 : x3_1 < (l0_5.length : Int) := of_decide_eq_true ab4
        obtain ⟨ad221, A221_3, c221_3, A221_5, c221_5, e221, hx221_0, hx221_1, hx221_2, hx221_3, hx221_4, hx221_5, hl221_3, hi221_3, hl221_5, hi221_5⟩ := at_T31 HR0_5.out x3_1 p221 q221
        cases e221
        replace hx221_0 := pc_ HB hx221_0
        replace hx221_1 := pc_ HB hx221_1
        replace hx221_2 := pc_ HB hx221_2
        replace hx221_3 := pc_ HB hx221_3
        replace hx221_4 := pc_ HB hx221_4
        replace hx221_5 := pc_ HB hx221_5
        have HR221_3 := am hi221_3
        have HC221_3 := am hl221_3
        clear hi221_3 hl221_3
        have HR221_5 := am hi221_5
        have HC221_5 := am hl221_5
        clear hi221_5 hl221_5
        replace p221 := eq_true p221
        replace q221 := eq_true q221
        go_wp2_with (first | ((with_reducible refine gate_callee (f := 29) rfl ?_); refine goesL_ (some 17) rfl rfl Tryz.func29 (by kernel_rfl) rfl #[.agg #[.int .i64 ((rd_T31 l0_5 x3_1).f0), .int .i64 ((rd_T31 l0_5 x3_1).f1), .string ((rd_T31 l0_5 x3_1).f2), .slice A221_3 ((rd_T31 l0_5 x3_1).f3).length c221_3, .string ((rd_T31 l0_5 x3_1).f4), .slice A221_5 ((rd_T31 l0_5 x3_1).f5).length c221_5]] rfl ab5 ?_; (with_reducible refine (ih k1 (by have := HK1.out; omega) ((rd_T31 l0_5 x3_1).f0) ((rd_T31 l0_5 x3_1).f1) ((rd_T31 l0_5 x3_1).f2) _ _ ((rd_T31 l0_5 x3_1).f3) ((rd_T31 l0_5 x3_1).f4) _ _ ((rd_T31 l0_5 x3_1).f5) true _ ?side1 ?side2 ?side3 ?side4 A5.out).mono ?_); (case side1 => repeat (first | exact (Kd.C_below HR221_3.out HB.out) | (with_reducible refine Kd.C_alloc ?_ _) | (with_reducible refine Kd.C_drewN ?_ _) | (with_reducible refine Kd.C_drew ?_))); (case side2 => exact HC221_3.out); (case side3 => repeat (first | exact (Kd.C_below HR221_5.out HB.out) | (with_reducible refine Kd.C_alloc ?_ _) | (with_reducible refine Kd.C_drewN ?_ _) | (with_reducible refine Kd.C_drew ?_))); (case side4 => exact HC221_5.out); rintro e w17 ⟨rfl, hb⟩; refine ⟨_, rfl, ?_⟩; replace BK220 := bl_ BK220 hb; replace HB := am (below_step (ab2 GE220) hb); (try clear hb); (try clear hb2); (try clear hk); (try clear hi); obtain ⟨⟨_, _, _, _, _, _⟩, _, _, _, _, _, _⟩ := Op.cells6 BK220.out; have p223 : 0 ≤ (x3_1 : Int) := of_decide_eq_true ab4; have q223 : x3_1 < (l0_5.length : Int) := of_decide_eq_true ab4; obtain ⟨ad223, A223_3, c223_3, A223_5, c223_5, e223, hx223_0, hx223_1, hx223_2, hx223_3, hx223_4, hx223_5, hl223_3, hi223_3, hl223_5, hi223_5⟩ := at_T31 HR0_5.out x3_1 p223 q223; obtain rfl : ad221 = ad223 := (by injection e223); replace hx223_0 := pc_ HB hx223_0; replace hx223_1 := pc_ HB hx223_1; replace hx223_2 := pc_ HB hx223_2; replace hx223_3 := pc_ HB hx223_3; replace hx223_4 := pc_ HB hx223_4; replace hx223_5 := pc_ HB hx223_5; have HR223_3 := am hi223_3; have HC223_3 := am hl223_3; clear hi223_3 hl223_3; have HR223_5 := am hi223_5; have HC223_5 := am hl223_5; clear hi223_5 hl223_5; replace p223 := eq_true p223; replace q223 := eq_true q223; have p224 : 0 ≤ ((ji9) : Int) := of_decide_eq_true ab4; have q224 : (ji9) < (l0_5.length : Int) := of_decide_eq_true ab4; obtain ⟨ad224, A224_3, c224_3, A224_5, c224_5, e224, hx224_0, hx224_1, hx224_2, hx224_3, hx224_4, hx224_5, hl224_3, hi224_3, hl224_5, hi224_5⟩ := at_T31 HR0_5.out (ji9) p224 q224; obtain rfl : ad221 = ad224 := (by injection e224); replace hx224_0 := pc_ HB hx224_0; replace hx224_1 := pc_ HB hx224_1; replace hx224_2 := pc_ HB hx224_2; replace hx224_3 := pc_ HB hx224_3; replace hx224_4 := pc_ HB hx224_4; replace hx224_5 := pc_ HB hx224_5; have HR224_3 := am hi224_3; have HC224_3 := am hl224_3; clear hi224_3 hl224_3; have HR224_5 := am hi224_5; have HC224_5 := am hl224_5; clear hi224_5 hl224_5; replace p224 := eq_true p224; replace q224 := eq_true q224))
        go_roundg k1
        case measure => have := HK1.out; omega
        case rel => exact ⟨(wrap64 (x3_1 + 1)), ab6, H', ⟨by have := HK1.out; omega⟩, ⟨ab3 BK220⟩, ⟨ab2 GE220⟩⟩
      ·have H' := am H
       clear H
       obtain ⟨⟨_, _, _, _, _, _⟩, _, _, _, _, _, _⟩ := Op.cells6 BK220.out
       have p221 : 0 ≤ (x3_1 : Int) := of_decide_eq_true ab4
       have q221 : x3_1 < (l0_5.length : Int) := of_decide_eq_true ab4
       obtain ⟨ad221, A221_3, c221_3, A221_5, c221_5, e221, hx221_0, hx221_1, hx221_2, hx221_3, hx221_4, hx221_5, hl221_3, hi221_3, hl221_5, hi221_5⟩ := at_T31 HR0_5.out x3_1 p221 q221
       cases e221
       replace hx221_0 := pc_ HB hx221_0
       replace hx221_1 := pc_ HB hx221_1
       replace hx221_2 := pc_ HB hx221_2
       replace hx221_3 := pc_ HB hx221_3
       replace hx221_4 := pc_ HB hx221_4
       replace hx221_5 := pc_ HB hx221_5
       have HR221_3 := am hi221_3
       have HC221_3 := am hl221_3
       clear hi221_3 hl221_3
       have HR221_5 := am hi221_5
       have HC221_5 := am hl221_5
       clear hi221_5 hl221_5
       replace p221 := eq_true p221
       replace q221 := eq_true q221
       go_wp2_with (first | ((with_reducible refine gate_callee (f := 29) rfl ?_); refine goesL_ (some 17) rfl rfl Tryz.func29 (by kernel_rfl) rfl #[.agg #[.int .i64 ((rd_T31 l0_5 x3_1).f0), .int .i64 ((rd_T31 l0_5 x3_1).f1), .string ((rd_T31 l0_5 x3_1).f2), .slice A221_3 ((rd_T31 l0_5 x3_1).f3).length c221_3, .string ((rd_T31 l0_5 x3_1).f4), .slice A221_5 ((rd_T31 l0_5 x3_1).f5).length c221_5]] rfl ab5 ?_; (with_reducible refine (ih k1 (by have := HK1.out; omega) ((rd_T31 l0_5 x3_1).f0) ((rd_T31 l0_5 x3_1).f1) ((rd_T31 l0_5 x3_1).f2) _ _ ((rd_T31 l0_5 x3_1).f3) ((rd_T31 l0_5 x3_1).f4) _ _ ((rd_T31 l0_5 x3_1).f5) true _ ?side1 ?side2 ?side3 ?side4 A5.out).mono ?_); (case side1 => repeat (first | exact (Kd.C_below HR221_3.out HB.out) | (with_reducible refine Kd.C_alloc ?_ _) | (with_reducible refine Kd.C_drewN ?_ _) | (with_reducible refine Kd.C_drew ?_))); (case side2 => exact HC221_3.out); (case side3 => repeat (first | exact (Kd.C_below HR221_5.out HB.out) | (with_reducible refine Kd.C_alloc ?_ _) | (with_reducible refine Kd.C_drewN ?_ _) | (with_reducible refine Kd.C_drew ?_))); (case side4 => exact HC221_5.out); rintro e w20 ⟨rfl, hb⟩; refine ⟨_, rfl, ?_⟩; replace BK220 := bl_ BK220 hb; replace HB := am (below_step (ab2 GE220) hb); (try clear hb); (try clear hb2); (try clear hk); (try clear hi); obtain ⟨⟨_, _, _, _, _, _⟩, _, _, _, _, _, _⟩ := Op.cells6 BK220.out; have p223 : 0 ≤ (x3_1 : Int) := of_decide_eq_true ab4; have q223 : x3_1 < (l0_5.length : Int) := of_decide_eq_true ab4; obtain ⟨ad223, A223_3, c223_3, A223_5, c223_5, e223, hx223_0, hx223_1, hx223_2, hx223_3, hx223_4, hx223_5, hl223_3, hi223_3, hl223_5, hi223_5⟩ := at_T31 HR0_5.out x3_1 p223 q223; obtain rfl : ad221 = ad223 := (by injection e223); replace hx223_0 := pc_ HB hx223_0; replace hx223_1 := pc_ HB hx223_1; replace hx223_2 := pc_ HB hx223_2; replace hx223_3 := pc_ HB hx223_3; replace hx223_4 := pc_ HB hx223_4; replace hx223_5 := pc_ HB hx223_5; have HR223_3 := am hi223_3; have HC223_3 := am hl223_3; clear hi223_3 hl223_3; have HR223_5 := am hi223_5; have HC223_5 := am hl223_5; clear hi223_5 hl223_5; replace p223 := eq_true p223; replace q223 := eq_true q223))
       go_roundg k1
       case measure => have := HK1.out; omega
       case rel => exact ⟨(wrap64 (x3_1 + 1)), ab6, H', ⟨by have := HK1.out; omega⟩, ⟨ab3 BK220⟩, ⟨ab2 GE220⟩⟩
     ·rw [if_neg c7] at H
      have c7b0 : decide (0 < x3_1) = false := decide_eq_false c7
      clear c7
      have H' := am H
      clear H
      obtain ⟨⟨_, _, _, _, _, _⟩, _, _, _, _, _, _⟩ := Op.cells6 BK220.out
      have p221 : 0 ≤ (x3_1 : Int) := of_decide_eq_true ab4
      have q221 : x3_1 < (l0_5.length : Int) := of_decide_eq_true ab4
      obtain ⟨ad221, A221_3, c221_3, A221_5, c221_5, e221, hx221_0, hx221_1, hx221_2, hx221_3, hx221_4, hx221_5, hl221_3, hi221_3, hl221_5, hi221_5⟩ := at_T31 HR0_5.out x3_1 p221 q221
      cases e221
      replace hx221_0 := pc_ HB hx221_0
      replace hx221_1 := pc_ HB hx221_1
      replace hx221_2 := pc_ HB hx221_2
      replace hx221_3 := pc_ HB hx221_3
      replace hx221_4 := pc_ HB hx221_4
      replace hx221_5 := pc_ HB hx221_5
      have HR221_3 := am hi221_3
      have HC221_3 := am hl221_3
      clear hi221_3 hl221_3
      have HR221_5 := am hi221_5
      have HC221_5 := am hl221_5
      clear hi221_5 hl221_5
      replace p221 := eq_true p221
      replace q221 := eq_true q221
      go_wp2_with (first | ((with_reducible refine gate_callee (f := 29) rfl ?_); refine goesL_ (some 17) rfl rfl Tryz.func29 (by kernel_rfl) rfl #[.agg #[.int .i64 ((rd_T31 l0_5 x3_1).f0), .int .i64 ((rd_T31 l0_5 x3_1).f1), .string ((rd_T31 l0_5 x3_1).f2), .slice A221_3 ((rd_T31 l0_5 x3_1).f3).length c221_3, .string ((rd_T31 l0_5 x3_1).f4), .slice A221_5 ((rd_T31 l0_5 x3_1).f5).length c221_5]] rfl ab5 ?_; (with_reducible refine (ih k1 (by have := HK1.out; omega) ((rd_T31 l0_5 x3_1).f0) ((rd_T31 l0_5 x3_1).f1) ((rd_T31 l0_5 x3_1).f2) _ _ ((rd_T31 l0_5 x3_1).f3) ((rd_T31 l0_5 x3_1).f4) _ _ ((rd_T31 l0_5 x3_1).f5) true _ ?side1 ?side2 ?side3 ?side4 A5.out).mono ?_); (case side1 => repeat (first | exact (Kd.C_below HR221_3.out HB.out) | (with_reducible refine Kd.C_alloc ?_ _) | (with_reducible refine Kd.C_drewN ?_ _) | (with_reducible refine Kd.C_drew ?_))); (case side2 => exact HC221_3.out); (case side3 => repeat (first | exact (Kd.C_below HR221_5.out HB.out) | (with_reducible refine Kd.C_alloc ?_ _) | (with_reducible refine Kd.C_drewN ?_ _) | (with_reducible refine Kd.C_drew ?_))); (case side4 => exact HC221_5.out); rintro e w23 ⟨rfl, hb⟩; refine ⟨_, rfl, ?_⟩; replace BK220 := bl_ BK220 hb; replace HB := am (below_step (ab2 GE220) hb); (try clear hb); (try clear hb2); (try clear hk); (try clear hi)))
      go_roundg k1
      case measure => have := HK1.out; omega
      case rel => exact ⟨(wrap64 (x3_1 + 1)), ab6, H', ⟨by have := HK1.out; omega⟩, ⟨ab3 BK220⟩, ⟨ab2 GE220⟩⟩
    ·obtain rfl := Option.some.inj H
     obtain ⟨⟨_, _, _, _, _, _⟩, _, _, _, _, _, _⟩ := Op.cells6 BK220.out
     have p221 : 0 ≤ (x3_1 : Int) := of_decide_eq_true ab4
     have q221 : x3_1 < (l0_5.length : Int) := of_decide_eq_true ab4
     obtain ⟨ad221, A221_3, c221_3, A221_5, c221_5, e221, hx221_0, hx221_1, hx221_2, hx221_3, hx221_4, hx221_5, hl221_3, hi221_3, hl221_5, hi221_5⟩ := at_T31 HR0_5.out x3_1 p221 q221
     cases e221
     replace hx221_0 := pc_ HB hx221_0
     replace hx221_1 := pc_ HB hx221_1
     replace hx221_2 := pc_ HB hx221_2
     replace hx221_3 := pc_ HB hx221_3
     replace hx221_4 := pc_ HB hx221_4
     replace hx221_5 := pc_ HB hx221_5
     have HR221_3 := am hi221_3
     have HC221_3 := am hl221_3
     clear hi221_3 hl221_3
     have HR221_5 := am hi221_5
     have HC221_5 := am hl221_5
     clear hi221_5 hl221_5
     replace p221 := eq_true p221
     replace q221 := eq_true q221
     go_wp2_with (first | ((with_reducible refine gate_callee (f := 29) rfl ?_); refine goesL_ (some 17) rfl rfl Tryz.func29 (by kernel_rfl) rfl #[.agg #[.int .i64 ((rd_T31 l0_5 x3_1).f0), .int .i64 ((rd_T31 l0_5 x3_1).f1), .string ((rd_T31 l0_5 x3_1).f2), .slice A221_3 ((rd_T31 l0_5 x3_1).f3).length c221_3, .string ((rd_T31 l0_5 x3_1).f4), .slice A221_5 ((rd_T31 l0_5 x3_1).f5).length c221_5]] rfl ab5 ?_; (with_reducible refine (ih k1 (by have := HK1.out; omega) ((rd_T31 l0_5 x3_1).f0) ((rd_T31 l0_5 x3_1).f1) ((rd_T31 l0_5 x3_1).f2) _ _ ((rd_T31 l0_5 x3_1).f3) ((rd_T31 l0_5 x3_1).f4) _ _ ((rd_T31 l0_5 x3_1).f5) false _ ?side1 ?side2 ?side3 ?side4 A5.out).mono ?_); (case side1 => repeat (first | exact (Kd.C_below HR221_3.out HB.out) | (with_reducible refine Kd.C_alloc ?_ _) | (with_reducible refine Kd.C_drewN ?_ _) | (with_reducible refine Kd.C_drew ?_))); (case side2 => exact HC221_3.out); (case side3 => repeat (first | exact (Kd.C_below HR221_5.out HB.out) | (with_reducible refine Kd.C_alloc ?_ _) | (with_reducible refine Kd.C_drewN ?_ _) | (with_reducible refine Kd.C_drew ?_))); (case side4 => exact HC221_5.out); rintro e w25 ⟨rfl, hb⟩; refine ⟨_, rfl, ?_⟩; replace BK220 := bl_ BK220 hb; replace HB := am (below_step (ab2 GE220) hb); (try clear hb); (try clear hb2); (try clear hk); (try clear hi)))
     go_ret
     exact ⟨ab7, ab2 GE220⟩
   ·have HC26 := am H
    clear H
    obtain ⟨⟨_, _, _, _, _, _⟩, _, _, _, _, _, _⟩ := Op.cells6 BK220.out
    go_upto_region 6 with (fail)
    go_cut [4] (fun v4 wc => ∃ (kq : Nat) (x4_25 : Bool), v4 = .bool x4_25 ∧ Aside0 (spec_l15El.j1 kq x4_25 a0_0 a0_1 a0_2 l0_3 a0_4 l0_5 = some r) ∧ Aside0 (kq ≤ k1) ∧ Aside0 (wc.heap[gb220]? = some (.cells #[.int .i64 a0_0, .int .i64 a0_1, .string a0_2, (.slice A0_3 l0_3.length c0_3), .string a0_4, (.slice A0_5 l0_5.length c0_5)] 31 (0, 0))) ∧ Aside0 (Below w.heap.size w wc))
    case first =>
     have H := HC26.out
     clear HC26
     replace H := ie_ H; rcases H with ⟨c28b0, c28b1, H⟩ | ⟨c28, c28b0, c28b1, H⟩
     ·(first | rw [c28b0] | (simp only [i64_w, i32_w]; rw [c28b0]) | skip)
      (try (generalize hgzc28 : (a0_1 == 0) = bqc28 at *; subst c28b0; have c28b0 := hgzc28; clear hgzc28))
      replace H := ie_ H; rcases H with ⟨c29b0, c29b1, H⟩ | ⟨c29, c29b0, c29b1, H⟩
      ·replace H := ie_ H; rcases H with ⟨c30b0, c30b1, H⟩ | ⟨c30, c30b0, c30b1, H⟩
       ·have H' := am H
        clear H
        obtain ⟨⟨_, _, _, _, _, _⟩, _, _, _, _, _, _⟩ := Op.cells6 BK220.out
        go_wp2
        first | go_meet | (subst hji9; go_meet)
        case rel => exact ⟨_, (((l0_5.length : Int) == 0)), ab6, (by first | exact H' | (rw [hji9]; exact H') | (have h_ := H'.out; rw [c28b0] at h_; exact ⟨h_⟩)), ⟨by have := HK1.out; first | omega | exact Nat.le_refl _⟩, ⟨ab3 BK220⟩, ⟨ab2 GE220⟩⟩
       ·have c30b2 : ¬ (l0_3 = []) := fun h_ => c30 (by rw [h_]; rfl)
        have H' := am H
        clear H
        obtain ⟨⟨_, _, _, _, _, _⟩, _, _, _, _, _, _⟩ := Op.cells6 BK220.out
        go_wp2
        first | go_meet | (subst hji9; go_meet)
        case rel => exact ⟨_, (false), ab6, (by first | exact H' | (rw [hji9]; exact H') | (have h_ := H'.out; rw [c28b0] at h_; exact ⟨h_⟩)), ⟨by have := HK1.out; first | omega | exact Nat.le_refl _⟩, ⟨ab3 BK220⟩, ⟨ab2 GE220⟩⟩
      ·have H' := am H
       clear H
       obtain ⟨⟨_, _, _, _, _, _⟩, _, _, _, _, _, _⟩ := Op.cells6 BK220.out
       go_wp2
       first | go_meet | (subst hji9; go_meet)
       case rel => exact ⟨_, (false), ab6, (by first | exact H' | (rw [hji9]; exact H') | (have h_ := H'.out; rw [c28b0] at h_; exact ⟨h_⟩)), ⟨by have := HK1.out; first | omega | exact Nat.le_refl _⟩, ⟨ab3 BK220⟩, ⟨ab2 GE220⟩⟩
     ·(first | rw [c28b0] | (simp only [i64_w, i32_w]; rw [c28b0]) | skip)
      (try (generalize hgzc28 : (a0_1 == 0) = bqc28 at *; subst c28b0; have c28b0 := hgzc28; clear hgzc28))
      have H' := am H
      clear H
      obtain ⟨⟨_, _, _, _, _, _⟩, _, _, _, _, _, _⟩ := Op.cells6 BK220.out
      go_wp2
      first | go_meet | (subst hji9; go_meet)
      case rel => exact ⟨_, (false), ab6, (by first | exact H' | (rw [hji9]; exact H') | (have h_ := H'.out; rw [c28b0] at h_; exact ⟨h_⟩)), ⟨by have := HK1.out; first | omega | exact Nat.le_refl _⟩, ⟨ab3 BK220⟩, ⟨ab2 GE220⟩⟩
    case rest =>
     clear HC26
     (try clear c1); (try clear c2); (try clear p2); (try clear q2); (try clear hx2); (try clear c3); (try clear c3b0); (try clear c4); (try clear c4b0); (try clear c6); (try clear p6); (try clear c7); (try clear c7b0); (try clear c8); (try clear c8b0); (try clear c8b1); (try clear c10); (try clear c10b0); (try clear c11); (try clear c11b0); (try clear c12); (try clear c12b0); (try clear c12b1); (try clear c22); (try clear p22); (try clear q22); (try clear hx22); (try clear c28); (try clear c28b0); (try clear c28b1); (try clear c29); (try clear c29b0); (try clear c29b1); (try clear c30); (try clear c30b0); (try clear c30b1); (try clear c30b2); (try clear hcz13_0); (try clear hcz13_1); (try clear hcz13_2); (try clear hcz13_3); (try clear hcz13_4); (try clear hcz13_5); (try clear hcz15_0); (try clear hcz15_1); (try clear hcz15_2); (try clear hcz15_3); (try clear hcz15_4); (try clear hcz15_5); (try clear hcz16_0); (try clear hcz16_1); (try clear hcz16_2); (try clear hcz16_3); (try clear hcz16_4); (try clear hcz16_5); (try clear hcz18_0); (try clear hcz18_1); (try clear hcz18_2); (try clear hcz18_3); (try clear hcz18_4); (try clear hcz18_5); (try clear hcz19_0); (try clear hcz19_1); (try clear hcz19_2); (try clear hcz19_3); (try clear hcz19_4); (try clear hcz19_5); (try clear hcz21_0); (try clear hcz21_1); (try clear hcz21_2); (try clear hcz21_3); (try clear hcz21_4); (try clear hcz21_5); (try clear hcz22_0); (try clear hcz22_1); (try clear hcz22_2); (try clear hcz22_3); (try clear hcz22_4); (try clear hcz22_5); (try clear hcz24_0); (try clear hcz24_1); (try clear hcz24_2); (try clear hcz24_3); (try clear hcz24_4); (try clear hcz24_5); (try clear hcz27_0); (try clear hcz27_1); (try clear hcz27_2); (try clear hcz27_3); (try clear hcz27_4); (try clear hcz27_5); (try clear hcz31_0); (try clear hcz31_1); (try clear hcz31_2); (try clear hcz31_3); (try clear hcz31_4); (try clear hcz31_5); (try clear hcz32_0); (try clear hcz32_1); (try clear hcz32_2); (try clear hcz32_3); (try clear hcz32_4); (try clear hcz32_5); (try clear hcz33_0); (try clear hcz33_1); (try clear hcz33_2); (try clear hcz33_3); (try clear hcz33_4); (try clear hcz33_5); (try clear hcz34_0); (try clear hcz34_1); (try clear hcz34_2); (try clear hcz34_3); (try clear hcz34_4); (try clear hcz34_5); (try clear hfz13_0); (try clear hfz13_1); (try clear hfz13_2); (try clear hfz13_3); (try clear hfz13_4); (try clear hfz13_5); (try clear hfz15_0); (try clear hfz15_1); (try clear hfz15_2); (try clear hfz15_3); (try clear hfz15_4); (try clear hfz15_5); (try clear hfz16_0); (try clear hfz16_1); (try clear hfz16_2); (try clear hfz16_3); (try clear hfz16_4); (try clear hfz16_5); (try clear hfz18_0); (try clear hfz18_1); (try clear hfz18_2); (try clear hfz18_3); (try clear hfz18_4); (try clear hfz18_5); (try clear hfz19_0); (try clear hfz19_1); (try clear hfz19_2); (try clear hfz19_3); (try clear hfz19_4); (try clear hfz19_5); (try clear hfz21_0); (try clear hfz21_1); (try clear hfz21_2); (try clear hfz21_3); (try clear hfz21_4); (try clear hfz21_5); (try clear hfz22_0); (try clear hfz22_1); (try clear hfz22_2); (try clear hfz22_3); (try clear hfz22_4); (try clear hfz22_5); (try clear hfz24_0); (try clear hfz24_1); (try clear hfz24_2); (try clear hfz24_3); (try clear hfz24_4); (try clear hfz24_5); (try clear hfz27_0); (try clear hfz27_1); (try clear hfz27_2); (try clear hfz27_3); (try clear hfz27_4); (try clear hfz27_5); (try clear hfz31_0); (try clear hfz31_1); (try clear hfz31_2); (try clear hfz31_3); (try clear hfz31_4); (try clear hfz31_5); (try clear hfz32_0); (try clear hfz32_1); (try clear hfz32_2); (try clear hfz32_3); (try clear hfz32_4); (try clear hfz32_5); (try clear hfz33_0); (try clear hfz33_1); (try clear hfz33_2); (try clear hfz33_3); (try clear hfz33_4); (try clear hfz33_5); (try clear hfz34_0); (try clear hfz34_1); (try clear hfz34_2); (try clear hfz34_3); (try clear hfz34_4); (try clear hfz34_5); (try clear hx221_0); (try clear hx221_1); (try clear hx221_2); (try clear hx221_3); (try clear hx221_4); (try clear hx221_5); (try clear hx223_0); (try clear hx223_1); (try clear hx223_2); (try clear hx223_3); (try clear hx223_4); (try clear hx223_5); (try clear hx224_0); (try clear hx224_1); (try clear hx224_2); (try clear hx224_3); (try clear hx224_4); (try clear hx224_5); (try clear p2); (try clear p221); (try clear p223); (try clear p224); (try clear q221); (try clear q223); (try clear q224)
     obtain ⟨kq, x4_25, rfl, HA, HJ25, BK220, HB⟩ := hcut
     cases kq with
     | zero => exact absurd HA.out (by simp [spec_l15El.j1])
     | succ kj25 =>
      have H := HA.out
      clear HA
      simp only [spec_l15El.j1] at H
      replace H := ie_ H; rcases H with ⟨c35b0, c35b1, H⟩ | ⟨c35, c35b0, c35b1, H⟩
      ·replace H := bi_ H; obtain ⟨t225, A36, H⟩ := H
       replace H := ib_ H; rcases H with ⟨rfl, H⟩ | ⟨rfl, H⟩
       ·replace H := bi_ H; obtain ⟨t226, A38, H⟩ := H
        replace H := ib_ H; rcases H with ⟨rfl, H⟩ | ⟨rfl, H⟩
        ·replace H := bi_ H; obtain ⟨t227, A40, H⟩ := H
         replace H := ib_ H; rcases H with ⟨rfl, H⟩ | ⟨rfl, H⟩
         ·obtain rfl := Option.some.inj H
          obtain ⟨⟨_, _, _, _, _, _⟩, _, _, _, _, _, _⟩ := Op.cells6 BK220.out
          go_wp2_with (first | ((with_reducible refine gf_ 42 ?_); refine gc_ Tryz.func42 (spec_l1In.calls a0_1 0 2 true _ A36.out) ?_; rintro w' ⟨nd, rfl⟩) | (go_at_call 43; (with_reducible refine (spec_NameOk.calls kj25 a0_2 true _ A38.out).mono ?_); rintro e w43 ⟨rfl, hb⟩; replace BK220 := bl_ BK220 hb; replace HB := am (below_step (ab2 GE220) hb); (try clear hb); (try clear hb2); (try clear hk); (try clear hi); obtain ⟨⟨_, _, _, _, _, _⟩, _, _, _, _, _, _⟩ := Op.cells6 BK220.out) | (go_at_call 44; (with_reducible refine (spec_l15Attrs.calls kj25 _ _ l0_3 true _ ?side1 ?side2 A40.out).mono ?_); (case side1 => repeat (first | exact (Kd.C_below HR0_3.out HB.out) | (with_reducible refine Kd.C_alloc ?_ _) | (with_reducible refine Kd.C_drewN ?_ _) | (with_reducible refine Kd.C_drew ?_))); (case side2 => exact HC0_3.out); rintro e w45 ⟨rfl, hb⟩; replace BK220 := bl_ BK220 hb; replace HB := am (below_step (ab2 GE220) hb); (try clear hb); (try clear hb2); (try clear hk); (try clear hi); obtain ⟨⟨_, _, _, _, _, _⟩, _, _, _, _, _, _⟩ := Op.cells6 BK220.out))
          go_ret
          exact ⟨ab7, ab2 GE220⟩
         ·obtain rfl := Option.some.inj H
          obtain ⟨⟨_, _, _, _, _, _⟩, _, _, _, _, _, _⟩ := Op.cells6 BK220.out
          go_wp2_with (first | ((with_reducible refine gf_ 42 ?_); refine gc_ Tryz.func42 (spec_l1In.calls a0_1 0 2 true _ A36.out) ?_; rintro w' ⟨nd, rfl⟩) | (go_at_call 43; (with_reducible refine (spec_NameOk.calls kj25 a0_2 true _ A38.out).mono ?_); rintro e w48 ⟨rfl, hb⟩; replace BK220 := bl_ BK220 hb; replace HB := am (below_step (ab2 GE220) hb); (try clear hb); (try clear hb2); (try clear hk); (try clear hi); obtain ⟨⟨_, _, _, _, _, _⟩, _, _, _, _, _, _⟩ := Op.cells6 BK220.out) | (go_at_call 44; (with_reducible refine (spec_l15Attrs.calls kj25 _ _ l0_3 false _ ?side1 ?side2 A40.out).mono ?_); (case side1 => repeat (first | exact (Kd.C_below HR0_3.out HB.out) | (with_reducible refine Kd.C_alloc ?_ _) | (with_reducible refine Kd.C_drewN ?_ _) | (with_reducible refine Kd.C_drew ?_))); (case side2 => exact HC0_3.out); rintro e w50 ⟨rfl, hb⟩; replace BK220 := bl_ BK220 hb; replace HB := am (below_step (ab2 GE220) hb); (try clear hb); (try clear hb2); (try clear hk); (try clear hi)))
          go_ret
          exact ⟨ab7, ab2 GE220⟩
        ·obtain rfl := Option.some.inj H
         obtain ⟨⟨_, _, _, _, _, _⟩, _, _, _, _, _, _⟩ := Op.cells6 BK220.out
         go_wp2_with (first | ((with_reducible refine gf_ 42 ?_); refine gc_ Tryz.func42 (spec_l1In.calls a0_1 0 2 true _ A36.out) ?_; rintro w' ⟨nd, rfl⟩) | (go_at_call 43; (with_reducible refine (spec_NameOk.calls kj25 a0_2 false _ A38.out).mono ?_); rintro e w52 ⟨rfl, hb⟩; replace BK220 := bl_ BK220 hb; replace HB := am (below_step (ab2 GE220) hb); (try clear hb); (try clear hb2); (try clear hk); (try clear hi)))
         go_ret
         exact ⟨ab7, ab2 GE220⟩
       ·obtain rfl := Option.some.inj H
        obtain ⟨⟨_, _, _, _, _, _⟩, _, _, _, _, _, _⟩ := Op.cells6 BK220.out
        go_wp2_with (first | ((with_reducible refine gf_ 42 ?_); refine gc_ Tryz.func42 (spec_l1In.calls a0_1 0 2 false _ A36.out) ?_; rintro w' ⟨nd, rfl⟩))
        go_ret
        exact ⟨ab7, ab2 GE220⟩
      ·replace H := ie_ H; rcases H with ⟨c54b0, c54b1, H⟩ | ⟨c54, c54b0, c54b1, H⟩
       ·replace H := ib_ H; rcases H with ⟨rfl, H⟩ | ⟨rfl, H⟩
        ·replace H := ie_ H; rcases H with ⟨c56b0, c56b1, H⟩ | ⟨c56, c56b0, c56b1, H⟩
         ·obtain rfl := Option.some.inj H
          obtain ⟨⟨_, _, _, _, _, _⟩, _, _, _, _, _, _⟩ := Op.cells6 BK220.out
          go_wp2
          go_ret
          exact ⟨ab7, ab2 GE220⟩
         ·replace H := bi_ H; obtain ⟨t228, A58, H⟩ := H
          obtain rfl := Option.some.inj H
          obtain ⟨⟨_, _, _, _, _, _⟩, _, _, _, _, _, _⟩ := Op.cells6 BK220.out
          go_wp2_with (first | (go_at_call 45; (with_reducible refine (spec_TextOk.calls kj25 a0_4 t228 _ A58.out).mono ?_); rintro e w60 ⟨rfl, hb⟩; replace BK220 := bl_ BK220 hb; replace HB := am (below_step (ab2 GE220) hb); (try clear hb); (try clear hb2); (try clear hk); (try clear hi)))
          go_ret
          exact ⟨ab7, ab2 GE220⟩
        ·obtain rfl := Option.some.inj H
         obtain ⟨⟨_, _, _, _, _, _⟩, _, _, _, _, _, _⟩ := Op.cells6 BK220.out
         go_wp2
         go_ret
         exact ⟨ab7, ab2 GE220⟩
       ·replace H := ie_ H; rcases H with ⟨c62b0, c62b1, H⟩ | ⟨c62, c62b0, c62b1, H⟩
        ·replace H := ib_ H; rcases H with ⟨rfl, H⟩ | ⟨rfl, H⟩
         ·replace H := bi_ H; obtain ⟨t229, A64, H⟩ := H
          obtain rfl := Option.some.inj H
          obtain ⟨⟨_, _, _, _, _, _⟩, _, _, _, _, _, _⟩ := Op.cells6 BK220.out
          go_wp2_with (first | (go_at_call 46; (with_reducible refine (spec_NoteOk.calls kj25 a0_4 t229 _ A64.out).mono ?_); rintro e w66 ⟨rfl, hb⟩; replace BK220 := bl_ BK220 hb; replace HB := am (below_step (ab2 GE220) hb); (try clear hb); (try clear hb2); (try clear hk); (try clear hi)))
          go_ret
          exact ⟨ab7, ab2 GE220⟩
         ·obtain rfl := Option.some.inj H
          obtain ⟨⟨_, _, _, _, _, _⟩, _, _, _, _, _, _⟩ := Op.cells6 BK220.out
          go_wp2
          go_ret
          exact ⟨ab7, ab2 GE220⟩
        ·obtain rfl := Option.some.inj H
         obtain ⟨⟨_, _, _, _, _, _⟩, _, _, _, _, _, _⟩ := Op.cells6 BK220.out
         go_wp2
         go_ret
         exact ⟨ab7, ab2 GE220⟩

end Go.Proofs.YthpdpnpojgegiaaGreatDoor.P
