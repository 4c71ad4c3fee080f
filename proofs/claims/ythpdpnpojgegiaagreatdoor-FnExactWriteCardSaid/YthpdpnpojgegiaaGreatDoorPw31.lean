-- WRITTEN BY hprint.py
import Derived.Test.YthpdpnpojgegiaaGreatDoorPw0
import Derived.Test.YthpdpnpojgegiaaGreatDoorPw11
import Derived.Test.YthpdpnpojgegiaaGreatDoorPw18
import Derived.Test.YthpdpnpojgegiaaGreatDoorPw23
import Derived.Test.YthpdpnpojgegiaaGreatDoorPw28
import Derived.Test.YthpdpnpojgegiaaGreatDoorPw30
namespace Go.Proofs.YthpdpnpojgegiaaGreatDoor.P
open Go.RowKit Go.Proofs.YthpdpnpojgegiaaGreatDoorW.PrintWords Go.Proofs.YthpdpnpojgegiaaGreatDoorW.PrintLast Go.Proofs.YthpdpnpojgegiaaGreatDoorW.PrintMore
attribute [local go_sem] max2_int min2_int max_two min_two max_three min_three max_four min_four
set_option linter.unusedVariables false
set_option linter.unusedSimpArgs false
set_option maxHeartbeats 8000000
set_option maxRecDepth 100000

/-! ### impl_elOk: function 33 -/
mutual
def impl_elOk.j1 : Nat → Int → Bool → Int → Int → ByteArray → List (S62) → ByteArray → List (S31) → Option (Bool)
 | 0, _, _, _, _, _, _, _, _ => none
 | k + 1, x1, x75, x384000, x384001, x384002, x384003, x384004, x384005 => if x75 = true then (some false) else (impl_elOk.l0 k x1 x384005 (x384005.length : Int) 0 x384000 x384001 x384002 x384003 x384004 x384005)
def impl_elOk.l0 : Nat → Int → List (S31) → Int → Int → Int → Int → ByteArray → List (S62) → ByteArray → List (S31) → Option (Bool)
 | 0, _, _, _, _, _, _, _, _, _, _ => none
 | k + 1, x1, x77, x78, x79, x384000, x384001, x384002, x384003, x384004, x384005 => if x79 < x78 then (if 0 ≤ x79 then (if x79 < (x77.length : Int) then ((impl_elOk.f k ((rd_T31 x77 x79).f0) ((rd_T31 x77 x79).f1) ((rd_T31 x77 x79).f2) ((rd_T31 x77 x79).f3) ((rd_T31 x77 x79).f4) ((rd_T31 x77 x79).f5) (wrap64 (x1 - 1))).bind fun t393 => (if t393 = true then (if x79 > 0 then (if ((rd_T31 x77 x79).f0) = 2 then (if 0 ≤ (wrap64 (x79 - 1)) then (if (wrap64 (x79 - 1)) < (x384005.length : Int) then (if ((rd_T31 x384005 (wrap64 (x79 - 1))).f0) = 2 then (some false) else (impl_elOk.l0 k x1 x77 x78 (wrap64 (x79 + 1)) x384000 x384001 x384002 x384003 x384004 x384005)) else (none)) else (none)) else (impl_elOk.l0 k x1 x77 x78 (wrap64 (x79 + 1)) x384000 x384001 x384002 x384003 x384004 x384005)) else (impl_elOk.l0 k x1 x77 x78 (wrap64 (x79 + 1)) x384000 x384001 x384002 x384003 x384004 x384005)) else (some false))) else (none)) else (none)) else (some true)
def impl_elOk.j0 : Nat → Bool → Int → Int → ByteArray → List (S62) → ByteArray → List (S31) → Option (Bool)
 | 0, _, _, _, _, _, _, _ => none
 | k + 1, x31, x384000, x384001, x384002, x384003, x384004, x384005 => if x31 = true then (some false) else (if x384000 = 2 then (if x384004.toList = ([] : List UInt8) then (if x384000 = 3 then ((impl_NoteOk.f k x384004).bind fun t384 => (some t384)) else (some false)) else ((impl_TextOk.f k x384004).bind fun t385 => (if t385 = true then (some true) else (if x384000 = 3 then ((impl_NoteOk.f k x384004).bind fun t386 => (some t386)) else (some false))))) else (if x384000 = 3 then ((impl_NoteOk.f k x384004).bind fun t387 => (some t387)) else (some false)))
def impl_elOk.f : Nat → Int → Int → ByteArray → List (S62) → ByteArray → List (S31) → Int → Option (Bool)
 | 0, _, _, _, _, _, _, _ => none
 | k + 1, a0_0, a0_1, a0_2, l0_3, a0_4, l0_5, a1 => if a1 < 1 then (some false) else (if a0_0 = 1 then ((impl_inRange.f a0_1 0 2).bind fun t388 => (if t388 = true then ((impl_NameOk.f k a0_2).bind fun t389 => (if t389 = true then ((impl_strictAttrs.f k l0_3).bind fun t390 => (if t390 = true then (impl_elOk.j1 k a1 (a0_4.toList != ([] : List UInt8)) a0_0 a0_1 a0_2 l0_3 a0_4 l0_5) else (impl_elOk.j1 k a1 true a0_0 a0_1 a0_2 l0_3 a0_4 l0_5))) else (impl_elOk.j1 k a1 true a0_0 a0_1 a0_2 l0_3 a0_4 l0_5))) else (impl_elOk.j1 k a1 true a0_0 a0_1 a0_2 l0_3 a0_4 l0_5))) else (if a0_1 = 0 then (if a0_2.toList = ([] : List UInt8) then (if (l0_3.length : Int) > 0 then (impl_elOk.j0 k true a0_0 a0_1 a0_2 l0_3 a0_4 l0_5) else (impl_elOk.j0 k (decide ((l0_5.length : Int) > 0)) a0_0 a0_1 a0_2 l0_3 a0_4 l0_5)) else (impl_elOk.j0 k true a0_0 a0_1 a0_2 l0_3 a0_4 l0_5)) else (impl_elOk.j0 k true a0_0 a0_1 a0_2 l0_3 a0_4 l0_5)))
end
theorem impl_elOk.mono_l : ∀ k, (∀ y0 y1 y2 y3 y4 y5 y6, LeO (impl_elOk.f k y0 y1 y2 y3 y4 y5 y6) (impl_elOk.f (k + 1) y0 y1 y2 y3 y4 y5 y6)) ∧ (∀ y0 y1 y2 y3 y4 y5 y6 y7, LeO (impl_elOk.j1 k y0 y1 y2 y3 y4 y5 y6 y7) (impl_elOk.j1 (k + 1) y0 y1 y2 y3 y4 y5 y6 y7)) ∧ (∀ y0 y1 y2 y3 y4 y5 y6 y7 y8 y9, LeO (impl_elOk.l0 k y0 y1 y2 y3 y4 y5 y6 y7 y8 y9) (impl_elOk.l0 (k + 1) y0 y1 y2 y3 y4 y5 y6 y7 y8 y9)) ∧ (∀ y0 y1 y2 y3 y4 y5 y6, LeO (impl_elOk.j0 k y0 y1 y2 y3 y4 y5 y6) (impl_elOk.j0 (k + 1) y0 y1 y2 y3 y4 y5 y6))
 | 0 => ⟨fun _ _ _ _ _ _ _ r h => by simp [impl_elOk.f] at h, fun _ _ _ _ _ _ _ _ r h => by simp [impl_elOk.j1] at h, fun _ _ _ _ _ _ _ _ _ _ r h => by simp [impl_elOk.l0] at h, fun _ _ _ _ _ _ _ r h => by simp [impl_elOk.j0] at h⟩
 | k + 1 => by
  obtain ⟨ih0, ih1, ih2, ih3⟩ := impl_elOk.mono_l k
  refine ⟨?_, ?_, ?_, ?_⟩
  ·intro y0 y1 y2 y3 y4 y5 y6
   unfold impl_elOk.f
   repeat' with_reducible first | exact ih0 _ _ _ _ _ _ _ | exact ih1 _ _ _ _ _ _ _ _ | exact ih2 _ _ _ _ _ _ _ _ _ _ | exact ih3 _ _ _ _ _ _ _ | exact impl_NameOk.mono _ _ | exact impl_NoteOk.mono _ _ | exact impl_TextOk.mono _ _ | exact impl_strictAttrs.mono _ _ | exact LeO.refl _ | exact LeO.none _ | refine LeO.ite ?_ ?_ | refine LeO.bind ?_ fun _ => ?_
  ·intro y0 y1 y2 y3 y4 y5 y6 y7
   unfold impl_elOk.j1
   repeat' with_reducible first | exact ih0 _ _ _ _ _ _ _ | exact ih1 _ _ _ _ _ _ _ _ | exact ih2 _ _ _ _ _ _ _ _ _ _ | exact ih3 _ _ _ _ _ _ _ | exact impl_NameOk.mono _ _ | exact impl_NoteOk.mono _ _ | exact impl_TextOk.mono _ _ | exact impl_strictAttrs.mono _ _ | exact LeO.refl _ | exact LeO.none _ | refine LeO.ite ?_ ?_ | refine LeO.bind ?_ fun _ => ?_
  ·intro y0 y1 y2 y3 y4 y5 y6 y7 y8 y9
   unfold impl_elOk.l0
   repeat' with_reducible first | exact ih0 _ _ _ _ _ _ _ | exact ih1 _ _ _ _ _ _ _ _ | exact ih2 _ _ _ _ _ _ _ _ _ _ | exact ih3 _ _ _ _ _ _ _ | exact impl_NameOk.mono _ _ | exact impl_NoteOk.mono _ _ | exact impl_TextOk.mono _ _ | exact impl_strictAttrs.mono _ _ | exact LeO.refl _ | exact LeO.none _ | refine LeO.ite ?_ ?_ | refine LeO.bind ?_ fun _ => ?_
  ·intro y0 y1 y2 y3 y4 y5 y6
   unfold impl_elOk.j0
   repeat' with_reducible first | exact ih0 _ _ _ _ _ _ _ | exact ih1 _ _ _ _ _ _ _ _ | exact ih2 _ _ _ _ _ _ _ _ _ _ | exact ih3 _ _ _ _ _ _ _ | exact impl_NameOk.mono _ _ | exact impl_NoteOk.mono _ _ | exact impl_TextOk.mono _ _ | exact impl_strictAttrs.mono _ _ | exact LeO.refl _ | exact LeO.none _ | refine LeO.ite ?_ ?_ | refine LeO.bind ?_ fun _ => ?_
theorem impl_elOk.mono : ∀ a0 a1 a2 a3 a4 a5 a6 k, LeO (impl_elOk.f k a0 a1 a2 a3 a4 a5 a6) (impl_elOk.f (k + 1) a0 a1 a2 a3 a4 a5 a6) := by
 intro a0 a1 a2 a3 a4 a5 a6 k
 obtain ⟨ih0, ih1, ih2, ih3⟩ := impl_elOk.mono_l k
 exact ih0 a0 a1 a2 a3 a4 a5 a6
theorem impl_elOk.calls (k : Nat) : ∀ (a0_0 : Int) (a0_1 : Int) (a0_2 : ByteArray) (A0_3 : Option Addr) (c0_3 : Nat) (l0_3 : List (S62)) (a0_4 : ByteArray) (A0_5 : Option Addr) (c0_5 : Nat) (l0_5 : List (S31)) (a1 : Int) (r : Bool) (w : World) (hr0_3 : Kd.C k62 w A0_3 l0_3.length l0_3) (hc0_3 : l0_3.length ≤ c0_3) (hr0_5 : Kd.C k31 w A0_5 l0_5.length l0_5) (hc0_5 : l0_5.length ≤ c0_5) (M_ : Int) (hm_ : w.cell? ⟨0, 0, none⟩ = some (.int .i64 M_)) (h : impl_elOk.f k a0_0 a0_1 a0_2 l0_3 a0_4 l0_5 a1 = some r),
  Calls Tryz.prog 33 #[.agg #[.int .i64 a0_0, .int .i64 a0_1, .string a0_2, .slice A0_3 l0_3.length c0_3, .string a0_4, .slice A0_5 l0_5.length c0_5], .int .i64 a1] w fun e w' => e = .returned (.bool r) ∧ Below w.heap.size w w' := by
 induction k using Nat.strongRecOn with
 | _ k ih =>
 intro a0_0 a0_1 a0_2 A0_3 c0_3 l0_3 a0_4 A0_5 c0_5 l0_5 a1 r w hr0_3 hc0_3 hr0_5 hc0_5 M_ hm_ h
 cases k with
 | zero => exact absurd h (by simp [impl_elOk.f])
 | succ k =>
 simp only [impl_elOk.f] at h
 have hu31 := Tryz.underlying31
 have HR0_3 := am hr0_3
 have HC0_3 := am hc0_3
 clear hr0_3 hc0_3
 have HR0_5 := am hr0_5
 have HC0_5 := am hc0_5
 clear hr0_5 hc0_5
 have HB := am (Below.refl w.heap.size w)
 have HM_ := am hm_
 clear hm_
 have H : (if a1 < 1 then (some false) else (if a0_0 = 1 then ((impl_inRange.f a0_1 0 2).bind fun t388 => (if t388 = true then ((impl_NameOk.f k a0_2).bind fun t389 => (if t389 = true then ((impl_strictAttrs.f k l0_3).bind fun t390 => (if t390 = true then (impl_elOk.j1 k a1 (a0_4.toList != ([] : List UInt8)) a0_0 a0_1 a0_2 l0_3 a0_4 l0_5) else (impl_elOk.j1 k a1 true a0_0 a0_1 a0_2 l0_3 a0_4 l0_5))) else (impl_elOk.j1 k a1 true a0_0 a0_1 a0_2 l0_3 a0_4 l0_5))) else (impl_elOk.j1 k a1 true a0_0 a0_1 a0_2 l0_3 a0_4 l0_5))) else (if a0_1 = 0 then (if a0_2.toList = ([] : List UInt8) then (if (l0_3.length : Int) > 0 then (impl_elOk.j0 k true a0_0 a0_1 a0_2 l0_3 a0_4 l0_5) else (impl_elOk.j0 k (decide ((l0_5.length : Int) > 0)) a0_0 a0_1 a0_2 l0_3 a0_4 l0_5)) else (impl_elOk.j0 k true a0_0 a0_1 a0_2 l0_3 a0_4 l0_5)) else (impl_elOk.j0 k true a0_0 a0_1 a0_2 l0_3 a0_4 l0_5)))) = some r := h
 clear h
 replace H := ir_ H; rcases H with ⟨c3b0, H⟩ | ⟨c3b0, H⟩
 ·obtain rfl := Option.some.inj H
  go_enter Tryz.func33, Tryz.ntmps33
  go_wp2_with (first | ((with_reducible refine gd_ 2 ?_); (try (refine gate_guard (by rfl) ?_; dsimp only)); refine bx_ 2 (cs := #[.int .i64 a0_0, .int .i64 a0_1, .string a0_2, .slice A0_3 l0_3.length c0_3, .string a0_4, .slice A0_5 l0_5.length c0_5]) 31 ?_; intro gb383 hg w4 hbox hb; have BK383 := am hbox; have GW383 := ge_ (w := w) hg; have GE383 := ge_ (w := w) hg; replace HB := am (below_step ab1 hb); clear hb hbox hg))
  go_ret
  exact ⟨ab7, ab2 GE383⟩
 ·replace H := ie_ H; rcases H with ⟨c5b0, c5b1, H⟩ | ⟨c5, c5b0, c5b1, H⟩
  ·have HC6 := am H
   clear H
   go_enter Tryz.func33, Tryz.ntmps33
   go_upto_region 7 with (first | ((with_reducible refine gd_ 2 ?_); (try (refine gate_guard (by rfl) ?_; dsimp only)); refine bx_ 2 (cs := #[.int .i64 a0_0, .int .i64 a0_1, .string a0_2, .slice A0_3 l0_3.length c0_3, .string a0_4, .slice A0_5 l0_5.length c0_5]) 31 ?_; intro gb383 hg w7 hbox hb; have BK383 := am hbox; have GW383 := ge_ (w := w) hg; have GE383 := ge_ (w := w) hg; replace HB := am (below_step ab1 hb); clear hb hbox hg; obtain ⟨⟨_, _, _, _, _, _⟩, _, _, _, _, _, _⟩ := Op.cells6 BK383.out))
   (try simp only [Act.put, List.setIfInBounds_toArray, List.set_cons_zero, List.set_cons_succ])
   go_cut [75] (fun v75 wc => ∃ (kq : Nat) (x75_5 : Bool), v75 = .bool x75_5 ∧ Aside0 (impl_elOk.j1 kq a1 x75_5 a0_0 a0_1 a0_2 l0_3 a0_4 l0_5 = some r) ∧ Aside0 (kq ≤ k) ∧ Aside0 (wc.heap[gb383]? = some (.cells #[.int .i64 a0_0, .int .i64 a0_1, .string a0_2, (.slice A0_3 l0_3.length c0_3), .string a0_4, (.slice A0_5 l0_5.length c0_5)] 31 (0, 0))) ∧ Aside0 (Below w.heap.size w wc))
   case first =>
    have H := HC6.out
    clear HC6
    replace H := bi_ H; obtain ⟨t388, A9, H⟩ := H
    replace H := ib_ H; rcases H with ⟨rfl, H⟩ | ⟨rfl, H⟩
    ·replace H := bi_ H; obtain ⟨t389, A11, H⟩ := H
     replace H := ib_ H; rcases H with ⟨rfl, H⟩ | ⟨rfl, H⟩
     ·replace H := bi_ H; obtain ⟨t390, A13, H⟩ := H
      replace H := ib_ H; rcases H with ⟨rfl, H⟩ | ⟨rfl, H⟩
      ·have H' := am H
       clear H
       obtain ⟨⟨_, _, _, _, _, _⟩, _, _, _, _, _, _⟩ := Op.cells6 BK383.out
       go_wp2_with (first | ((with_reducible refine gf_ 50 ?_); refine gc_ Tryz.func50 (impl_inRange.calls a0_1 0 2 true _ A9.out) ?_; rintro w' ⟨nd, rfl⟩) | (go_at_call 51; (with_reducible refine (impl_NameOk.calls k a0_2 true _ A11.out).mono ?_); rintro e w16 ⟨rfl, hb⟩; replace BK383 := bl_ BK383 hb; replace HB := am (below_step (ab2 GE383) hb); (try clear hb); (try clear hb2); (try clear hk); (try clear hi); obtain ⟨⟨_, _, _, _, _, _⟩, _, _, _, _, _, _⟩ := Op.cells6 BK383.out) | (go_at_call 52; (with_reducible refine (impl_strictAttrs.calls k _ _ l0_3 true _ ?side1 ?side2 A13.out).mono ?_); (case side1 => repeat (first | exact (Kd.C_below HR0_3.out HB.out) | (with_reducible refine Kd.C_alloc ?_ _) | (with_reducible refine Kd.C_drewN ?_ _) | (with_reducible refine Kd.C_drew ?_))); (case side2 => exact HC0_3.out); rintro e w18 ⟨rfl, hb⟩; replace BK383 := bl_ BK383 hb; replace HB := am (below_step (ab2 GE383) hb); (try clear hb); (try clear hb2); (try clear hk); (try clear hi); obtain ⟨⟨_, _, _, _, _, _⟩, _, _, _, _, _, _⟩ := Op.cells6 BK383.out))
       first | go_meet | (subst hji36; go_meet)
       case rel => exact ⟨_, ((a0_4.toList != ([] : List UInt8))), (by first | rfl | (simp; done) | (simp [*]; done) | exact congrArg Value.bool (Op.bne_nil _).symm), H', ⟨by first | omega | exact Nat.le_refl _⟩, ⟨ab3 BK383⟩, ⟨ab2 GE383⟩⟩
      ·have H' := am H
       clear H
       obtain ⟨⟨_, _, _, _, _, _⟩, _, _, _, _, _, _⟩ := Op.cells6 BK383.out
       go_wp2_with (first | ((with_reducible refine gf_ 50 ?_); refine gc_ Tryz.func50 (impl_inRange.calls a0_1 0 2 true _ A9.out) ?_; rintro w' ⟨nd, rfl⟩) | (go_at_call 51; (with_reducible refine (impl_NameOk.calls k a0_2 true _ A11.out).mono ?_); rintro e w21 ⟨rfl, hb⟩; replace BK383 := bl_ BK383 hb; replace HB := am (below_step (ab2 GE383) hb); (try clear hb); (try clear hb2); (try clear hk); (try clear hi); obtain ⟨⟨_, _, _, _, _, _⟩, _, _, _, _, _, _⟩ := Op.cells6 BK383.out) | (go_at_call 52; (with_reducible refine (impl_strictAttrs.calls k _ _ l0_3 false _ ?side1 ?side2 A13.out).mono ?_); (case side1 => repeat (first | exact (Kd.C_below HR0_3.out HB.out) | (with_reducible refine Kd.C_alloc ?_ _) | (with_reducible refine Kd.C_drewN ?_ _) | (with_reducible refine Kd.C_drew ?_))); (case side2 => exact HC0_3.out); rintro e w23 ⟨rfl, hb⟩; replace BK383 := bl_ BK383 hb; replace HB := am (below_step (ab2 GE383) hb); (try clear hb); (try clear hb2); (try clear hk); (try clear hi)))
       first | go_meet | (subst hji36; go_meet)
       case rel => exact ⟨_, (true), ab6, H', ⟨by first | omega | exact Nat.le_refl _⟩, ⟨ab3 BK383⟩, ⟨ab2 GE383⟩⟩
     ·have H' := am H
      clear H
      obtain ⟨⟨_, _, _, _, _, _⟩, _, _, _, _, _, _⟩ := Op.cells6 BK383.out
      go_wp2_with (first | ((with_reducible refine gf_ 50 ?_); refine gc_ Tryz.func50 (impl_inRange.calls a0_1 0 2 true _ A9.out) ?_; rintro w' ⟨nd, rfl⟩) | (go_at_call 51; (with_reducible refine (impl_NameOk.calls k a0_2 false _ A11.out).mono ?_); rintro e w25 ⟨rfl, hb⟩; replace BK383 := bl_ BK383 hb; replace HB := am (below_step (ab2 GE383) hb); (try clear hb); (try clear hb2); (try clear hk); (try clear hi)))
      first | go_meet | (subst hji36; go_meet)
      case rel => exact ⟨_, (true), ab6, H', ⟨by first | omega | exact Nat.le_refl _⟩, ⟨ab3 BK383⟩, ⟨ab2 GE383⟩⟩
    ·have H' := am H
     clear H
     obtain ⟨⟨_, _, _, _, _, _⟩, _, _, _, _, _, _⟩ := Op.cells6 BK383.out
     go_wp2_with (first | ((with_reducible refine gf_ 50 ?_); refine gc_ Tryz.func50 (impl_inRange.calls a0_1 0 2 false _ A9.out) ?_; rintro w' ⟨nd, rfl⟩))
     first | go_meet | (subst hji36; go_meet)
     case rel => exact ⟨_, (true), ab6, H', ⟨by first | omega | exact Nat.le_refl _⟩, ⟨ab3 BK383⟩, ⟨ab2 GE383⟩⟩
   case rest =>
    clear HC6
    (try clear c1); (try clear p2); (try clear c3); (try clear c3b0); (try clear c5); (try clear c5b0); (try clear c5b1); (try clear c10); (try clear c12); (try clear c14); (try clear hcz15_0); (try clear hcz15_1); (try clear hcz15_2); (try clear hcz15_3); (try clear hcz15_4); (try clear hcz15_5); (try clear hcz17_0); (try clear hcz17_1); (try clear hcz17_2); (try clear hcz17_3); (try clear hcz17_4); (try clear hcz17_5); (try clear hcz19_0); (try clear hcz19_1); (try clear hcz19_2); (try clear hcz19_3); (try clear hcz19_4); (try clear hcz19_5); (try clear hcz20_0); (try clear hcz20_1); (try clear hcz20_2); (try clear hcz20_3); (try clear hcz20_4); (try clear hcz20_5); (try clear hcz22_0); (try clear hcz22_1); (try clear hcz22_2); (try clear hcz22_3); (try clear hcz22_4); (try clear hcz22_5); (try clear hcz24_0); (try clear hcz24_1); (try clear hcz24_2); (try clear hcz24_3); (try clear hcz24_4); (try clear hcz24_5); (try clear hcz26_0); (try clear hcz26_1); (try clear hcz26_2); (try clear hcz26_3); (try clear hcz26_4); (try clear hcz26_5); (try clear hcz8_0); (try clear hcz8_1); (try clear hcz8_2); (try clear hcz8_3); (try clear hcz8_4); (try clear hcz8_5); (try clear hfz15_0); (try clear hfz15_1); (try clear hfz15_2); (try clear hfz15_3); (try clear hfz15_4); (try clear hfz15_5); (try clear hfz17_0); (try clear hfz17_1); (try clear hfz17_2); (try clear hfz17_3); (try clear hfz17_4); (try clear hfz17_5); (try clear hfz19_0); (try clear hfz19_1); (try clear hfz19_2); (try clear hfz19_3); (try clear hfz19_4); (try clear hfz19_5); (try clear hfz20_0); (try clear hfz20_1); (try clear hfz20_2); (try clear hfz20_3); (try clear hfz20_4); (try clear hfz20_5); (try clear hfz22_0); (try clear hfz22_1); (try clear hfz22_2); (try clear hfz22_3); (try clear hfz22_4); (try clear hfz22_5); (try clear hfz24_0); (try clear hfz24_1); (try clear hfz24_2); (try clear hfz24_3); (try clear hfz24_4); (try clear hfz24_5); (try clear hfz26_0); (try clear hfz26_1); (try clear hfz26_2); (try clear hfz26_3); (try clear hfz26_4); (try clear hfz26_5); (try clear hfz8_0); (try clear hfz8_1); (try clear hfz8_2); (try clear hfz8_3); (try clear hfz8_4); (try clear hfz8_5)
    obtain ⟨kq, x75_5, rfl, HA, HJ5, BK383, HB⟩ := hcut
    cases kq with
    | zero => exact absurd HA.out (by simp [impl_elOk.j1])
    | succ kj5 =>
     have H := HA.out
     clear HA
     simp only [impl_elOk.j1] at H
     replace H := ib_ H; rcases H with ⟨rfl, H⟩ | ⟨rfl, H⟩
     ·obtain rfl := Option.some.inj H
      go_wp2
      go_ret
      exact ⟨ab7, ab2 GE383⟩
     ·have H' := am H
      clear H
      obtain ⟨⟨_, _, _, _, _, _⟩, _, _, _, _, _, _⟩ := Op.cells6 BK383.out
      go_wp2
      go_loopg [79] kj5 (fun kq v79 w' => ∃ (x79_2 : Int), v79 = .int .i64 x79_2 ∧ Aside0 (impl_elOk.l0 kq a1 l0_5 (l0_5.length : Int) x79_2 a0_0 a0_1 a0_2 l0_3 a0_4 l0_5 = some r) ∧ Aside0 (kq ≤ kj5) ∧ Aside0 (w'.heap[gb383]? = some (.cells #[.int .i64 a0_0, .int .i64 a0_1, .string a0_2, (.slice A0_3 l0_3.length c0_3), .string a0_4, (.slice A0_5 l0_5.length c0_5)] 31 (0, 0))) ∧ Aside0 (Below w.heap.size w w'))
      case atStart => exact ⟨(0), ab6, H', ⟨Nat.le_refl _⟩, ⟨ab3 BK383⟩, ⟨ab2 GE383⟩⟩
      case round =>
       clear H'
       (try clear c1); (try clear c2); (try clear p2); (try clear c3); (try clear c3b0); (try clear c5); (try clear c5b0); (try clear c5b1); (try clear c10); (try clear c12); (try clear c14); (try clear c27); (try clear hcz15_0); (try clear hcz15_1); (try clear hcz15_2); (try clear hcz15_3); (try clear hcz15_4); (try clear hcz15_5); (try clear hcz17_0); (try clear hcz17_1); (try clear hcz17_2); (try clear hcz17_3); (try clear hcz17_4); (try clear hcz17_5); (try clear hcz19_0); (try clear hcz19_1); (try clear hcz19_2); (try clear hcz19_3); (try clear hcz19_4); (try clear hcz19_5); (try clear hcz20_0); (try clear hcz20_1); (try clear hcz20_2); (try clear hcz20_3); (try clear hcz20_4); (try clear hcz20_5); (try clear hcz22_0); (try clear hcz22_1); (try clear hcz22_2); (try clear hcz22_3); (try clear hcz22_4); (try clear hcz22_5); (try clear hcz24_0); (try clear hcz24_1); (try clear hcz24_2); (try clear hcz24_3); (try clear hcz24_4); (try clear hcz24_5); (try clear hcz26_0); (try clear hcz26_1); (try clear hcz26_2); (try clear hcz26_3); (try clear hcz26_4); (try clear hcz26_5); (try clear hcz28_0); (try clear hcz28_1); (try clear hcz28_2); (try clear hcz28_3); (try clear hcz28_4); (try clear hcz28_5); (try clear hcz8_0); (try clear hcz8_1); (try clear hcz8_2); (try clear hcz8_3); (try clear hcz8_4); (try clear hcz8_5); (try clear hfz15_0); (try clear hfz15_1); (try clear hfz15_2); (try clear hfz15_3); (try clear hfz15_4); (try clear hfz15_5); (try clear hfz17_0); (try clear hfz17_1); (try clear hfz17_2); (try clear hfz17_3); (try clear hfz17_4); (try clear hfz17_5); (try clear hfz19_0); (try clear hfz19_1); (try clear hfz19_2); (try clear hfz19_3); (try clear hfz19_4); (try clear hfz19_5); (try clear hfz20_0); (try clear hfz20_1); (try clear hfz20_2); (try clear hfz20_3); (try clear hfz20_4); (try clear hfz20_5); (try clear hfz22_0); (try clear hfz22_1); (try clear hfz22_2); (try clear hfz22_3); (try clear hfz22_4); (try clear hfz22_5); (try clear hfz24_0); (try clear hfz24_1); (try clear hfz24_2); (try clear hfz24_3); (try clear hfz24_4); (try clear hfz24_5); (try clear hfz26_0); (try clear hfz26_1); (try clear hfz26_2); (try clear hfz26_3); (try clear hfz26_4); (try clear hfz26_5); (try clear hfz28_0); (try clear hfz28_1); (try clear hfz28_2); (try clear hfz28_3); (try clear hfz28_4); (try clear hfz28_5); (try clear hfz8_0); (try clear hfz8_1); (try clear hfz8_2); (try clear hfz8_3); (try clear hfz8_4); (try clear hfz8_5); (try clear p2)
       obtain ⟨x79_2, rfl, HA, HK2, BK383, HB⟩ := hrel
       cases gk with
       | zero => exact absurd HA.out (by simp [impl_elOk.l0])
       | succ k2 =>
        have H := HA.out
        clear HA
        simp only [impl_elOk.l0] at H
        replace H := ir_ H; rcases H with ⟨c29b0, H⟩ | ⟨c29b0, H⟩
        ·replace H := iq_ H; obtain ⟨c30b0, H⟩ := H
         replace H := iq_ H; obtain ⟨c31b0, H⟩ := H
         replace H := bi_ H; obtain ⟨t393, A32, H⟩ := H
         replace H := ib_ H; rcases H with ⟨rfl, H⟩ | ⟨rfl, H⟩
         ·by_cases c34 : x79_2 > 0
          ·rw [if_pos c34] at H
           have c34b0 : decide (0 < x79_2) = true := decide_eq_true c34
           clear c34
           replace H := ie_ H; rcases H with ⟨c35b0, c35b1, H⟩ | ⟨c35, c35b0, c35b1, H⟩
           ·obtain ⟨ji36, hji36⟩ : ∃ j_ : Int, (wrap64 (x79_2 - 1)) = j_ := ⟨_, rfl⟩
            replace H : (if 0 ≤ (ji36) then (if (ji36) < (l0_5.length : Int) then (if ((rd_T31 l0_5 (ji36)).f0) = 2 then (some false) else (impl_elOk.l0 k2 a1 l0_5 (l0_5.length : Int) (wrap64 (x79_2 + 1)) a0_0 a0_1 a0_2 l0_3 a0_4 l0_5)) else (none)) else (none)) = some r := by first | (rw [hji36] at H; exact H) | (simp only [hji36] at H ⊢; exact H)
            (try rw [hji36] at A32)
            have hji36w : (IntKind.i64.wrap (x79_2 - 1)) = ji36 := (i64_w _).trans hji36
            replace H := iq_ H; obtain ⟨c37b0, H⟩ := H
            replace H := iq_ H; obtain ⟨c38b0, H⟩ := H
            replace H := ie_ H; rcases H with ⟨c39b0, c39b1, H⟩ | ⟨c39, c39b0, c39b1, H⟩
            ·obtain rfl := Option.some.inj H
             have p391 : 0 ≤ (x79_2 : Int) := of_decide_eq_true ab4
             have q391 : x79_2 < (l0_5.length : Int) := of_decide_eq_true ab4
             obtain ⟨ad391, A391_3, c391_3, A391_5, c391_5, e391, hx391_0, hx391_1, hx391_2, hx391_3, hx391_4, hx391_5, hl391_3, hi391_3, hl391_5, hi391_5⟩ := at_T31 HR0_5.out x79_2 p391 q391
             cases e391
             replace hx391_0 := pc_ HB hx391_0
             replace hx391_1 := pc_ HB hx391_1
             replace hx391_2 := pc_ HB hx391_2
             replace hx391_3 := pc_ HB hx391_3
             replace hx391_4 := pc_ HB hx391_4
             replace hx391_5 := pc_ HB hx391_5
             have HR391_3 := am hi391_3
             have HC391_3 := am hl391_3
             clear hi391_3 hl391_3
             have HR391_5 := am hi391_5
             have HC391_5 := am hl391_5
             clear hi391_5 hl391_5
             replace p391 := eq_true p391
             replace q391 := eq_true q391
             go_wp2_with (first | ((with_reducible refine gd_ 6 ?_); (try (refine gate_guard (by rfl) ?_; dsimp only)); refine bx_ 6 (cs := #[.int .i64 0, .int .i64 0, .string (⟨#[]⟩ : ByteArray), .slice none 0 0, .string (⟨#[]⟩ : ByteArray), .slice none 0 0]) 31 ?_; intro gb392 hg w40 hbox hb; have BK392 := am hbox; have GW392 := gE_ (w := w) GE383 hg; have GE392 := gE_ (w := w) GE383 hg; replace HB := am (below_step (ab2 GE383) hb); have NB383_392 := nl_ BK383 hg; have NB392_383 := ng_ BK383 hg; replace BK383 := bl_ BK383 hb; clear hb hbox hg; have hnb41 := NB392_383.out; have hnc41 := NB383_392.out; obtain ⟨⟨_, _, _, _, _, _⟩, _, _, _, _, _, _⟩ := Op.cells6 BK392.out) | ((with_reducible refine gate_callee (f := 33) rfl ?_); refine goesL_ (some 87) rfl rfl Tryz.func33 (by kernel_rfl) rfl #[.agg #[.int .i64 ((rd_T31 l0_5 x79_2).f0), .int .i64 ((rd_T31 l0_5 x79_2).f1), .string ((rd_T31 l0_5 x79_2).f2), .slice A391_3 ((rd_T31 l0_5 x79_2).f3).length c391_3, .string ((rd_T31 l0_5 x79_2).f4), .slice A391_5 ((rd_T31 l0_5 x79_2).f5).length c391_5], .int .i64 (wrap64 (a1 - 1))] rfl ab5 ?_; (with_reducible refine (ih k2 (by have := HJ5.out; have := HK2.out; omega) ((rd_T31 l0_5 x79_2).f0) ((rd_T31 l0_5 x79_2).f1) ((rd_T31 l0_5 x79_2).f2) _ _ ((rd_T31 l0_5 x79_2).f3) ((rd_T31 l0_5 x79_2).f4) _ _ ((rd_T31 l0_5 x79_2).f5) (wrap64 (a1 - 1)) true _ ?side1 ?side2 ?side3 ?side4 M_ ?side5 A32.out).mono ?_); (case side1 => exact Kd.C_below HR391_3.out ba_); (case side2 => exact HC391_3.out); (case side3 => exact Kd.C_below HR391_5.out ba_); (case side4 => exact HC391_5.out); (case side5 => exact pw_cell_below ba_ HM_.out); rintro e w43 ⟨rfl, hb⟩; refine ⟨_, rfl, ?_⟩; replace BK383 := bp_ BK383 hb; replace BK392 := bp_ BK392 hb; replace HB := am (below_step ba_ hb); (try clear hb); (try clear hb2); (try clear hk); (try clear hi); obtain ⟨⟨_, _, _, _, _, _⟩, _, _, _, _, _, _⟩ := Op.cells6 BK392.out; obtain ⟨⟨_, _, _, _, _, _⟩, _, _, _, _, _, _⟩ := Op.cells6 BK383.out; have p394 : 0 ≤ ((ji36) : Int) := of_decide_eq_true ab4; have q394 : (ji36) < (l0_5.length : Int) := of_decide_eq_true ab4; obtain ⟨ad394, A394_3, c394_3, A394_5, c394_5, e394, hx394_0, hx394_1, hx394_2, hx394_3, hx394_4, hx394_5, hl394_3, hi394_3, hl394_5, hi394_5⟩ := at_T31 HR0_5.out (ji36) p394 q394; obtain rfl : ad391 = ad394 := (by injection e394); replace hx394_0 := pc_ HB hx394_0; replace hx394_1 := pc_ HB hx394_1; replace hx394_2 := pc_ HB hx394_2; replace hx394_3 := pc_ HB hx394_3; replace hx394_4 := pc_ HB hx394_4; replace hx394_5 := pc_ HB hx394_5; have HR394_3 := am hi394_3; have HC394_3 := am hl394_3; clear hi394_3 hl394_3; have HR394_5 := am hi394_5; have HC394_5 := am hl394_5; clear hi394_5 hl394_5; replace p394 := eq_true p394; replace q394 := eq_true q394))
             go_ret
             exact ⟨by first | rfl | (simp [errW_none, errW_some] <;> rfl) | (simp only [← hji36]; first | rfl | (simp [errW_none, errW_some] <;> rfl)) | (simp [*, errW_none, errW_some] <;> rfl), ba_⟩
            ·have H' := am H
             clear H
             have p391 : 0 ≤ (x79_2 : Int) := of_decide_eq_true ab4
             have q391 : x79_2 < (l0_5.length : Int) := of_decide_eq_true ab4
             obtain ⟨ad391, A391_3, c391_3, A391_5, c391_5, e391, hx391_0, hx391_1, hx391_2, hx391_3, hx391_4, hx391_5, hl391_3, hi391_3, hl391_5, hi391_5⟩ := at_T31 HR0_5.out x79_2 p391 q391
             cases e391
             replace hx391_0 := pc_ HB hx391_0
             replace hx391_1 := pc_ HB hx391_1
             replace hx391_2 := pc_ HB hx391_2
             replace hx391_3 := pc_ HB hx391_3
             replace hx391_4 := pc_ HB hx391_4
             replace hx391_5 := pc_ HB hx391_5
             have HR391_3 := am hi391_3
             have HC391_3 := am hl391_3
             clear hi391_3 hl391_3
             have HR391_5 := am hi391_5
             have HC391_5 := am hl391_5
             clear hi391_5 hl391_5
             replace p391 := eq_true p391
             replace q391 := eq_true q391
             go_wp2_with (first | ((with_reducible refine gd_ 6 ?_); (try (refine gate_guard (by rfl) ?_; dsimp only)); refine bx_ 6 (cs := #[.int .i64 0, .int .i64 0, .string (⟨#[]⟩ : ByteArray), .slice none 0 0, .string (⟨#[]⟩ : ByteArray), .slice none 0 0]) 31 ?_; intro gb392 hg w46 hbox hb; have BK392 := am hbox; have GW392 := gE_ (w := w) GE383 hg; have GE392 := gE_ (w := w) GE383 hg; replace HB := am (below_step (ab2 GE383) hb); have NB383_392 := nl_ BK383 hg; have NB392_383 := ng_ BK383 hg; replace BK383 := bl_ BK383 hb; clear hb hbox hg; have hnb47 := NB392_383.out; have hnc47 := NB383_392.out; obtain ⟨⟨_, _, _, _, _, _⟩, _, _, _, _, _, _⟩ := Op.cells6 BK392.out) | ((with_reducible refine gate_callee (f := 33) rfl ?_); refine goesL_ (some 87) rfl rfl Tryz.func33 (by kernel_rfl) rfl #[.agg #[.int .i64 ((rd_T31 l0_5 x79_2).f0), .int .i64 ((rd_T31 l0_5 x79_2).f1), .string ((rd_T31 l0_5 x79_2).f2), .slice A391_3 ((rd_T31 l0_5 x79_2).f3).length c391_3, .string ((rd_T31 l0_5 x79_2).f4), .slice A391_5 ((rd_T31 l0_5 x79_2).f5).length c391_5], .int .i64 (wrap64 (a1 - 1))] rfl ab5 ?_; (with_reducible refine (ih k2 (by have := HJ5.out; have := HK2.out; omega) ((rd_T31 l0_5 x79_2).f0) ((rd_T31 l0_5 x79_2).f1) ((rd_T31 l0_5 x79_2).f2) _ _ ((rd_T31 l0_5 x79_2).f3) ((rd_T31 l0_5 x79_2).f4) _ _ ((rd_T31 l0_5 x79_2).f5) (wrap64 (a1 - 1)) true _ ?side1 ?side2 ?side3 ?side4 M_ ?side5 A32.out).mono ?_); (case side1 => exact Kd.C_below HR391_3.out ba_); (case side2 => exact HC391_3.out); (case side3 => exact Kd.C_below HR391_5.out ba_); (case side4 => exact HC391_5.out); (case side5 => exact pw_cell_below ba_ HM_.out); rintro e w49 ⟨rfl, hb⟩; refine ⟨_, rfl, ?_⟩; replace BK383 := bp_ BK383 hb; replace BK392 := bp_ BK392 hb; replace HB := am (below_step ba_ hb); (try clear hb); (try clear hb2); (try clear hk); (try clear hi); obtain ⟨⟨_, _, _, _, _, _⟩, _, _, _, _, _, _⟩ := Op.cells6 BK392.out; obtain ⟨⟨_, _, _, _, _, _⟩, _, _, _, _, _, _⟩ := Op.cells6 BK383.out; have p394 : 0 ≤ ((ji36) : Int) := of_decide_eq_true ab4; have q394 : (ji36) < (l0_5.length : Int) := of_decide_eq_true ab4; obtain ⟨ad394, A394_3, c394_3, A394_5, c394_5, e394, hx394_0, hx394_1, hx394_2, hx394_3, hx394_4, hx394_5, hl394_3, hi394_3, hl394_5, hi394_5⟩ := at_T31 HR0_5.out (ji36) p394 q394; obtain rfl : ad391 = ad394 := (by injection e394); replace hx394_0 := pc_ HB hx394_0; replace hx394_1 := pc_ HB hx394_1; replace hx394_2 := pc_ HB hx394_2; replace hx394_3 := pc_ HB hx394_3; replace hx394_4 := pc_ HB hx394_4; replace hx394_5 := pc_ HB hx394_5; have HR394_3 := am hi394_3; have HC394_3 := am hl394_3; clear hi394_3 hl394_3; have HR394_5 := am hi394_5; have HC394_5 := am hl394_5; clear hi394_5 hl394_5; replace p394 := eq_true p394; replace q394 := eq_true q394))
             go_roundg k2
             case measure => have := HJ5.out; have := HK2.out; omega
             case rel => exact ⟨(wrap64 (x79_2 + 1)), ab6, H', ⟨by have := HJ5.out; have := HK2.out; omega⟩, ⟨ab3 BK383⟩, ⟨ba_⟩⟩
           ·have H' := am H
            clear H
            have p391 : 0 ≤ (x79_2 : Int) := of_decide_eq_true ab4
            have q391 : x79_2 < (l0_5.length : Int) := of_decide_eq_true ab4
            obtain ⟨ad391, A391_3, c391_3, A391_5, c391_5, e391, hx391_0, hx391_1, hx391_2, hx391_3, hx391_4, hx391_5, hl391_3, hi391_3, hl391_5, hi391_5⟩ := at_T31 HR0_5.out x79_2 p391 q391
            cases e391
            replace hx391_0 := pc_ HB hx391_0
            replace hx391_1 := pc_ HB hx391_1
            replace hx391_2 := pc_ HB hx391_2
            replace hx391_3 := pc_ HB hx391_3
            replace hx391_4 := pc_ HB hx391_4
            replace hx391_5 := pc_ HB hx391_5
            have HR391_3 := am hi391_3
            have HC391_3 := am hl391_3
            clear hi391_3 hl391_3
            have HR391_5 := am hi391_5
            have HC391_5 := am hl391_5
            clear hi391_5 hl391_5
            replace p391 := eq_true p391
            replace q391 := eq_true q391
            go_wp2_with (first | ((with_reducible refine gd_ 6 ?_); (try (refine gate_guard (by rfl) ?_; dsimp only)); refine bx_ 6 (cs := #[.int .i64 0, .int .i64 0, .string (⟨#[]⟩ : ByteArray), .slice none 0 0, .string (⟨#[]⟩ : ByteArray), .slice none 0 0]) 31 ?_; intro gb392 hg w52 hbox hb; have BK392 := am hbox; have GW392 := gE_ (w := w) GE383 hg; have GE392 := gE_ (w := w) GE383 hg; replace HB := am (below_step (ab2 GE383) hb); have NB383_392 := nl_ BK383 hg; have NB392_383 := ng_ BK383 hg; replace BK383 := bl_ BK383 hb; clear hb hbox hg; have hnb53 := NB392_383.out; have hnc53 := NB383_392.out; obtain ⟨⟨_, _, _, _, _, _⟩, _, _, _, _, _, _⟩ := Op.cells6 BK392.out) | ((with_reducible refine gate_callee (f := 33) rfl ?_); refine goesL_ (some 87) rfl rfl Tryz.func33 (by kernel_rfl) rfl #[.agg #[.int .i64 ((rd_T31 l0_5 x79_2).f0), .int .i64 ((rd_T31 l0_5 x79_2).f1), .string ((rd_T31 l0_5 x79_2).f2), .slice A391_3 ((rd_T31 l0_5 x79_2).f3).length c391_3, .string ((rd_T31 l0_5 x79_2).f4), .slice A391_5 ((rd_T31 l0_5 x79_2).f5).length c391_5], .int .i64 (wrap64 (a1 - 1))] rfl ab5 ?_; (with_reducible refine (ih k2 (by have := HJ5.out; have := HK2.out; omega) ((rd_T31 l0_5 x79_2).f0) ((rd_T31 l0_5 x79_2).f1) ((rd_T31 l0_5 x79_2).f2) _ _ ((rd_T31 l0_5 x79_2).f3) ((rd_T31 l0_5 x79_2).f4) _ _ ((rd_T31 l0_5 x79_2).f5) (wrap64 (a1 - 1)) true _ ?side1 ?side2 ?side3 ?side4 M_ ?side5 A32.out).mono ?_); (case side1 => exact Kd.C_below HR391_3.out ba_); (case side2 => exact HC391_3.out); (case side3 => exact Kd.C_below HR391_5.out ba_); (case side4 => exact HC391_5.out); (case side5 => exact pw_cell_below ba_ HM_.out); rintro e w55 ⟨rfl, hb⟩; refine ⟨_, rfl, ?_⟩; replace BK383 := bp_ BK383 hb; replace BK392 := bp_ BK392 hb; replace HB := am (below_step ba_ hb); (try clear hb); (try clear hb2); (try clear hk); (try clear hi); obtain ⟨⟨_, _, _, _, _, _⟩, _, _, _, _, _, _⟩ := Op.cells6 BK392.out))
            go_roundg k2
            case measure => have := HJ5.out; have := HK2.out; omega
            case rel => exact ⟨(wrap64 (x79_2 + 1)), ab6, H', ⟨by have := HJ5.out; have := HK2.out; omega⟩, ⟨ab3 BK383⟩, ⟨ba_⟩⟩
          ·rw [if_neg c34] at H
           have c34b0 : decide (0 < x79_2) = false := decide_eq_false c34
           clear c34
           have H' := am H
           clear H
           have p391 : 0 ≤ (x79_2 : Int) := of_decide_eq_true ab4
           have q391 : x79_2 < (l0_5.length : Int) := of_decide_eq_true ab4
           obtain ⟨ad391, A391_3, c391_3, A391_5, c391_5, e391, hx391_0, hx391_1, hx391_2, hx391_3, hx391_4, hx391_5, hl391_3, hi391_3, hl391_5, hi391_5⟩ := at_T31 HR0_5.out x79_2 p391 q391
           cases e391
           replace hx391_0 := pc_ HB hx391_0
           replace hx391_1 := pc_ HB hx391_1
           replace hx391_2 := pc_ HB hx391_2
           replace hx391_3 := pc_ HB hx391_3
           replace hx391_4 := pc_ HB hx391_4
           replace hx391_5 := pc_ HB hx391_5
           have HR391_3 := am hi391_3
           have HC391_3 := am hl391_3
           clear hi391_3 hl391_3
           have HR391_5 := am hi391_5
           have HC391_5 := am hl391_5
           clear hi391_5 hl391_5
           replace p391 := eq_true p391
           replace q391 := eq_true q391
           go_wp2_with (first | ((with_reducible refine gd_ 6 ?_); (try (refine gate_guard (by rfl) ?_; dsimp only)); refine bx_ 6 (cs := #[.int .i64 0, .int .i64 0, .string (⟨#[]⟩ : ByteArray), .slice none 0 0, .string (⟨#[]⟩ : ByteArray), .slice none 0 0]) 31 ?_; intro gb392 hg w57 hbox hb; have BK392 := am hbox; have GW392 := gE_ (w := w) GE383 hg; have GE392 := gE_ (w := w) GE383 hg; replace HB := am (below_step (ab2 GE383) hb); have NB383_392 := nl_ BK383 hg; have NB392_383 := ng_ BK383 hg; replace BK383 := bl_ BK383 hb; clear hb hbox hg; have hnb58 := NB392_383.out; have hnc58 := NB383_392.out; obtain ⟨⟨_, _, _, _, _, _⟩, _, _, _, _, _, _⟩ := Op.cells6 BK392.out) | ((with_reducible refine gate_callee (f := 33) rfl ?_); refine goesL_ (some 87) rfl rfl Tryz.func33 (by kernel_rfl) rfl #[.agg #[.int .i64 ((rd_T31 l0_5 x79_2).f0), .int .i64 ((rd_T31 l0_5 x79_2).f1), .string ((rd_T31 l0_5 x79_2).f2), .slice A391_3 ((rd_T31 l0_5 x79_2).f3).length c391_3, .string ((rd_T31 l0_5 x79_2).f4), .slice A391_5 ((rd_T31 l0_5 x79_2).f5).length c391_5], .int .i64 (wrap64 (a1 - 1))] rfl ab5 ?_; (with_reducible refine (ih k2 (by have := HJ5.out; have := HK2.out; omega) ((rd_T31 l0_5 x79_2).f0) ((rd_T31 l0_5 x79_2).f1) ((rd_T31 l0_5 x79_2).f2) _ _ ((rd_T31 l0_5 x79_2).f3) ((rd_T31 l0_5 x79_2).f4) _ _ ((rd_T31 l0_5 x79_2).f5) (wrap64 (a1 - 1)) true _ ?side1 ?side2 ?side3 ?side4 M_ ?side5 A32.out).mono ?_); (case side1 => exact Kd.C_below HR391_3.out ba_); (case side2 => exact HC391_3.out); (case side3 => exact Kd.C_below HR391_5.out ba_); (case side4 => exact HC391_5.out); (case side5 => exact pw_cell_below ba_ HM_.out); rintro e w60 ⟨rfl, hb⟩; refine ⟨_, rfl, ?_⟩; replace BK383 := bp_ BK383 hb; replace BK392 := bp_ BK392 hb; replace HB := am (below_step ba_ hb); (try clear hb); (try clear hb2); (try clear hk); (try clear hi)))
           go_roundg k2
           case measure => have := HJ5.out; have := HK2.out; omega
           case rel => exact ⟨(wrap64 (x79_2 + 1)), ab6, H', ⟨by have := HJ5.out; have := HK2.out; omega⟩, ⟨ab3 BK383⟩, ⟨ba_⟩⟩
         ·obtain rfl := Option.some.inj H
          have p391 : 0 ≤ (x79_2 : Int) := of_decide_eq_true ab4
          have q391 : x79_2 < (l0_5.length : Int) := of_decide_eq_true ab4
          obtain ⟨ad391, A391_3, c391_3, A391_5, c391_5, e391, hx391_0, hx391_1, hx391_2, hx391_3, hx391_4, hx391_5, hl391_3, hi391_3, hl391_5, hi391_5⟩ := at_T31 HR0_5.out x79_2 p391 q391
          cases e391
          replace hx391_0 := pc_ HB hx391_0
          replace hx391_1 := pc_ HB hx391_1
          replace hx391_2 := pc_ HB hx391_2
          replace hx391_3 := pc_ HB hx391_3
          replace hx391_4 := pc_ HB hx391_4
          replace hx391_5 := pc_ HB hx391_5
          have HR391_3 := am hi391_3
          have HC391_3 := am hl391_3
          clear hi391_3 hl391_3
          have HR391_5 := am hi391_5
          have HC391_5 := am hl391_5
          clear hi391_5 hl391_5
          replace p391 := eq_true p391
          replace q391 := eq_true q391
          go_wp2_with (first | ((with_reducible refine gd_ 6 ?_); (try (refine gate_guard (by rfl) ?_; dsimp only)); refine bx_ 6 (cs := #[.int .i64 0, .int .i64 0, .string (⟨#[]⟩ : ByteArray), .slice none 0 0, .string (⟨#[]⟩ : ByteArray), .slice none 0 0]) 31 ?_; intro gb392 hg w61 hbox hb; have BK392 := am hbox; have GW392 := gE_ (w := w) GE383 hg; have GE392 := gE_ (w := w) GE383 hg; replace HB := am (below_step (ab2 GE383) hb); have NB383_392 := nl_ BK383 hg; have NB392_383 := ng_ BK383 hg; replace BK383 := bl_ BK383 hb; clear hb hbox hg; have hnb62 := NB392_383.out; have hnc62 := NB383_392.out; obtain ⟨⟨_, _, _, _, _, _⟩, _, _, _, _, _, _⟩ := Op.cells6 BK392.out) | ((with_reducible refine gate_callee (f := 33) rfl ?_); refine goesL_ (some 87) rfl rfl Tryz.func33 (by kernel_rfl) rfl #[.agg #[.int .i64 ((rd_T31 l0_5 x79_2).f0), .int .i64 ((rd_T31 l0_5 x79_2).f1), .string ((rd_T31 l0_5 x79_2).f2), .slice A391_3 ((rd_T31 l0_5 x79_2).f3).length c391_3, .string ((rd_T31 l0_5 x79_2).f4), .slice A391_5 ((rd_T31 l0_5 x79_2).f5).length c391_5], .int .i64 (wrap64 (a1 - 1))] rfl ab5 ?_; (with_reducible refine (ih k2 (by have := HJ5.out; have := HK2.out; omega) ((rd_T31 l0_5 x79_2).f0) ((rd_T31 l0_5 x79_2).f1) ((rd_T31 l0_5 x79_2).f2) _ _ ((rd_T31 l0_5 x79_2).f3) ((rd_T31 l0_5 x79_2).f4) _ _ ((rd_T31 l0_5 x79_2).f5) (wrap64 (a1 - 1)) false _ ?side1 ?side2 ?side3 ?side4 M_ ?side5 A32.out).mono ?_); (case side1 => exact Kd.C_below HR391_3.out ba_); (case side2 => exact HC391_3.out); (case side3 => exact Kd.C_below HR391_5.out ba_); (case side4 => exact HC391_5.out); (case side5 => exact pw_cell_below ba_ HM_.out); rintro e w64 ⟨rfl, hb⟩; refine ⟨_, rfl, ?_⟩; replace BK383 := bp_ BK383 hb; replace BK392 := bp_ BK392 hb; replace HB := am (below_step ba_ hb); (try clear hb); (try clear hb2); (try clear hk); (try clear hi)))
          go_ret
          exact ⟨ab7, ba_⟩
        ·obtain rfl := Option.some.inj H
         go_wp2
         go_ret
         exact ⟨ab7, ab2 GE383⟩
  ·have HC65 := am H
   clear H
   go_enter Tryz.func33, Tryz.ntmps33
   go_upto_region 4 with (first | ((with_reducible refine gd_ 2 ?_); (try (refine gate_guard (by rfl) ?_; dsimp only)); refine bx_ 2 (cs := #[.int .i64 a0_0, .int .i64 a0_1, .string a0_2, .slice A0_3 l0_3.length c0_3, .string a0_4, .slice A0_5 l0_5.length c0_5]) 31 ?_; intro gb383 hg w66 hbox hb; have BK383 := am hbox; have GW383 := ge_ (w := w) hg; have GE383 := ge_ (w := w) hg; replace HB := am (below_step ab1 hb); clear hb hbox hg; obtain ⟨⟨_, _, _, _, _, _⟩, _, _, _, _, _, _⟩ := Op.cells6 BK383.out))
   (try simp only [Act.put, List.setIfInBounds_toArray, List.set_cons_zero, List.set_cons_succ])
   go_cut [31] (fun v31 wc => ∃ (kq : Nat) (x31_64 : Bool), v31 = .bool x31_64 ∧ Aside0 (impl_elOk.j0 kq x31_64 a0_0 a0_1 a0_2 l0_3 a0_4 l0_5 = some r) ∧ Aside0 (kq ≤ k) ∧ Aside0 (wc.heap[gb383]? = some (.cells #[.int .i64 a0_0, .int .i64 a0_1, .string a0_2, (.slice A0_3 l0_3.length c0_3), .string a0_4, (.slice A0_5 l0_5.length c0_5)] 31 (0, 0))) ∧ Aside0 (Below w.heap.size w wc))
   case first =>
    have H := HC65.out
    clear HC65
    replace H := ie_ H; rcases H with ⟨c68b0, c68b1, H⟩ | ⟨c68, c68b0, c68b1, H⟩
    ·(first | rw [c68b0] | (simp only [i64_w, i32_w]; rw [c68b0]) | skip)
     (try (generalize hgzc68 : (a0_1 == 0) = bqc68 at *; subst c68b0; have c68b0 := hgzc68; clear hgzc68))
     replace H := ie_ H; rcases H with ⟨c69b0, c69b1, H⟩ | ⟨c69, c69b0, c69b1, H⟩
     ·by_cases c70 : (l0_3.length : Int) > 0
      ·rw [if_pos c70] at H
       have c70b0 : decide (0 < (l0_3.length : Int)) = true := decide_eq_true c70
       have c70b1 : decide (0 < l0_3.length) = true := decide_eq_true (by omega)
       clear c70
       have H' := am H
       clear H
       obtain ⟨⟨_, _, _, _, _, _⟩, _, _, _, _, _, _⟩ := Op.cells6 BK383.out
       go_wp2
       first | go_meet | (subst hji36; go_meet)
       case rel => exact ⟨_, (true), ab6, (by first | exact H' | (rw [hji36]; exact H') | (have h_ := H'.out; rw [c68b0] at h_; exact ⟨h_⟩)), ⟨by first | omega | exact Nat.le_refl _⟩, ⟨ab3 BK383⟩, ⟨ab2 GE383⟩⟩
      ·rw [if_neg c70] at H
       have c70b0 : decide (0 < (l0_3.length : Int)) = false := decide_eq_false c70
       have c70b1 : decide (0 < l0_3.length) = false := decide_eq_false (by omega)
       clear c70
       have H' := am H
       clear H
       obtain ⟨⟨_, _, _, _, _, _⟩, _, _, _, _, _, _⟩ := Op.cells6 BK383.out
       go_wp2
       first | go_meet | (subst hji36; go_meet)
       case rel => exact ⟨_, (decide ((l0_5.length : Int) > 0)), ab6, (by first | exact H' | (rw [hji36]; exact H') | (have h_ := H'.out; rw [c68b0] at h_; exact ⟨h_⟩)), ⟨by first | omega | exact Nat.le_refl _⟩, ⟨ab3 BK383⟩, ⟨ab2 GE383⟩⟩
     ·have H' := am H
      clear H
      obtain ⟨⟨_, _, _, _, _, _⟩, _, _, _, _, _, _⟩ := Op.cells6 BK383.out
      go_wp2
      first | go_meet | (subst hji36; go_meet)
      case rel => exact ⟨_, (true), ab6, (by first | exact H' | (rw [hji36]; exact H') | (have h_ := H'.out; rw [c68b0] at h_; exact ⟨h_⟩)), ⟨by first | omega | exact Nat.le_refl _⟩, ⟨ab3 BK383⟩, ⟨ab2 GE383⟩⟩
    ·(first | rw [c68b0] | (simp only [i64_w, i32_w]; rw [c68b0]) | skip)
     (try (generalize hgzc68 : (a0_1 == 0) = bqc68 at *; subst c68b0; have c68b0 := hgzc68; clear hgzc68))
     have H' := am H
     clear H
     obtain ⟨⟨_, _, _, _, _, _⟩, _, _, _, _, _, _⟩ := Op.cells6 BK383.out
     go_wp2
     first | go_meet | (subst hji36; go_meet)
     case rel => exact ⟨_, (true), ab6, (by first | exact H' | (rw [hji36]; exact H') | (have h_ := H'.out; rw [c68b0] at h_; exact ⟨h_⟩)), ⟨by first | omega | exact Nat.le_refl _⟩, ⟨ab3 BK383⟩, ⟨ab2 GE383⟩⟩
   case rest =>
    clear HC65
    (try clear c1); (try clear c2); (try clear p2); (try clear c3); (try clear c3b0); (try clear p3); (try clear q3); (try clear hx3); (try clear c4); (try clear c5); (try clear c5b0); (try clear c5b1); (try clear c6); (try clear p6); (try clear c7); (try clear c10); (try clear c12); (try clear c14); (try clear c27); (try clear c29); (try clear c29b0); (try clear c30); (try clear c30b0); (try clear c31); (try clear c31b0); (try clear c33); (try clear c34); (try clear c34b0); (try clear c35); (try clear c35b0); (try clear c35b1); (try clear c37); (try clear c37b0); (try clear c38); (try clear c38b0); (try clear c39); (try clear c39b0); (try clear c39b1); (try clear p39); (try clear q39); (try clear hx39); (try clear c41); (try clear c47); (try clear c50); (try clear c53); (try clear c58); (try clear c62); (try clear p64); (try clear c68); (try clear c68b0); (try clear c68b1); (try clear c69); (try clear c69b0); (try clear c69b1); (try clear c70); (try clear c70b0); (try clear c70b1); (try clear hcz15_0); (try clear hcz15_1); (try clear hcz15_2); (try clear hcz15_3); (try clear hcz15_4); (try clear hcz15_5); (try clear hcz17_0); (try clear hcz17_1); (try clear hcz17_2); (try clear hcz17_3); (try clear hcz17_4); (try clear hcz17_5); (try clear hcz19_0); (try clear hcz19_1); (try clear hcz19_2); (try clear hcz19_3); (try clear hcz19_4); (try clear hcz19_5); (try clear hcz20_0); (try clear hcz20_1); (try clear hcz20_2); (try clear hcz20_3); (try clear hcz20_4); (try clear hcz20_5); (try clear hcz22_0); (try clear hcz22_1); (try clear hcz22_2); (try clear hcz22_3); (try clear hcz22_4); (try clear hcz22_5); (try clear hcz24_0); (try clear hcz24_1); (try clear hcz24_2); (try clear hcz24_3); (try clear hcz24_4); (try clear hcz24_5); (try clear hcz26_0); (try clear hcz26_1); (try clear hcz26_2); (try clear hcz26_3); (try clear hcz26_4); (try clear hcz26_5); (try clear hcz28_0); (try clear hcz28_1); (try clear hcz28_2); (try clear hcz28_3); (try clear hcz28_4); (try clear hcz28_5); (try clear hcz42_0); (try clear hcz42_1); (try clear hcz42_2); (try clear hcz42_3); (try clear hcz42_4); (try clear hcz42_5); (try clear hcz44_0); (try clear hcz44_1); (try clear hcz44_2); (try clear hcz44_3); (try clear hcz44_4); (try clear hcz44_5); (try clear hcz45_0); (try clear hcz45_1); (try clear hcz45_2); (try clear hcz45_3); (try clear hcz45_4); (try clear hcz45_5); (try clear hcz48_0); (try clear hcz48_1); (try clear hcz48_2); (try clear hcz48_3); (try clear hcz48_4); (try clear hcz48_5); (try clear hcz50_0); (try clear hcz50_1); (try clear hcz50_2); (try clear hcz50_3); (try clear hcz50_4); (try clear hcz50_5); (try clear hcz51_0); (try clear hcz51_1); (try clear hcz51_2); (try clear hcz51_3); (try clear hcz51_4); (try clear hcz51_5); (try clear hcz54_0); (try clear hcz54_1); (try clear hcz54_2); (try clear hcz54_3); (try clear hcz54_4); (try clear hcz54_5); (try clear hcz56_0); (try clear hcz56_1); (try clear hcz56_2); (try clear hcz56_3); (try clear hcz56_4); (try clear hcz56_5); (try clear hcz59_0); (try clear hcz59_1); (try clear hcz59_2); (try clear hcz59_3); (try clear hcz59_4); (try clear hcz59_5); (try clear hcz63_0); (try clear hcz63_1); (try clear hcz63_2); (try clear hcz63_3); (try clear hcz63_4); (try clear hcz63_5); (try clear hcz67_0); (try clear hcz67_1); (try clear hcz67_2); (try clear hcz67_3); (try clear hcz67_4); (try clear hcz67_5); (try clear hcz71_0); (try clear hcz71_1); (try clear hcz71_2); (try clear hcz71_3); (try clear hcz71_4); (try clear hcz71_5); (try clear hcz72_0); (try clear hcz72_1); (try clear hcz72_2); (try clear hcz72_3); (try clear hcz72_4); (try clear hcz72_5); (try clear hcz73_0); (try clear hcz73_1); (try clear hcz73_2); (try clear hcz73_3); (try clear hcz73_4); (try clear hcz73_5); (try clear hcz74_0); (try clear hcz74_1); (try clear hcz74_2); (try clear hcz74_3); (try clear hcz74_4); (try clear hcz74_5); (try clear hcz8_0); (try clear hcz8_1); (try clear hcz8_2); (try clear hcz8_3); (try clear hcz8_4); (try clear hcz8_5); (try clear hfz15_0); (try clear hfz15_1); (try clear hfz15_2); (try clear hfz15_3); (try clear hfz15_4); (try clear hfz15_5); (try clear hfz17_0); (try clear hfz17_1); (try clear hfz17_2); (try clear hfz17_3); (try clear hfz17_4); (try clear hfz17_5); (try clear hfz19_0); (try clear hfz19_1); (try clear hfz19_2); (try clear hfz19_3); (try clear hfz19_4); (try clear hfz19_5); (try clear hfz20_0); (try clear hfz20_1); (try clear hfz20_2); (try clear hfz20_3); (try clear hfz20_4); (try clear hfz20_5); (try clear hfz22_0); (try clear hfz22_1); (try clear hfz22_2); (try clear hfz22_3); (try clear hfz22_4); (try clear hfz22_5); (try clear hfz24_0); (try clear hfz24_1); (try clear hfz24_2); (try clear hfz24_3); (try clear hfz24_4); (try clear hfz24_5); (try clear hfz26_0); (try clear hfz26_1); (try clear hfz26_2); (try clear hfz26_3); (try clear hfz26_4); (try clear hfz26_5); (try clear hfz28_0); (try clear hfz28_1); (try clear hfz28_2); (try clear hfz28_3); (try clear hfz28_4); (try clear hfz28_5); (try clear hfz42_0); (try clear hfz42_1); (try clear hfz42_2); (try clear hfz42_3); (try clear hfz42_4); (try clear hfz42_5); (try clear hfz44_0); (try clear hfz44_1); (try clear hfz44_2); (try clear hfz44_3); (try clear hfz44_4); (try clear hfz44_5); (try clear hfz45_0); (try clear hfz45_1); (try clear hfz45_2); (try clear hfz45_3); (try clear hfz45_4); (try clear hfz45_5); (try clear hfz48_0); (try clear hfz48_1); (try clear hfz48_2); (try clear hfz48_3); (try clear hfz48_4); (try clear hfz48_5); (try clear hfz50_0); (try clear hfz50_1); (try clear hfz50_2); (try clear hfz50_3); (try clear hfz50_4); (try clear hfz50_5); (try clear hfz51_0); (try clear hfz51_1); (try clear hfz51_2); (try clear hfz51_3); (try clear hfz51_4); (try clear hfz51_5); (try clear hfz54_0); (try clear hfz54_1); (try clear hfz54_2); (try clear hfz54_3); (try clear hfz54_4); (try clear hfz54_5); (try clear hfz56_0); (try clear hfz56_1); (try clear hfz56_2); (try clear hfz56_3); (try clear hfz56_4); (try clear hfz56_5); (try clear hfz59_0); (try clear hfz59_1); (try clear hfz59_2); (try clear hfz59_3); (try clear hfz59_4); (try clear hfz59_5); (try clear hfz63_0); (try clear hfz63_1); (try clear hfz63_2); (try clear hfz63_3); (try clear hfz63_4); (try clear hfz63_5); (try clear hfz67_0); (try clear hfz67_1); (try clear hfz67_2); (try clear hfz67_3); (try clear hfz67_4); (try clear hfz67_5); (try clear hfz71_0); (try clear hfz71_1); (try clear hfz71_2); (try clear hfz71_3); (try clear hfz71_4); (try clear hfz71_5); (try clear hfz72_0); (try clear hfz72_1); (try clear hfz72_2); (try clear hfz72_3); (try clear hfz72_4); (try clear hfz72_5); (try clear hfz73_0); (try clear hfz73_1); (try clear hfz73_2); (try clear hfz73_3); (try clear hfz73_4); (try clear hfz73_5); (try clear hfz74_0); (try clear hfz74_1); (try clear hfz74_2); (try clear hfz74_3); (try clear hfz74_4); (try clear hfz74_5); (try clear hfz8_0); (try clear hfz8_1); (try clear hfz8_2); (try clear hfz8_3); (try clear hfz8_4); (try clear hfz8_5); (try clear hx391_0); (try clear hx391_1); (try clear hx391_2); (try clear hx391_3); (try clear hx391_4); (try clear hx391_5); (try clear hx394_0); (try clear hx394_1); (try clear hx394_2); (try clear hx394_3); (try clear hx394_4); (try clear hx394_5); (try clear p2); (try clear p391); (try clear p394); (try clear q391); (try clear q394)
    obtain ⟨kq, x31_64, rfl, HA, HJ64, BK383, HB⟩ := hcut
    cases kq with
    | zero => exact absurd HA.out (by simp [impl_elOk.j0])
    | succ kj64 =>
     have H := HA.out
     clear HA
     simp only [impl_elOk.j0] at H
     replace H := ib_ H; rcases H with ⟨rfl, H⟩ | ⟨rfl, H⟩
     ·obtain rfl := Option.some.inj H
      go_wp2
      go_ret
      exact ⟨ab7, ab2 GE383⟩
     ·replace H := ie_ H; rcases H with ⟨c76b0, c76b1, H⟩ | ⟨c76, c76b0, c76b1, H⟩
      ·replace H := ie_ H; rcases H with ⟨c77b0, c77b1, H⟩ | ⟨c77, c77b0, c77b1, H⟩
       ·replace H := ie_ H; rcases H with ⟨c78b0, c78b1, H⟩ | ⟨c78, c78b0, c78b1, H⟩
        ·replace H := bi_ H; obtain ⟨t384, A79, H⟩ := H
         obtain rfl := Option.some.inj H
         obtain ⟨⟨_, _, _, _, _, _⟩, _, _, _, _, _, _⟩ := Op.cells6 BK383.out
         go_wp2_with (first | (go_at_call 49; (with_reducible refine (impl_NoteOk.calls kj64 a0_4 t384 _ M_ (pw_cell_below (ab2 GE383) HM_.out) A79.out).mono ?_); rintro e w81 ⟨rfl, hb⟩; replace BK383 := bl_ BK383 hb; replace HB := am (below_step (ab2 GE383) hb); (try clear hb); (try clear hb2); (try clear hk); (try clear hi)))
         go_ret
         exact ⟨ab7, ab2 GE383⟩
        ·obtain rfl := Option.some.inj H
         obtain ⟨⟨_, _, _, _, _, _⟩, _, _, _, _, _, _⟩ := Op.cells6 BK383.out
         go_wp2
         go_ret
         exact ⟨ab7, ab2 GE383⟩
       ·replace H := bi_ H; obtain ⟨t385, A83, H⟩ := H
        replace H := ib_ H; rcases H with ⟨rfl, H⟩ | ⟨rfl, H⟩
        ·obtain rfl := Option.some.inj H
         obtain ⟨⟨_, _, _, _, _, _⟩, _, _, _, _, _, _⟩ := Op.cells6 BK383.out
         go_wp2_with (first | (go_at_call 48; (with_reducible refine (impl_TextOk.calls kj64 a0_4 true _ A83.out).mono ?_); rintro e w86 ⟨rfl, hb⟩; replace BK383 := bl_ BK383 hb; replace HB := am (below_step (ab2 GE383) hb); (try clear hb); (try clear hb2); (try clear hk); (try clear hi)))
         go_ret
         exact ⟨ab7, ab2 GE383⟩
        ·replace H := ie_ H; rcases H with ⟨c87b0, c87b1, H⟩ | ⟨c87, c87b0, c87b1, H⟩
         ·replace H := bi_ H; obtain ⟨t386, A88, H⟩ := H
          obtain rfl := Option.some.inj H
          obtain ⟨⟨_, _, _, _, _, _⟩, _, _, _, _, _, _⟩ := Op.cells6 BK383.out
          go_wp2_with (first | (go_at_call 48; (with_reducible refine (impl_TextOk.calls kj64 a0_4 false _ A83.out).mono ?_); rintro e w90 ⟨rfl, hb⟩; replace BK383 := bl_ BK383 hb; replace HB := am (below_step (ab2 GE383) hb); (try clear hb); (try clear hb2); (try clear hk); (try clear hi); obtain ⟨⟨_, _, _, _, _, _⟩, _, _, _, _, _, _⟩ := Op.cells6 BK383.out) | (go_at_call 49; (with_reducible refine (impl_NoteOk.calls kj64 a0_4 t386 _ M_ ?side1 A88.out).mono ?_); (case side1 => exact pw_cell_below (ab2 GE383) HM_.out); rintro e w92 ⟨rfl, hb⟩; replace BK383 := bl_ BK383 hb; replace HB := am (below_step (ab2 GE383) hb); (try clear hb); (try clear hb2); (try clear hk); (try clear hi)))
          go_ret
          exact ⟨ab7, ab2 GE383⟩
         ·obtain rfl := Option.some.inj H
          obtain ⟨⟨_, _, _, _, _, _⟩, _, _, _, _, _, _⟩ := Op.cells6 BK383.out
          go_wp2_with (first | (go_at_call 48; (with_reducible refine (impl_TextOk.calls kj64 a0_4 false _ A83.out).mono ?_); rintro e w94 ⟨rfl, hb⟩; replace BK383 := bl_ BK383 hb; replace HB := am (below_step (ab2 GE383) hb); (try clear hb); (try clear hb2); (try clear hk); (try clear hi); obtain ⟨⟨_, _, _, _, _, _⟩, _, _, _, _, _, _⟩ := Op.cells6 BK383.out))
          go_ret
          exact ⟨ab7, ab2 GE383⟩
      ·replace H := ie_ H; rcases H with ⟨c96b0, c96b1, H⟩ | ⟨c96, c96b0, c96b1, H⟩
       ·replace H := bi_ H; obtain ⟨t387, A97, H⟩ := H
        obtain rfl := Option.some.inj H
        obtain ⟨⟨_, _, _, _, _, _⟩, _, _, _, _, _, _⟩ := Op.cells6 BK383.out
        go_wp2_with (first | (go_at_call 49; (with_reducible refine (impl_NoteOk.calls kj64 a0_4 t387 _ M_ (pw_cell_below (ab2 GE383) HM_.out) A97.out).mono ?_); rintro e w99 ⟨rfl, hb⟩; replace BK383 := bl_ BK383 hb; replace HB := am (below_step (ab2 GE383) hb); (try clear hb); (try clear hb2); (try clear hk); (try clear hi)))
        go_ret
        exact ⟨ab7, ab2 GE383⟩
       ·obtain rfl := Option.some.inj H
        obtain ⟨⟨_, _, _, _, _, _⟩, _, _, _, _, _, _⟩ := Op.cells6 BK383.out
        go_wp2
        go_ret
        exact ⟨ab7, ab2 GE383⟩

end Go.Proofs.YthpdpnpojgegiaaGreatDoor.P
