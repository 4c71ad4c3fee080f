-- WRITTEN BY hprint.py, this session's own program, over the kit's printer: not typed by hand; Lean checks it
import Derived.Test.YthpdpnpojgegiaaGreatDoorPe0
import Derived.Test.YthpdpnpojgegiaaGreatDoorPe11
import Derived.Test.YthpdpnpojgegiaaGreatDoorPe18
import Derived.Test.YthpdpnpojgegiaaGreatDoorPe23
import Derived.Test.YthpdpnpojgegiaaGreatDoorPe28
import Derived.Test.YthpdpnpojgegiaaGreatDoorPe30
namespace Go.Proofs.YthpdpnpojgegiaaGreatDoor.P
open Go.RowKit Go.Proofs.YthpdpnpojgegiaaGreatDoorW.PrintWords Go.Proofs.YthpdpnpojgegiaaGreatDoorW.PrintLast Go.Proofs.YthpdpnpojgegiaaGreatDoorW.PrintMore
attribute [local go_sem] max2_int min2_int max_two min_two max_three min_three max_four min_four   -- for this text's walks alone
set_option linter.unusedVariables false
set_option linter.unusedSimpArgs false

/-! ### impl_elOk: function 33 -/
mutual
def impl_elOk.j1 : Nat → Int → Bool → Int → Int → ByteArray → List (S62) → ByteArray → List (S31) → Option (Bool)
 | 0, _, _, _, _, _, _, _, _ => none
 | k + 1, x1, x75, x384000, x384001, x384002, x384003, x384004, x384005 => if x75 = true then (some false) else (impl_elOk.l0 k x1 x384005 (x384005.length : Int) 0 x384000 x384001 x384002 x384003 x384004 x384005)
def impl_elOk.l0 : Nat → Int → List (S31) → Int → Int → Int → Int → ByteArray → List (S62) → ByteArray → List (S31) → Option (Bool)
 | 0, _, _, _, _, _, _, _, _, _, _ => none
 | k + 1, x1, x77, x78, x79, x384000, x384001, x384002, x384003, x384004, x384005 => if x79 < x78 then (if 0 ≤ x79 then (if x79 < (x77.length : Int) then ((impl_elOk.f k ((rd_T31 x77 x79).f0) ((rd_T31 x77 x79).f1) ((rd_T31 x77 x79).f2) ((rd_T31 x77 x79).f3) ((rd_T31 x77 x79).f4) ((rd_T31 x77 x79).f5) (wrap64 (x1 - 1))).bind fun t393 => (if t393 = true then (if x79 > 0 then (if ((rd_T31 x77 x79).f0) = 2 then (if 0 ≤ (wrap64 (x79 - 1)) then (if (wrap64 (x79 - 1)) < (x384005.length : Int) then (if ((rd_T31 x384005 (wrap64 (x79 - 1))).f0) = 2 then (some false) else (impl_elOk.l0 k x1 x77 x78 (wrap64 (x79 + 1)) x384000 x384001 x384002 x384003 x384004 x384005)) else (none)) else (none)) else (impl_elOk.l0 k x1 x77 x78 (wrap64 (x79 + 1)) x384000 x384001 x384002 x384003 x384004 x384005)) else (impl_elOk.l0 k x1 x77 x78 (wrap64 (x79 + 1)) x384000 x384001 x384002 x384003 x384004 x384005)) else (some false))) else (none)) else (none)) else (some true)
def impl_elOk.j0 : Nat → Bool → Int → Int → ByteArray → List (S62) → ByteArray → List (S31) → Option (Bool)
 | 0, _, _, _, _, _, _, _ => none
 | k + 1, x31, x384000, x384001, x384002, x384003, x384004, x384005 => if x31 = true then (some false) else (if x384000 = 2 then (if x384004.toList = ([] : List UInt8) then (if x384000 = 3 then ((impl_NoteOk.f k x384004).bind fun t384 => (some t384)) else (some false)) else ((impl_TextOk.f k x384004).bind fun t385 => (if t385 = true then (some true) else (if x384000 = 3 then ((impl_NoteOk.f k x384004).bind fun t386 => (some t386)) else (some false))))) else (if x384000 = 3 then ((impl_NoteOk.f k x384004).bind fun t387 => (some t387)) else (some false)))
def impl_elOk.f : Nat → Int → Int → ByteArray → List (S62) → ByteArray → List (S31) → Int → Option (Bool)
 | 0, _, _, _, _, _, _, _ => none
 | k + 1, a0_0, a0_1, a0_2, l0_3, a0_4, l0_5, a1 => if a1 < 1 then (some false) else (if a0_0 = 1 then ((impl_inRange.f a0_1 0 2).bind fun t388 => (if t388 = true then ((impl_NameOk.f k a0_2).bind fun t389 => (if t389 = true then ((impl_strictAttrs.f k l0_3).bind fun t390 => (if t390 = true then (impl_elOk.j1 k a1 (a0_4.toList != ([] : List UInt8)) a0_0 a0_1 a0_2 l0_3 a0_4 l0_5) else (impl_elOk.j1 k a1 true a0_0 a0_1 a0_2 l0_3 a0_4 l0_5))) else (impl_elOk.j1 k a1 true a0_0 a0_1 a0_2 l0_3 a0_4 l0_5))) else (impl_elOk.j1 k a1 true a0_0 a0_1 a0_2 l0_3 a0_4 l0_5))) else (if a0_1 = 0 then (if a0_2.toList = ([] : List UInt8) then (if (l0_3.length : Int) > 0 then (impl_elOk.j0 k true a0_0 a0_1 a0_2 l0_3 a0_4 l0_5) else (impl_elOk.j0 k (decide ((l0_5.length : Int) > 0)) a0_0 a0_1 a0_2 l0_3 a0_4 l0_5)) else (impl_elOk.j0 k true a0_0 a0_1 a0_2 l0_3 a0_4 l0_5)) else (impl_elOk.j0 k true a0_0 a0_1 a0_2 l0_3 a0_4 l0_5)))
end
theorem impl_elOk.mono_l : ∀ k, (∀ y0 y1 y2 y3 y4 y5 y6, LeO (impl_elOk.f k y0 y1 y2 y3 y4 y5 y6) (impl_elOk.f (k + 1) y0 y1 y2 y3 y4 y5 y6)) ∧ (∀ y0 y1 y2 y3 y4 y5 y6 y7, LeO (impl_elOk.j1 k y0 y1 y2 y3 y4 y5 y6 y7) (impl_elOk.j1 (k + 1) y0 y1 y2 y3 y4 y5 y6 y7)) ∧ (∀ y0 y1 y2 y3 y4 y5 y6 y7 y8 y9, LeO (impl_elOk.l0 k y0 y1 y2 y3 y4 y5 y6 y7 y8 y9) (impl_elOk.l0 (k + 1) y0 y1 y2 y3 y4 y5 y6 y7 y8 y9)) ∧ (∀ y0 y1 y2 y3 y4 y5 y6, LeO (impl_elOk.j0 k y0 y1 y2 y3 y4 y5 y6) (impl_elOk.j0 (k + 1) y0 y1 y2 y3 y4 y5 y6))
 | 0 => ⟨fun _ _ _ _ _ _ _ r h => by simp [impl_elOk.f] at h, fun _ _ _ _ _ _ _ _ r h => by simp [impl_elOk.j1] at h, fun _ _ _ _ _ _ _ _ _ _ r h => by simp [impl_elOk.l0] at h, fun _ _ _ _ _ _ _ r h => by simp [impl_elOk.j0] at h⟩
 | k + 1 => by
  obtain ⟨ih0, ih1, ih2, ih3⟩ := impl_elOk.mono_l k
  refine ⟨?_, ?_, ?_, ?_⟩
  ·intro y0 y1 y2 y3 y4 y5 y6
   unfold impl_elOk.f
   repeat' first
   | (with_reducible exact ih0 _ _ _ _ _ _ _)
   | (with_reducible exact ih1 _ _ _ _ _ _ _ _)
   | (with_reducible exact ih2 _ _ _ _ _ _ _ _ _ _)
   | (with_reducible exact ih3 _ _ _ _ _ _ _)
   | (with_reducible exact impl_NameOk.mono _ _)
   | (with_reducible exact impl_NoteOk.mono _ _)
   | (with_reducible exact impl_TextOk.mono _ _)
   | (with_reducible exact impl_strictAttrs.mono _ _)
   | (with_reducible exact LeO.refl _)
   | (with_reducible exact LeO.none _)
   | (with_reducible refine LeO.ite ?_ ?_)
   | (with_reducible refine LeO.bind ?_ (fun _ => ?_))
  ·intro y0 y1 y2 y3 y4 y5 y6 y7
   unfold impl_elOk.j1
   repeat' first
   | (with_reducible exact ih0 _ _ _ _ _ _ _)
   | (with_reducible exact ih1 _ _ _ _ _ _ _ _)
   | (with_reducible exact ih2 _ _ _ _ _ _ _ _ _ _)
   | (with_reducible exact ih3 _ _ _ _ _ _ _)
   | (with_reducible exact impl_NameOk.mono _ _)
   | (with_reducible exact impl_NoteOk.mono _ _)
   | (with_reducible exact impl_TextOk.mono _ _)
   | (with_reducible exact impl_strictAttrs.mono _ _)
   | (with_reducible exact LeO.refl _)
   | (with_reducible exact LeO.none _)
   | (with_reducible refine LeO.ite ?_ ?_)
   | (with_reducible refine LeO.bind ?_ (fun _ => ?_))
  ·intro y0 y1 y2 y3 y4 y5 y6 y7 y8 y9
   unfold impl_elOk.l0
   repeat' first
   | (with_reducible exact ih0 _ _ _ _ _ _ _)
   | (with_reducible exact ih1 _ _ _ _ _ _ _ _)
   | (with_reducible exact ih2 _ _ _ _ _ _ _ _ _ _)
   | (with_reducible exact ih3 _ _ _ _ _ _ _)
   | (with_reducible exact impl_NameOk.mono _ _)
   | (with_reducible exact impl_NoteOk.mono _ _)
   | (with_reducible exact impl_TextOk.mono _ _)
   | (with_reducible exact impl_strictAttrs.mono _ _)
   | (with_reducible exact LeO.refl _)
   | (with_reducible exact LeO.none _)
   | (with_reducible refine LeO.ite ?_ ?_)
   | (with_reducible refine LeO.bind ?_ (fun _ => ?_))
  ·intro y0 y1 y2 y3 y4 y5 y6
   unfold impl_elOk.j0
   repeat' first
   | (with_reducible exact ih0 _ _ _ _ _ _ _)
   | (with_reducible exact ih1 _ _ _ _ _ _ _ _)
   | (with_reducible exact ih2 _ _ _ _ _ _ _ _ _ _)
   | (with_reducible exact ih3 _ _ _ _ _ _ _)
   | (with_reducible exact impl_NameOk.mono _ _)
   | (with_reducible exact impl_NoteOk.mono _ _)
   | (with_reducible exact impl_TextOk.mono _ _)
   | (with_reducible exact impl_strictAttrs.mono _ _)
   | (with_reducible exact LeO.refl _)
   | (with_reducible exact LeO.none _)
   | (with_reducible refine LeO.ite ?_ ?_)
   | (with_reducible refine LeO.bind ?_ (fun _ => ?_))
theorem impl_elOk.mono : ∀ a0 a1 a2 a3 a4 a5 a6 k, LeO (impl_elOk.f k a0 a1 a2 a3 a4 a5 a6) (impl_elOk.f (k + 1) a0 a1 a2 a3 a4 a5 a6) := by
 intro a0 a1 a2 a3 a4 a5 a6 k
 obtain ⟨ih0, ih1, ih2, ih3⟩ := impl_elOk.mono_l k
 exact ih0 a0 a1 a2 a3 a4 a5 a6
set_option maxHeartbeats 8000000 in
set_option maxRecDepth 100000 in
theorem impl_elOk.calls (k : Nat) : ∀ (a0_0 : Int) (a0_1 : Int) (a0_2 : ByteArray) (A0_3 : Option Addr) (c0_3 : Nat) (l0_3 : List (S62)) (a0_4 : ByteArray) (A0_5 : Option Addr) (c0_5 : Nat) (l0_5 : List (S31)) (a1 : Int) (r : Bool) (w : World) (hr0_3 : Kd.C k62 w A0_3 l0_3.length l0_3) (hc0_3 : l0_3.length ≤ c0_3) (hr0_5 : Kd.C k31 w A0_5 l0_5.length l0_5) (hc0_5 : l0_5.length ≤ c0_5) (M_ : Int) (hm_ : w.cell? ⟨0, 0, none⟩ = some (.int .i64 M_)) (h : impl_elOk.f k a0_0 a0_1 a0_2 l0_3 a0_4 l0_5 a1 = some r),
  Calls Tryz.prog 33 #[.agg #[.int .i64 a0_0, .int .i64 a0_1, .string a0_2, .slice A0_3 l0_3.length c0_3, .string a0_4, .slice A0_5 l0_5.length c0_5], .int .i64 a1] w fun e w' => e = .returned (.bool r) ∧ Below w.heap.size w w' := by
 induction k using Nat.strongRecOn with
 | _ k ih =>
 intro a0_0 a0_1 a0_2 A0_3 c0_3 l0_3 a0_4 A0_5 c0_5 l0_5 a1 r w hr0_3 hc0_3 hr0_5 hc0_5 M_ hm_ h
 cases k with
 | zero => exact absurd h (by simp [impl_elOk.f])
 | succ k =>
 simp only [impl_elOk.f] at h
 have hu31 := Tryz.underlying31
 have HR0_3 := Aside0.mk hr0_3
 have HC0_3 := Aside0.mk hc0_3
 clear hr0_3 hc0_3
 have HR0_5 := Aside0.mk hr0_5
 have HC0_5 := Aside0.mk hc0_5
 clear hr0_5 hc0_5
 have HB := Aside0.mk (Below.refl w.heap.size w)
 have HM_ := Aside0.mk hm_
 clear hm_
 have H : (if a1 < 1 then (some false) else (if a0_0 = 1 then ((impl_inRange.f a0_1 0 2).bind fun t388 => (if t388 = true then ((impl_NameOk.f k a0_2).bind fun t389 => (if t389 = true then ((impl_strictAttrs.f k l0_3).bind fun t390 => (if t390 = true then (impl_elOk.j1 k a1 (a0_4.toList != ([] : List UInt8)) a0_0 a0_1 a0_2 l0_3 a0_4 l0_5) else (impl_elOk.j1 k a1 true a0_0 a0_1 a0_2 l0_3 a0_4 l0_5))) else (impl_elOk.j1 k a1 true a0_0 a0_1 a0_2 l0_3 a0_4 l0_5))) else (impl_elOk.j1 k a1 true a0_0 a0_1 a0_2 l0_3 a0_4 l0_5))) else (if a0_1 = 0 then (if a0_2.toList = ([] : List UInt8) then (if (l0_3.length : Int) > 0 then (impl_elOk.j0 k true a0_0 a0_1 a0_2 l0_3 a0_4 l0_5) else (impl_elOk.j0 k (decide ((l0_5.length : Int) > 0)) a0_0 a0_1 a0_2 l0_3 a0_4 l0_5)) else (impl_elOk.j0 k true a0_0 a0_1 a0_2 l0_3 a0_4 l0_5)) else (impl_elOk.j0 k true a0_0 a0_1 a0_2 l0_3 a0_4 l0_5)))) = some r := h
 clear h
 by_cases c3 : a1 < 1
 ·rw [if_pos c3] at H
  have c3b0 := decide_eq_true c3
  clear c3
  obtain rfl := Option.some.inj H
  go_enter Tryz.func33, Tryz.ntmps33
  go_wp2_with (first | ((with_reducible refine gate_dst (N := 2) rfl ?_); (try (refine gate_guard (by rfl) ?_; dsimp only)); refine box_event ?hg (N := 2) ?hd (cs := #[.int .i64 a0_0, .int .i64 a0_1, .string a0_2, .slice A0_3 l0_3.length c0_3, .string a0_4, .slice A0_5 l0_5.length c0_5]) (t := 31) ?hr ?_; (case hd => rfl); (case hg => rfl); (case hr => first | (go_simp; done) | (go_simp; rfl)); intro gb383 hg w4 hbox hb; have n0_ := Aside0.mk (below_step ab1 hb); have n1_ := Aside0.mk (hbox); have n2_ := Aside0.mk ((by rw [hg]; exact (below_size ab1) : w.heap.size ≤ gb383)); have n3_ := Aside0.mk ((by rw [hg]; exact (below_size ab1) : w.heap.size ≤ gb383)); clear HB; have HB := n0_; have BK383 := n1_; have GW383 := n2_; have GE383 := n3_; clear n0_ n1_ n2_ n3_; clear hb hbox hg))
  go_ret
  exact ⟨ab7, ab2 GE383⟩
 ·rw [if_neg c3] at H
  have c3b0 := decide_eq_false c3
  clear c3
  by_cases c5 : a0_0 = 1
  ·rw [if_pos c5] at H
   have c5b0 : (a0_0 == 1) = true := beq_iff_eq.mpr c5
   have c5b1 : (a0_0 != 1) = false := bne_eq_false_iff_eq.mpr c5
   clear c5
   have HC6 := Aside0.mk H
   clear H
   go_enter Tryz.func33, Tryz.ntmps33
   go_upto_region 7 with (first | ((with_reducible refine gate_dst (N := 2) rfl ?_); (try (refine gate_guard (by rfl) ?_; dsimp only)); refine box_event ?hg (N := 2) ?hd (cs := #[.int .i64 a0_0, .int .i64 a0_1, .string a0_2, .slice A0_3 l0_3.length c0_3, .string a0_4, .slice A0_5 l0_5.length c0_5]) (t := 31) ?hr ?_; (case hd => rfl); (case hg => rfl); (case hr => first | (go_simp; done) | (go_simp; rfl)); intro gb383 hg w7 hbox hb; have n0_ := Aside0.mk (below_step ab1 hb); have n1_ := Aside0.mk (hbox); have n2_ := Aside0.mk ((by rw [hg]; exact (below_size ab1) : w.heap.size ≤ gb383)); have n3_ := Aside0.mk ((by rw [hg]; exact (below_size ab1) : w.heap.size ≤ gb383)); clear HB; have HB := n0_; have BK383 := n1_; have GW383 := n2_; have GE383 := n3_; clear n0_ n1_ n2_ n3_; clear hb hbox hg; obtain ⟨⟨hcz8_0, hcz8_1, hcz8_2, hcz8_3, hcz8_4, hcz8_5⟩, hfz8_0, hfz8_1, hfz8_2, hfz8_3, hfz8_4, hfz8_5⟩ := Op.cells6 BK383.out))
   (try simp only [Act.put, List.setIfInBounds_toArray, List.set_cons_zero, List.set_cons_succ])
   go_cut [75] (fun v75 wc => ∃ (kq : Nat) (x75_5 : Bool), v75 = .bool x75_5 ∧ Aside0 (impl_elOk.j1 kq a1 x75_5 a0_0 a0_1 a0_2 l0_3 a0_4 l0_5 = some r) ∧ Aside0 (kq ≤ k) ∧ Aside0 (wc.heap[gb383]? = some (.cells #[.int .i64 a0_0, .int .i64 a0_1, .string a0_2, (.slice A0_3 l0_3.length c0_3), .string a0_4, (.slice A0_5 l0_5.length c0_5)] 31 (0, 0))) ∧ Aside0 (Below w.heap.size w wc))
   case first =>
    have H := HC6.out
    clear HC6
    replace H := Option.bind_eq_some_iff.mp H
    obtain ⟨t388, A90, H⟩ := H
    try dsimp only at H
    have A9 := Aside0.mk A90
    clear A90
    by_cases c10 : t388 = true
    ·subst c10
     rw [if_pos rfl] at H
     replace H := Option.bind_eq_some_iff.mp H
     obtain ⟨t389, A110, H⟩ := H
     try dsimp only at H
     have A11 := Aside0.mk A110
     clear A110
     by_cases c12 : t389 = true
     ·subst c12
      rw [if_pos rfl] at H
      replace H := Option.bind_eq_some_iff.mp H
      obtain ⟨t390, A130, H⟩ := H
      try dsimp only at H
      have A13 := Aside0.mk A130
      clear A130
      by_cases c14 : t390 = true
      ·subst c14
       rw [if_pos rfl] at H
       have H' := Aside0.mk H
       clear H
       obtain ⟨⟨hcz15_0, hcz15_1, hcz15_2, hcz15_3, hcz15_4, hcz15_5⟩, hfz15_0, hfz15_1, hfz15_2, hfz15_3, hfz15_4, hfz15_5⟩ := Op.cells6 BK383.out
       go_wp2_with (first | ((with_reducible refine gate_callee (f := 50) rfl ?_); refine goesL_ (some 57) rfl rfl Tryz.func50 (by kernel_rfl) rfl #[.int .i64 a0_1, .int .i64 0, .int .i64 2] rfl ab5 ?_; (with_reducible refine (impl_inRange.calls a0_1 0 2 true _ A9.out).mono ?_); rintro e w' ⟨rfl, ⟨nd, rfl⟩⟩; refine ⟨_, rfl, ?_⟩) | (go_at_call 51; (with_reducible refine (impl_NameOk.calls k a0_2 true _ A11.out).mono ?_); rintro e w16 ⟨rfl, hb⟩; have n0_ := Aside0.mk (blk_below (g := gb383) (o := .cells #[.int .i64 a0_0, .int .i64 a0_1, .string a0_2, .slice A0_3 l0_3.length c0_3, .string a0_4, .slice A0_5 l0_5.length c0_5] 31 (0, 0)) (ab3 BK383) hb); have n1_ := Aside0.mk (below_step (ab2 GE383) hb); clear BK383; clear HB; have BK383 := n0_; have HB := n1_; clear n0_ n1_; (try clear hb); (try clear hb2); (try clear hk); (try clear hi); obtain ⟨⟨hcz17_0, hcz17_1, hcz17_2, hcz17_3, hcz17_4, hcz17_5⟩, hfz17_0, hfz17_1, hfz17_2, hfz17_3, hfz17_4, hfz17_5⟩ := Op.cells6 BK383.out) | (go_at_call 52; (with_reducible refine (impl_strictAttrs.calls k _ _ l0_3 true _ ?side1 ?side2 A13.out).mono ?_); (case side1 => repeat (first | exact (Kd.C_below HR0_3.out HB.out) | (with_reducible refine Kd.C_alloc ?_ _) | (with_reducible refine Kd.C_drewN ?_ _) | (with_reducible refine Kd.C_drew ?_))); (case side2 => exact HC0_3.out); rintro e w18 ⟨rfl, hb⟩; have n0_ := Aside0.mk (blk_below (g := gb383) (o := .cells #[.int .i64 a0_0, .int .i64 a0_1, .string a0_2, .slice A0_3 l0_3.length c0_3, .string a0_4, .slice A0_5 l0_5.length c0_5] 31 (0, 0)) (ab3 BK383) hb); have n1_ := Aside0.mk (below_step (ab2 GE383) hb); clear BK383; clear HB; have BK383 := n0_; have HB := n1_; clear n0_ n1_; (try clear hb); (try clear hb2); (try clear hk); (try clear hi); obtain ⟨⟨hcz19_0, hcz19_1, hcz19_2, hcz19_3, hcz19_4, hcz19_5⟩, hfz19_0, hfz19_1, hfz19_2, hfz19_3, hfz19_4, hfz19_5⟩ := Op.cells6 BK383.out))
       go_meet
       case rel => exact ⟨_, ((a0_4.toList != ([] : List UInt8))), (by first | rfl | (simp; done) | (simp [*]; done) | exact congrArg Value.bool (Op.bne_nil _).symm), H', ⟨by first | omega | exact Nat.le_refl _⟩, ⟨ab3 BK383⟩, ⟨ab2 GE383⟩⟩
      ·replace c14 := Bool.eq_false_iff.mpr c14
       subst c14
       rw [if_neg (show ¬ (false = true) by decide)] at H
       have H' := Aside0.mk H
       clear H
       obtain ⟨⟨hcz20_0, hcz20_1, hcz20_2, hcz20_3, hcz20_4, hcz20_5⟩, hfz20_0, hfz20_1, hfz20_2, hfz20_3, hfz20_4, hfz20_5⟩ := Op.cells6 BK383.out
       go_wp2_with (first | ((with_reducible refine gate_callee (f := 50) rfl ?_); refine goesL_ (some 57) rfl rfl Tryz.func50 (by kernel_rfl) rfl #[.int .i64 a0_1, .int .i64 0, .int .i64 2] rfl ab5 ?_; (with_reducible refine (impl_inRange.calls a0_1 0 2 true _ A9.out).mono ?_); rintro e w' ⟨rfl, ⟨nd, rfl⟩⟩; refine ⟨_, rfl, ?_⟩) | (go_at_call 51; (with_reducible refine (impl_NameOk.calls k a0_2 true _ A11.out).mono ?_); rintro e w21 ⟨rfl, hb⟩; have n0_ := Aside0.mk (blk_below (g := gb383) (o := .cells #[.int .i64 a0_0, .int .i64 a0_1, .string a0_2, .slice A0_3 l0_3.length c0_3, .string a0_4, .slice A0_5 l0_5.length c0_5] 31 (0, 0)) (ab3 BK383) hb); have n1_ := Aside0.mk (below_step (ab2 GE383) hb); clear BK383; clear HB; have BK383 := n0_; have HB := n1_; clear n0_ n1_; (try clear hb); (try clear hb2); (try clear hk); (try clear hi); obtain ⟨⟨hcz22_0, hcz22_1, hcz22_2, hcz22_3, hcz22_4, hcz22_5⟩, hfz22_0, hfz22_1, hfz22_2, hfz22_3, hfz22_4, hfz22_5⟩ := Op.cells6 BK383.out) | (go_at_call 52; (with_reducible refine (impl_strictAttrs.calls k _ _ l0_3 false _ ?side1 ?side2 A13.out).mono ?_); (case side1 => repeat (first | exact (Kd.C_below HR0_3.out HB.out) | (with_reducible refine Kd.C_alloc ?_ _) | (with_reducible refine Kd.C_drewN ?_ _) | (with_reducible refine Kd.C_drew ?_))); (case side2 => exact HC0_3.out); rintro e w23 ⟨rfl, hb⟩; have n0_ := Aside0.mk (blk_below (g := gb383) (o := .cells #[.int .i64 a0_0, .int .i64 a0_1, .string a0_2, .slice A0_3 l0_3.length c0_3, .string a0_4, .slice A0_5 l0_5.length c0_5] 31 (0, 0)) (ab3 BK383) hb); have n1_ := Aside0.mk (below_step (ab2 GE383) hb); clear BK383; clear HB; have BK383 := n0_; have HB := n1_; clear n0_ n1_; (try clear hb); (try clear hb2); (try clear hk); (try clear hi)))
       go_meet
       case rel => exact ⟨_, (true), ab6, H', ⟨by first | omega | exact Nat.le_refl _⟩, ⟨ab3 BK383⟩, ⟨ab2 GE383⟩⟩
     ·replace c12 := Bool.eq_false_iff.mpr c12
      subst c12
      rw [if_neg (show ¬ (false = true) by decide)] at H
      have H' := Aside0.mk H
      clear H
      obtain ⟨⟨hcz24_0, hcz24_1, hcz24_2, hcz24_3, hcz24_4, hcz24_5⟩, hfz24_0, hfz24_1, hfz24_2, hfz24_3, hfz24_4, hfz24_5⟩ := Op.cells6 BK383.out
      go_wp2_with (first | ((with_reducible refine gate_callee (f := 50) rfl ?_); refine goesL_ (some 57) rfl rfl Tryz.func50 (by kernel_rfl) rfl #[.int .i64 a0_1, .int .i64 0, .int .i64 2] rfl ab5 ?_; (with_reducible refine (impl_inRange.calls a0_1 0 2 true _ A9.out).mono ?_); rintro e w' ⟨rfl, ⟨nd, rfl⟩⟩; refine ⟨_, rfl, ?_⟩) | (go_at_call 51; (with_reducible refine (impl_NameOk.calls k a0_2 false _ A11.out).mono ?_); rintro e w25 ⟨rfl, hb⟩; have n0_ := Aside0.mk (blk_below (g := gb383) (o := .cells #[.int .i64 a0_0, .int .i64 a0_1, .string a0_2, .slice A0_3 l0_3.length c0_3, .string a0_4, .slice A0_5 l0_5.length c0_5] 31 (0, 0)) (ab3 BK383) hb); have n1_ := Aside0.mk (below_step (ab2 GE383) hb); clear BK383; clear HB; have BK383 := n0_; have HB := n1_; clear n0_ n1_; (try clear hb); (try clear hb2); (try clear hk); (try clear hi)))
      go_meet
      case rel => exact ⟨_, (true), ab6, H', ⟨by first | omega | exact Nat.le_refl _⟩, ⟨ab3 BK383⟩, ⟨ab2 GE383⟩⟩
    ·replace c10 := Bool.eq_false_iff.mpr c10
     subst c10
     rw [if_neg (show ¬ (false = true) by decide)] at H
     have H' := Aside0.mk H
     clear H
     obtain ⟨⟨hcz26_0, hcz26_1, hcz26_2, hcz26_3, hcz26_4, hcz26_5⟩, hfz26_0, hfz26_1, hfz26_2, hfz26_3, hfz26_4, hfz26_5⟩ := Op.cells6 BK383.out
     go_wp2_with (first | ((with_reducible refine gate_callee (f := 50) rfl ?_); refine goesL_ (some 57) rfl rfl Tryz.func50 (by kernel_rfl) rfl #[.int .i64 a0_1, .int .i64 0, .int .i64 2] rfl ab5 ?_; (with_reducible refine (impl_inRange.calls a0_1 0 2 false _ A9.out).mono ?_); rintro e w' ⟨rfl, ⟨nd, rfl⟩⟩; refine ⟨_, rfl, ?_⟩))
     go_meet
     case rel => exact ⟨_, (true), ab6, H', ⟨by first | omega | exact Nat.le_refl _⟩, ⟨ab3 BK383⟩, ⟨ab2 GE383⟩⟩
   case rest =>
    clear HC6
    obtain ⟨kq, x75_5, rfl, HA, HJ5, BK383, HB⟩ := hcut
    cases kq with
    | zero => exact absurd HA.out (by simp [impl_elOk.j1])
    | succ kj5 =>
     have H := HA.out
     clear HA
     simp only [impl_elOk.j1] at H
     by_cases c27 : x75_5 = true
     ·subst c27
      rw [if_pos rfl] at H
      obtain rfl := Option.some.inj H
      go_wp2
      go_ret
      exact ⟨ab7, ab2 GE383⟩
     ·replace c27 := Bool.eq_false_iff.mpr c27
      subst c27
      rw [if_neg (show ¬ (false = true) by decide)] at H
      have H' := Aside0.mk H
      clear H
      obtain ⟨⟨hcz28_0, hcz28_1, hcz28_2, hcz28_3, hcz28_4, hcz28_5⟩, hfz28_0, hfz28_1, hfz28_2, hfz28_3, hfz28_4, hfz28_5⟩ := Op.cells6 BK383.out
      go_wp2
      go_loopg [79] kj5 (fun kq v79 w' => ∃ (x79_2 : Int), v79 = .int .i64 x79_2 ∧ Aside0 (impl_elOk.l0 kq a1 l0_5 (l0_5.length : Int) x79_2 a0_0 a0_1 a0_2 l0_3 a0_4 l0_5 = some r) ∧ Aside0 (kq ≤ kj5) ∧ Aside0 (w'.heap[gb383]? = some (.cells #[.int .i64 a0_0, .int .i64 a0_1, .string a0_2, (.slice A0_3 l0_3.length c0_3), .string a0_4, (.slice A0_5 l0_5.length c0_5)] 31 (0, 0))) ∧ Aside0 (Below w.heap.size w w'))
      case atStart => exact ⟨(0), ab6, H', ⟨Nat.le_refl _⟩, ⟨ab3 BK383⟩, ⟨ab2 GE383⟩⟩
      case round =>
       clear H'
       obtain ⟨x79_2, rfl, HA, HK2, BK383, HB⟩ := hrel
       cases gk with
       | zero => exact absurd HA.out (by simp [impl_elOk.l0])
       | succ k2 =>
        have H := HA.out
        clear HA
        simp only [impl_elOk.l0] at H
        by_cases c29 : x79_2 < (l0_5.length : Int)
        ·rw [if_pos c29] at H
         have c29b0 := decide_eq_true c29
         clear c29
         by_cases c30 : 0 ≤ x79_2
         case neg => rw [if_neg c30] at H; exact absurd H (by simp)
         rw [if_pos c30] at H
         have c30b0 := decide_eq_true c30
         clear c30
         by_cases c31 : x79_2 < (l0_5.length : Int)
         case neg => rw [if_neg c31] at H; exact absurd H (by simp)
         rw [if_pos c31] at H
         have c31b0 := decide_eq_true c31
         clear c31
         replace H := Option.bind_eq_some_iff.mp H
         obtain ⟨t393, A320, H⟩ := H
         try dsimp only at H
         have A32 := Aside0.mk A320
         clear A320
         by_cases c33 : t393 = true
         ·subst c33
          rw [if_pos rfl] at H
          by_cases c34 : x79_2 > 0
          ·rw [if_pos c34] at H
           have c34b0 : decide (0 < x79_2) = true := decide_eq_true c34
           clear c34
           by_cases c35 : ((rd_T31 l0_5 x79_2).f0) = 2
           ·rw [if_pos c35] at H
            have c35b0 : (((rd_T31 l0_5 x79_2).f0) == 2) = true := beq_iff_eq.mpr c35
            have c35b1 : (((rd_T31 l0_5 x79_2).f0) != 2) = false := bne_eq_false_iff_eq.mpr c35
            clear c35
            obtain ⟨ji36, hji36⟩ : ∃ j_ : Int, (wrap64 (x79_2 - 1)) = j_ := ⟨_, rfl⟩
            replace H : (if 0 ≤ (ji36) then (if (ji36) < (l0_5.length : Int) then (if ((rd_T31 l0_5 (ji36)).f0) = 2 then (some false) else (impl_elOk.l0 k2 a1 l0_5 (l0_5.length : Int) (wrap64 (x79_2 + 1)) a0_0 a0_1 a0_2 l0_3 a0_4 l0_5)) else (none)) else (none)) = some r := by first | (rw [hji36] at H; exact H) | (simp only [hji36] at H ⊢; exact H)
            (try rw [hji36] at A32)
            have hji36w : (IntKind.i64.wrap (x79_2 - 1)) = ji36 := (i64_w _).trans hji36
            by_cases c37 : 0 ≤ (ji36)
            case neg => rw [if_neg c37] at H; exact absurd H (by simp)
            rw [if_pos c37] at H
            have c37b0 := decide_eq_true c37
            clear c37
            by_cases c38 : (ji36) < (l0_5.length : Int)
            case neg => rw [if_neg c38] at H; exact absurd H (by simp)
            rw [if_pos c38] at H
            have c38b0 := decide_eq_true c38
            clear c38
            by_cases c39 : ((rd_T31 l0_5 (ji36)).f0) = 2
            ·rw [if_pos c39] at H
             have c39b0 : (((rd_T31 l0_5 (ji36)).f0) == 2) = true := beq_iff_eq.mpr c39
             have c39b1 : (((rd_T31 l0_5 (ji36)).f0) != 2) = false := bne_eq_false_iff_eq.mpr c39
             clear c39
             obtain rfl := Option.some.inj H
             have p391 : 0 ≤ (x79_2 : Int) := of_decide_eq_true ab4
             have q391 : x79_2 < (l0_5.length : Int) := of_decide_eq_true ab4
             obtain ⟨ad391, A391_3, c391_3, A391_5, c391_5, e391, hx391_0, hx391_1, hx391_2, hx391_3, hx391_4, hx391_5, hl391_3, hi391_3, hl391_5, hi391_5⟩ := at_T31 HR0_5.out x79_2 p391 q391
             cases e391
             replace hx391_0 := pw_cell_below HB.out hx391_0
             replace hx391_1 := pw_cell_below HB.out hx391_1
             replace hx391_2 := pw_cell_below HB.out hx391_2
             replace hx391_3 := pw_cell_below HB.out hx391_3
             replace hx391_4 := pw_cell_below HB.out hx391_4
             replace hx391_5 := pw_cell_below HB.out hx391_5
             have HR391_3 := Aside0.mk hi391_3
             have HC391_3 := Aside0.mk hl391_3
             clear hi391_3 hl391_3
             have HR391_5 := Aside0.mk hi391_5
             have HC391_5 := Aside0.mk hl391_5
             clear hi391_5 hl391_5
             replace p391 := eq_true p391
             replace q391 := eq_true q391
             go_wp2_with (first | ((with_reducible refine gate_dst (N := 6) rfl ?_); (try (refine gate_guard (by rfl) ?_; dsimp only)); refine box_event ?hg (N := 6) ?hd (cs := #[.int .i64 0, .int .i64 0, .string (⟨#[]⟩ : ByteArray), .slice none 0 0, .string (⟨#[]⟩ : ByteArray), .slice none 0 0]) (t := 31) ?hr ?_; (case hd => rfl); (case hg => rfl); (case hr => first | (go_simp; done) | (go_simp; rfl)); intro gb392 hg w40 hbox hb; have n0_ := Aside0.mk (blk_below (g := gb383) (o := .cells #[.int .i64 a0_0, .int .i64 a0_1, .string a0_2, .slice A0_3 l0_3.length c0_3, .string a0_4, .slice (some ad391) l0_5.length c0_5] 31 (0, 0)) (ab3 BK383) hb); have n1_ := Aside0.mk (below_step (ab2 GE383) hb); have n2_ := Aside0.mk (hbox); have n3_ := Aside0.mk ((by rw [hg]; exact (below_size (ab2 GE383)) : w.heap.size ≤ gb392)); have n4_ := Aside0.mk ((by rw [hg]; exact (below_size (ab2 GE383)) : w.heap.size ≤ gb392)); have n5_ := Aside0.mk ((by rw [hg]; exact Nat.ne_of_lt (blk_lt (g := gb383) (o := .cells #[.int .i64 a0_0, .int .i64 a0_1, .string a0_2, .slice A0_3 l0_3.length c0_3, .string a0_4, .slice (some ad391) l0_5.length c0_5] 31 (0, 0)) (ab3 BK383)) : gb383 ≠ gb392)); have n6_ := Aside0.mk ((by rw [hg]; exact Nat.ne_of_gt (blk_lt (g := gb383) (o := .cells #[.int .i64 a0_0, .int .i64 a0_1, .string a0_2, .slice A0_3 l0_3.length c0_3, .string a0_4, .slice (some ad391) l0_5.length c0_5] 31 (0, 0)) (ab3 BK383)) : gb392 ≠ gb383)); clear BK383; clear HB; have BK383 := n0_; have HB := n1_; have BK392 := n2_; have GW392 := n3_; have GE392 := n4_; have NB383_392 := n5_; have NB392_383 := n6_; clear n0_ n1_ n2_ n3_ n4_ n5_ n6_; clear hb hbox hg; have hnb41 := NB392_383.out; have hnc41 := NB383_392.out; obtain ⟨⟨hcz42_0, hcz42_1, hcz42_2, hcz42_3, hcz42_4, hcz42_5⟩, hfz42_0, hfz42_1, hfz42_2, hfz42_3, hfz42_4, hfz42_5⟩ := Op.cells6 BK392.out) | ((with_reducible refine gate_callee (f := 33) rfl ?_); refine goesL_ (some 87) rfl rfl Tryz.func33 (by kernel_rfl) rfl #[.agg #[.int .i64 ((rd_T31 l0_5 x79_2).f0), .int .i64 ((rd_T31 l0_5 x79_2).f1), .string ((rd_T31 l0_5 x79_2).f2), .slice A391_3 ((rd_T31 l0_5 x79_2).f3).length c391_3, .string ((rd_T31 l0_5 x79_2).f4), .slice A391_5 ((rd_T31 l0_5 x79_2).f5).length c391_5], .int .i64 (wrap64 (a1 - 1))] rfl ab5 ?_; (with_reducible refine (ih k2 (by have := HJ5.out; have := HK2.out; omega) ((rd_T31 l0_5 x79_2).f0) ((rd_T31 l0_5 x79_2).f1) ((rd_T31 l0_5 x79_2).f2) _ _ ((rd_T31 l0_5 x79_2).f3) ((rd_T31 l0_5 x79_2).f4) _ _ ((rd_T31 l0_5 x79_2).f5) (wrap64 (a1 - 1)) true _ ?side1 ?side2 ?side3 ?side4 M_ ?side5 A32.out).mono ?_); (case side1 => exact Kd.C_below HR391_3.out (by repeat (first | (with_reducible first | exact HB.out | apply below_alloc | apply pw_below_drewN | apply below_drew1 | refine below_set ?_ GE383.out | refine below_set ?_ GE392.out) | exact HB.out))); (case side2 => exact HC391_3.out); (case side3 => exact Kd.C_below HR391_5.out (by repeat (first | (with_reducible first | exact HB.out | apply below_alloc | apply pw_below_drewN | apply below_drew1 | refine below_set ?_ GE383.out | refine below_set ?_ GE392.out) | exact HB.out))); (case side4 => exact HC391_5.out); (case side5 => exact pw_cell_below (by repeat (first | (with_reducible first | exact HB.out | apply below_alloc | apply pw_below_drewN | apply below_drew1 | refine below_set ?_ GE383.out | refine below_set ?_ GE392.out) | exact HB.out)) HM_.out); rintro e w43 ⟨rfl, hb⟩; refine ⟨_, rfl, ?_⟩; have n0_ := Aside0.mk (blk_below (g := gb383) (o := .cells #[.int .i64 a0_0, .int .i64 a0_1, .string a0_2, .slice A0_3 l0_3.length c0_3, .string a0_4, .slice (some ad391) l0_5.length c0_5] 31 (0, 0)) (by (with_reducible repeat (first | refine blk_drewN ?_ _ | refine blk_drew ?_ | refine blk_alloc ?_ _)); refine blk_far ?_ NB383_392.out _; (with_reducible repeat (first | refine blk_drewN ?_ _ | refine blk_drew ?_ | refine blk_alloc ?_ _)); refine blk_far ?_ NB383_392.out _; (with_reducible repeat (first | refine blk_drewN ?_ _ | refine blk_drew ?_ | refine blk_alloc ?_ _)); refine blk_far ?_ NB383_392.out _; (with_reducible repeat (first | refine blk_drewN ?_ _ | refine blk_drew ?_ | refine blk_alloc ?_ _)); refine blk_far ?_ NB383_392.out _; (with_reducible repeat (first | refine blk_drewN ?_ _ | refine blk_drew ?_ | refine blk_alloc ?_ _)); refine blk_far ?_ NB383_392.out _; (with_reducible repeat (first | refine blk_drewN ?_ _ | refine blk_drew ?_ | refine blk_alloc ?_ _)); refine blk_far ?_ NB383_392.out _; (with_reducible repeat (first | refine blk_drewN ?_ _ | refine blk_drew ?_ | refine blk_alloc ?_ _)); exact BK383.out) hb); have n1_ := Aside0.mk (blk_below (g := gb392) (o := .cells #[.int .i64 ((rd_T31 l0_5 x79_2).f0), .int .i64 ((rd_T31 l0_5 x79_2).f1), .string ((rd_T31 l0_5 x79_2).f2), .slice A391_3 ((rd_T31 l0_5 x79_2).f3).length c391_3, .string ((rd_T31 l0_5 x79_2).f4), .slice A391_5 ((rd_T31 l0_5 x79_2).f5).length c391_5] 31 (0, 0)) (by (with_reducible repeat (first | refine blk_drewN ?_ _ | refine blk_drew ?_ | refine blk_alloc ?_ _)); refine blk_put (cs := #[.int .i64 ((rd_T31 l0_5 x79_2).f0), .int .i64 ((rd_T31 l0_5 x79_2).f1), .string ((rd_T31 l0_5 x79_2).f2), .slice A391_3 ((rd_T31 l0_5 x79_2).f3).length c391_3, .string ((rd_T31 l0_5 x79_2).f4), .slice none 0 0]) ?_ 5 _ rfl; (with_reducible repeat (first | refine blk_drewN ?_ _ | refine blk_drew ?_ | refine blk_alloc ?_ _)); refine blk_put (cs := #[.int .i64 ((rd_T31 l0_5 x79_2).f0), .int .i64 ((rd_T31 l0_5 x79_2).f1), .string ((rd_T31 l0_5 x79_2).f2), .slice A391_3 ((rd_T31 l0_5 x79_2).f3).length c391_3, .string (⟨#[]⟩ : ByteArray), .slice none 0 0]) ?_ 4 _ rfl; (with_reducible repeat (first | refine blk_drewN ?_ _ | refine blk_drew ?_ | refine blk_alloc ?_ _)); refine blk_put (cs := #[.int .i64 ((rd_T31 l0_5 x79_2).f0), .int .i64 ((rd_T31 l0_5 x79_2).f1), .string ((rd_T31 l0_5 x79_2).f2), .slice none 0 0, .string (⟨#[]⟩ : ByteArray), .slice none 0 0]) ?_ 3 _ rfl; (with_reducible repeat (first | refine blk_drewN ?_ _ | refine blk_drew ?_ | refine blk_alloc ?_ _)); refine blk_put (cs := #[.int .i64 ((rd_T31 l0_5 x79_2).f0), .int .i64 ((rd_T31 l0_5 x79_2).f1), .string (⟨#[]⟩ : ByteArray), .slice none 0 0, .string (⟨#[]⟩ : ByteArray), .slice none 0 0]) ?_ 2 _ rfl; (with_reducible repeat (first | refine blk_drewN ?_ _ | refine blk_drew ?_ | refine blk_alloc ?_ _)); refine blk_put (cs := #[.int .i64 ((rd_T31 l0_5 x79_2).f0), .int .i64 0, .string (⟨#[]⟩ : ByteArray), .slice none 0 0, .string (⟨#[]⟩ : ByteArray), .slice none 0 0]) ?_ 1 _ rfl; (with_reducible repeat (first | refine blk_drewN ?_ _ | refine blk_drew ?_ | refine blk_alloc ?_ _)); refine blk_put (cs := #[.int .i64 0, .int .i64 0, .string (⟨#[]⟩ : ByteArray), .slice none 0 0, .string (⟨#[]⟩ : ByteArray), .slice none 0 0]) ?_ 0 _ rfl; (with_reducible repeat (first | refine blk_drewN ?_ _ | refine blk_drew ?_ | refine blk_alloc ?_ _)); exact BK392.out) hb); have n2_ := Aside0.mk (below_step (by repeat (first | (with_reducible first | exact HB.out | apply below_alloc | apply pw_below_drewN | apply below_drew1 | refine below_set ?_ GE383.out | refine below_set ?_ GE392.out) | exact HB.out)) hb); clear BK383; clear BK392; clear HB; have BK383 := n0_; have BK392 := n1_; have HB := n2_; clear n0_ n1_ n2_; (try clear hb); (try clear hb2); (try clear hk); (try clear hi); obtain ⟨⟨hcz44_0, hcz44_1, hcz44_2, hcz44_3, hcz44_4, hcz44_5⟩, hfz44_0, hfz44_1, hfz44_2, hfz44_3, hfz44_4, hfz44_5⟩ := Op.cells6 BK392.out; obtain ⟨⟨hcz45_0, hcz45_1, hcz45_2, hcz45_3, hcz45_4, hcz45_5⟩, hfz45_0, hfz45_1, hfz45_2, hfz45_3, hfz45_4, hfz45_5⟩ := Op.cells6 BK383.out; have p394 : 0 ≤ ((ji36) : Int) := of_decide_eq_true ab4; have q394 : (ji36) < (l0_5.length : Int) := of_decide_eq_true ab4; obtain ⟨ad394, A394_3, c394_3, A394_5, c394_5, e394, hx394_0, hx394_1, hx394_2, hx394_3, hx394_4, hx394_5, hl394_3, hi394_3, hl394_5, hi394_5⟩ := at_T31 HR0_5.out (ji36) p394 q394; obtain rfl : ad391 = ad394 := (by injection e394); replace hx394_0 := pw_cell_below HB.out hx394_0; replace hx394_1 := pw_cell_below HB.out hx394_1; replace hx394_2 := pw_cell_below HB.out hx394_2; replace hx394_3 := pw_cell_below HB.out hx394_3; replace hx394_4 := pw_cell_below HB.out hx394_4; replace hx394_5 := pw_cell_below HB.out hx394_5; have HR394_3 := Aside0.mk hi394_3; have HC394_3 := Aside0.mk hl394_3; clear hi394_3 hl394_3; have HR394_5 := Aside0.mk hi394_5; have HC394_5 := Aside0.mk hl394_5; clear hi394_5 hl394_5; replace p394 := eq_true p394; replace q394 := eq_true q394))
             go_ret
             exact ⟨by first | rfl | (simp [errW_none, errW_some] <;> rfl) | (simp only [← hji36]; first | rfl | (simp [errW_none, errW_some] <;> rfl)) | (simp [*, errW_none, errW_some] <;> rfl), by repeat (first | (with_reducible first | exact HB.out | apply below_alloc | apply pw_below_drewN | apply below_drew1 | refine below_set ?_ GE383.out | refine below_set ?_ GE392.out) | exact HB.out)⟩
            ·rw [if_neg c39] at H
             have c39b0 : (((rd_T31 l0_5 (ji36)).f0) == 2) = false := beq_eq_false_iff_ne.mpr c39
             have c39b1 : (((rd_T31 l0_5 (ji36)).f0) != 2) = true := bne_iff_ne.mpr c39
             have H' := Aside0.mk H
             clear H
             have p391 : 0 ≤ (x79_2 : Int) := of_decide_eq_true ab4
             have q391 : x79_2 < (l0_5.length : Int) := of_decide_eq_true ab4
             obtain ⟨ad391, A391_3, c391_3, A391_5, c391_5, e391, hx391_0, hx391_1, hx391_2, hx391_3, hx391_4, hx391_5, hl391_3, hi391_3, hl391_5, hi391_5⟩ := at_T31 HR0_5.out x79_2 p391 q391
             cases e391
             replace hx391_0 := pw_cell_below HB.out hx391_0
             replace hx391_1 := pw_cell_below HB.out hx391_1
             replace hx391_2 := pw_cell_below HB.out hx391_2
             replace hx391_3 := pw_cell_below HB.out hx391_3
             replace hx391_4 := pw_cell_below HB.out hx391_4
             replace hx391_5 := pw_cell_below HB.out hx391_5
             have HR391_3 := Aside0.mk hi391_3
             have HC391_3 := Aside0.mk hl391_3
             clear hi391_3 hl391_3
             have HR391_5 := Aside0.mk hi391_5
             have HC391_5 := Aside0.mk hl391_5
             clear hi391_5 hl391_5
             replace p391 := eq_true p391
             replace q391 := eq_true q391
             go_wp2_with (first | ((with_reducible refine gate_dst (N := 6) rfl ?_); (try (refine gate_guard (by rfl) ?_; dsimp only)); refine box_event ?hg (N := 6) ?hd (cs := #[.int .i64 0, .int .i64 0, .string (⟨#[]⟩ : ByteArray), .slice none 0 0, .string (⟨#[]⟩ : ByteArray), .slice none 0 0]) (t := 31) ?hr ?_; (case hd => rfl); (case hg => rfl); (case hr => first | (go_simp; done) | (go_simp; rfl)); intro gb392 hg w46 hbox hb; have n0_ := Aside0.mk (blk_below (g := gb383) (o := .cells #[.int .i64 a0_0, .int .i64 a0_1, .string a0_2, .slice A0_3 l0_3.length c0_3, .string a0_4, .slice (some ad391) l0_5.length c0_5] 31 (0, 0)) (ab3 BK383) hb); have n1_ := Aside0.mk (below_step (ab2 GE383) hb); have n2_ := Aside0.mk (hbox); have n3_ := Aside0.mk ((by rw [hg]; exact (below_size (ab2 GE383)) : w.heap.size ≤ gb392)); have n4_ := Aside0.mk ((by rw [hg]; exact (below_size (ab2 GE383)) : w.heap.size ≤ gb392)); have n5_ := Aside0.mk ((by rw [hg]; exact Nat.ne_of_lt (blk_lt (g := gb383) (o := .cells #[.int .i64 a0_0, .int .i64 a0_1, .string a0_2, .slice A0_3 l0_3.length c0_3, .string a0_4, .slice (some ad391) l0_5.length c0_5] 31 (0, 0)) (ab3 BK383)) : gb383 ≠ gb392)); have n6_ := Aside0.mk ((by rw [hg]; exact Nat.ne_of_gt (blk_lt (g := gb383) (o := .cells #[.int .i64 a0_0, .int .i64 a0_1, .string a0_2, .slice A0_3 l0_3.length c0_3, .string a0_4, .slice (some ad391) l0_5.length c0_5] 31 (0, 0)) (ab3 BK383)) : gb392 ≠ gb383)); clear BK383; clear HB; have BK383 := n0_; have HB := n1_; have BK392 := n2_; have GW392 := n3_; have GE392 := n4_; have NB383_392 := n5_; have NB392_383 := n6_; clear n0_ n1_ n2_ n3_ n4_ n5_ n6_; clear hb hbox hg; have hnb47 := NB392_383.out; have hnc47 := NB383_392.out; obtain ⟨⟨hcz48_0, hcz48_1, hcz48_2, hcz48_3, hcz48_4, hcz48_5⟩, hfz48_0, hfz48_1, hfz48_2, hfz48_3, hfz48_4, hfz48_5⟩ := Op.cells6 BK392.out) | ((with_reducible refine gate_callee (f := 33) rfl ?_); refine goesL_ (some 87) rfl rfl Tryz.func33 (by kernel_rfl) rfl #[.agg #[.int .i64 ((rd_T31 l0_5 x79_2).f0), .int .i64 ((rd_T31 l0_5 x79_2).f1), .string ((rd_T31 l0_5 x79_2).f2), .slice A391_3 ((rd_T31 l0_5 x79_2).f3).length c391_3, .string ((rd_T31 l0_5 x79_2).f4), .slice A391_5 ((rd_T31 l0_5 x79_2).f5).length c391_5], .int .i64 (wrap64 (a1 - 1))] rfl ab5 ?_; (with_reducible refine (ih k2 (by have := HJ5.out; have := HK2.out; omega) ((rd_T31 l0_5 x79_2).f0) ((rd_T31 l0_5 x79_2).f1) ((rd_T31 l0_5 x79_2).f2) _ _ ((rd_T31 l0_5 x79_2).f3) ((rd_T31 l0_5 x79_2).f4) _ _ ((rd_T31 l0_5 x79_2).f5) (wrap64 (a1 - 1)) true _ ?side1 ?side2 ?side3 ?side4 M_ ?side5 A32.out).mono ?_); (case side1 => exact Kd.C_below HR391_3.out (by repeat (first | (with_reducible first | exact HB.out | apply below_alloc | apply pw_below_drewN | apply below_drew1 | refine below_set ?_ GE383.out | refine below_set ?_ GE392.out) | exact HB.out))); (case side2 => exact HC391_3.out); (case side3 => exact Kd.C_below HR391_5.out (by repeat (first | (with_reducible first | exact HB.out | apply below_alloc | apply pw_below_drewN | apply below_drew1 | refine below_set ?_ GE383.out | refine below_set ?_ GE392.out) | exact HB.out))); (case side4 => exact HC391_5.out); (case side5 => exact pw_cell_below (by repeat (first | (with_reducible first | exact HB.out | apply below_alloc | apply pw_below_drewN | apply below_drew1 | refine below_set ?_ GE383.out | refine below_set ?_ GE392.out) | exact HB.out)) HM_.out); rintro e w49 ⟨rfl, hb⟩; refine ⟨_, rfl, ?_⟩; have n0_ := Aside0.mk (blk_below (g := gb383) (o := .cells #[.int .i64 a0_0, .int .i64 a0_1, .string a0_2, .slice A0_3 l0_3.length c0_3, .string a0_4, .slice (some ad391) l0_5.length c0_5] 31 (0, 0)) (by (with_reducible repeat (first | refine blk_drewN ?_ _ | refine blk_drew ?_ | refine blk_alloc ?_ _)); refine blk_far ?_ NB383_392.out _; (with_reducible repeat (first | refine blk_drewN ?_ _ | refine blk_drew ?_ | refine blk_alloc ?_ _)); refine blk_far ?_ NB383_392.out _; (with_reducible repeat (first | refine blk_drewN ?_ _ | refine blk_drew ?_ | refine blk_alloc ?_ _)); refine blk_far ?_ NB383_392.out _; (with_reducible repeat (first | refine blk_drewN ?_ _ | refine blk_drew ?_ | refine blk_alloc ?_ _)); refine blk_far ?_ NB383_392.out _; (with_reducible repeat (first | refine blk_drewN ?_ _ | refine blk_drew ?_ | refine blk_alloc ?_ _)); refine blk_far ?_ NB383_392.out _; (with_reducible repeat (first | refine blk_drewN ?_ _ | refine blk_drew ?_ | refine blk_alloc ?_ _)); refine blk_far ?_ NB383_392.out _; (with_reducible repeat (first | refine blk_drewN ?_ _ | refine blk_drew ?_ | refine blk_alloc ?_ _)); exact BK383.out) hb); have n1_ := Aside0.mk (blk_below (g := gb392) (o := .cells #[.int .i64 ((rd_T31 l0_5 x79_2).f0), .int .i64 ((rd_T31 l0_5 x79_2).f1), .string ((rd_T31 l0_5 x79_2).f2), .slice A391_3 ((rd_T31 l0_5 x79_2).f3).length c391_3, .string ((rd_T31 l0_5 x79_2).f4), .slice A391_5 ((rd_T31 l0_5 x79_2).f5).length c391_5] 31 (0, 0)) (by (with_reducible repeat (first | refine blk_drewN ?_ _ | refine blk_drew ?_ | refine blk_alloc ?_ _)); refine blk_put (cs := #[.int .i64 ((rd_T31 l0_5 x79_2).f0), .int .i64 ((rd_T31 l0_5 x79_2).f1), .string ((rd_T31 l0_5 x79_2).f2), .slice A391_3 ((rd_T31 l0_5 x79_2).f3).length c391_3, .string ((rd_T31 l0_5 x79_2).f4), .slice none 0 0]) ?_ 5 _ rfl; (with_reducible repeat (first | refine blk_drewN ?_ _ | refine blk_drew ?_ | refine blk_alloc ?_ _)); refine blk_put (cs := #[.int .i64 ((rd_T31 l0_5 x79_2).f0), .int .i64 ((rd_T31 l0_5 x79_2).f1), .string ((rd_T31 l0_5 x79_2).f2), .slice A391_3 ((rd_T31 l0_5 x79_2).f3).length c391_3, .string (⟨#[]⟩ : ByteArray), .slice none 0 0]) ?_ 4 _ rfl; (with_reducible repeat (first | refine blk_drewN ?_ _ | refine blk_drew ?_ | refine blk_alloc ?_ _)); refine blk_put (cs := #[.int .i64 ((rd_T31 l0_5 x79_2).f0), .int .i64 ((rd_T31 l0_5 x79_2).f1), .string ((rd_T31 l0_5 x79_2).f2), .slice none 0 0, .string (⟨#[]⟩ : ByteArray), .slice none 0 0]) ?_ 3 _ rfl; (with_reducible repeat (first | refine blk_drewN ?_ _ | refine blk_drew ?_ | refine blk_alloc ?_ _)); refine blk_put (cs := #[.int .i64 ((rd_T31 l0_5 x79_2).f0), .int .i64 ((rd_T31 l0_5 x79_2).f1), .string (⟨#[]⟩ : ByteArray), .slice none 0 0, .string (⟨#[]⟩ : ByteArray), .slice none 0 0]) ?_ 2 _ rfl; (with_reducible repeat (first | refine blk_drewN ?_ _ | refine blk_drew ?_ | refine blk_alloc ?_ _)); refine blk_put (cs := #[.int .i64 ((rd_T31 l0_5 x79_2).f0), .int .i64 0, .string (⟨#[]⟩ : ByteArray), .slice none 0 0, .string (⟨#[]⟩ : ByteArray), .slice none 0 0]) ?_ 1 _ rfl; (with_reducible repeat (first | refine blk_drewN ?_ _ | refine blk_drew ?_ | refine blk_alloc ?_ _)); refine blk_put (cs := #[.int .i64 0, .int .i64 0, .string (⟨#[]⟩ : ByteArray), .slice none 0 0, .string (⟨#[]⟩ : ByteArray), .slice none 0 0]) ?_ 0 _ rfl; (with_reducible repeat (first | refine blk_drewN ?_ _ | refine blk_drew ?_ | refine blk_alloc ?_ _)); exact BK392.out) hb); have n2_ := Aside0.mk (below_step (by repeat (first | (with_reducible first | exact HB.out | apply below_alloc | apply pw_below_drewN | apply below_drew1 | refine below_set ?_ GE383.out | refine below_set ?_ GE392.out) | exact HB.out)) hb); clear BK383; clear BK392; clear HB; have BK383 := n0_; have BK392 := n1_; have HB := n2_; clear n0_ n1_ n2_; (try clear hb); (try clear hb2); (try clear hk); (try clear hi); obtain ⟨⟨hcz50_0, hcz50_1, hcz50_2, hcz50_3, hcz50_4, hcz50_5⟩, hfz50_0, hfz50_1, hfz50_2, hfz50_3, hfz50_4, hfz50_5⟩ := Op.cells6 BK392.out; obtain ⟨⟨hcz51_0, hcz51_1, hcz51_2, hcz51_3, hcz51_4, hcz51_5⟩, hfz51_0, hfz51_1, hfz51_2, hfz51_3, hfz51_4, hfz51_5⟩ := Op.cells6 BK383.out; have p394 : 0 ≤ ((ji36) : Int) := of_decide_eq_true ab4; have q394 : (ji36) < (l0_5.length : Int) := of_decide_eq_true ab4; obtain ⟨ad394, A394_3, c394_3, A394_5, c394_5, e394, hx394_0, hx394_1, hx394_2, hx394_3, hx394_4, hx394_5, hl394_3, hi394_3, hl394_5, hi394_5⟩ := at_T31 HR0_5.out (ji36) p394 q394; obtain rfl : ad391 = ad394 := (by injection e394); replace hx394_0 := pw_cell_below HB.out hx394_0; replace hx394_1 := pw_cell_below HB.out hx394_1; replace hx394_2 := pw_cell_below HB.out hx394_2; replace hx394_3 := pw_cell_below HB.out hx394_3; replace hx394_4 := pw_cell_below HB.out hx394_4; replace hx394_5 := pw_cell_below HB.out hx394_5; have HR394_3 := Aside0.mk hi394_3; have HC394_3 := Aside0.mk hl394_3; clear hi394_3 hl394_3; have HR394_5 := Aside0.mk hi394_5; have HC394_5 := Aside0.mk hl394_5; clear hi394_5 hl394_5; replace p394 := eq_true p394; replace q394 := eq_true q394))
             go_roundg k2
             case measure => have := HJ5.out; have := HK2.out; omega
             case rel => exact ⟨(wrap64 (x79_2 + 1)), ab6, H', ⟨by have := HJ5.out; have := HK2.out; omega⟩, ⟨ab3 BK383⟩, ⟨by repeat (first | (with_reducible first | exact HB.out | apply below_alloc | apply pw_below_drewN | apply below_drew1 | refine below_set ?_ GE383.out | refine below_set ?_ GE392.out) | exact HB.out)⟩⟩
           ·rw [if_neg c35] at H
            have c35b0 : (((rd_T31 l0_5 x79_2).f0) == 2) = false := beq_eq_false_iff_ne.mpr c35
            have c35b1 : (((rd_T31 l0_5 x79_2).f0) != 2) = true := bne_iff_ne.mpr c35
            have H' := Aside0.mk H
            clear H
            have p391 : 0 ≤ (x79_2 : Int) := of_decide_eq_true ab4
            have q391 : x79_2 < (l0_5.length : Int) := of_decide_eq_true ab4
            obtain ⟨ad391, A391_3, c391_3, A391_5, c391_5, e391, hx391_0, hx391_1, hx391_2, hx391_3, hx391_4, hx391_5, hl391_3, hi391_3, hl391_5, hi391_5⟩ := at_T31 HR0_5.out x79_2 p391 q391
            cases e391
            replace hx391_0 := pw_cell_below HB.out hx391_0
            replace hx391_1 := pw_cell_below HB.out hx391_1
            replace hx391_2 := pw_cell_below HB.out hx391_2
            replace hx391_3 := pw_cell_below HB.out hx391_3
            replace hx391_4 := pw_cell_below HB.out hx391_4
            replace hx391_5 := pw_cell_below HB.out hx391_5
            have HR391_3 := Aside0.mk hi391_3
            have HC391_3 := Aside0.mk hl391_3
            clear hi391_3 hl391_3
            have HR391_5 := Aside0.mk hi391_5
            have HC391_5 := Aside0.mk hl391_5
            clear hi391_5 hl391_5
            replace p391 := eq_true p391
            replace q391 := eq_true q391
            go_wp2_with (first | ((with_reducible refine gate_dst (N := 6) rfl ?_); (try (refine gate_guard (by rfl) ?_; dsimp only)); refine box_event ?hg (N := 6) ?hd (cs := #[.int .i64 0, .int .i64 0, .string (⟨#[]⟩ : ByteArray), .slice none 0 0, .string (⟨#[]⟩ : ByteArray), .slice none 0 0]) (t := 31) ?hr ?_; (case hd => rfl); (case hg => rfl); (case hr => first | (go_simp; done) | (go_simp; rfl)); intro gb392 hg w52 hbox hb; have n0_ := Aside0.mk (blk_below (g := gb383) (o := .cells #[.int .i64 a0_0, .int .i64 a0_1, .string a0_2, .slice A0_3 l0_3.length c0_3, .string a0_4, .slice (some ad391) l0_5.length c0_5] 31 (0, 0)) (ab3 BK383) hb); have n1_ := Aside0.mk (below_step (ab2 GE383) hb); have n2_ := Aside0.mk (hbox); have n3_ := Aside0.mk ((by rw [hg]; exact (below_size (ab2 GE383)) : w.heap.size ≤ gb392)); have n4_ := Aside0.mk ((by rw [hg]; exact (below_size (ab2 GE383)) : w.heap.size ≤ gb392)); have n5_ := Aside0.mk ((by rw [hg]; exact Nat.ne_of_lt (blk_lt (g := gb383) (o := .cells #[.int .i64 a0_0, .int .i64 a0_1, .string a0_2, .slice A0_3 l0_3.length c0_3, .string a0_4, .slice (some ad391) l0_5.length c0_5] 31 (0, 0)) (ab3 BK383)) : gb383 ≠ gb392)); have n6_ := Aside0.mk ((by rw [hg]; exact Nat.ne_of_gt (blk_lt (g := gb383) (o := .cells #[.int .i64 a0_0, .int .i64 a0_1, .string a0_2, .slice A0_3 l0_3.length c0_3, .string a0_4, .slice (some ad391) l0_5.length c0_5] 31 (0, 0)) (ab3 BK383)) : gb392 ≠ gb383)); clear BK383; clear HB; have BK383 := n0_; have HB := n1_; have BK392 := n2_; have GW392 := n3_; have GE392 := n4_; have NB383_392 := n5_; have NB392_383 := n6_; clear n0_ n1_ n2_ n3_ n4_ n5_ n6_; clear hb hbox hg; have hnb53 := NB392_383.out; have hnc53 := NB383_392.out; obtain ⟨⟨hcz54_0, hcz54_1, hcz54_2, hcz54_3, hcz54_4, hcz54_5⟩, hfz54_0, hfz54_1, hfz54_2, hfz54_3, hfz54_4, hfz54_5⟩ := Op.cells6 BK392.out) | ((with_reducible refine gate_callee (f := 33) rfl ?_); refine goesL_ (some 87) rfl rfl Tryz.func33 (by kernel_rfl) rfl #[.agg #[.int .i64 ((rd_T31 l0_5 x79_2).f0), .int .i64 ((rd_T31 l0_5 x79_2).f1), .string ((rd_T31 l0_5 x79_2).f2), .slice A391_3 ((rd_T31 l0_5 x79_2).f3).length c391_3, .string ((rd_T31 l0_5 x79_2).f4), .slice A391_5 ((rd_T31 l0_5 x79_2).f5).length c391_5], .int .i64 (wrap64 (a1 - 1))] rfl ab5 ?_; (with_reducible refine (ih k2 (by have := HJ5.out; have := HK2.out; omega) ((rd_T31 l0_5 x79_2).f0) ((rd_T31 l0_5 x79_2).f1) ((rd_T31 l0_5 x79_2).f2) _ _ ((rd_T31 l0_5 x79_2).f3) ((rd_T31 l0_5 x79_2).f4) _ _ ((rd_T31 l0_5 x79_2).f5) (wrap64 (a1 - 1)) true _ ?side1 ?side2 ?side3 ?side4 M_ ?side5 A32.out).mono ?_); (case side1 => exact Kd.C_below HR391_3.out (by repeat (first | (with_reducible first | exact HB.out | apply below_alloc | apply pw_below_drewN | apply below_drew1 | refine below_set ?_ GE383.out | refine below_set ?_ GE392.out) | exact HB.out))); (case side2 => exact HC391_3.out); (case side3 => exact Kd.C_below HR391_5.out (by repeat (first | (with_reducible first | exact HB.out | apply below_alloc | apply pw_below_drewN | apply below_drew1 | refine below_set ?_ GE383.out | refine below_set ?_ GE392.out) | exact HB.out))); (case side4 => exact HC391_5.out); (case side5 => exact pw_cell_below (by repeat (first | (with_reducible first | exact HB.out | apply below_alloc | apply pw_below_drewN | apply below_drew1 | refine below_set ?_ GE383.out | refine below_set ?_ GE392.out) | exact HB.out)) HM_.out); rintro e w55 ⟨rfl, hb⟩; refine ⟨_, rfl, ?_⟩; have n0_ := Aside0.mk (blk_below (g := gb383) (o := .cells #[.int .i64 a0_0, .int .i64 a0_1, .string a0_2, .slice A0_3 l0_3.length c0_3, .string a0_4, .slice (some ad391) l0_5.length c0_5] 31 (0, 0)) (by (with_reducible repeat (first | refine blk_drewN ?_ _ | refine blk_drew ?_ | refine blk_alloc ?_ _)); refine blk_far ?_ NB383_392.out _; (with_reducible repeat (first | refine blk_drewN ?_ _ | refine blk_drew ?_ | refine blk_alloc ?_ _)); refine blk_far ?_ NB383_392.out _; (with_reducible repeat (first | refine blk_drewN ?_ _ | refine blk_drew ?_ | refine blk_alloc ?_ _)); refine blk_far ?_ NB383_392.out _; (with_reducible repeat (first | refine blk_drewN ?_ _ | refine blk_drew ?_ | refine blk_alloc ?_ _)); refine blk_far ?_ NB383_392.out _; (with_reducible repeat (first | refine blk_drewN ?_ _ | refine blk_drew ?_ | refine blk_alloc ?_ _)); refine blk_far ?_ NB383_392.out _; (with_reducible repeat (first | refine blk_drewN ?_ _ | refine blk_drew ?_ | refine blk_alloc ?_ _)); refine blk_far ?_ NB383_392.out _; (with_reducible repeat (first | refine blk_drewN ?_ _ | refine blk_drew ?_ | refine blk_alloc ?_ _)); exact BK383.out) hb); have n1_ := Aside0.mk (blk_below (g := gb392) (o := .cells #[.int .i64 ((rd_T31 l0_5 x79_2).f0), .int .i64 ((rd_T31 l0_5 x79_2).f1), .string ((rd_T31 l0_5 x79_2).f2), .slice A391_3 ((rd_T31 l0_5 x79_2).f3).length c391_3, .string ((rd_T31 l0_5 x79_2).f4), .slice A391_5 ((rd_T31 l0_5 x79_2).f5).length c391_5] 31 (0, 0)) (by (with_reducible repeat (first | refine blk_drewN ?_ _ | refine blk_drew ?_ | refine blk_alloc ?_ _)); refine blk_put (cs := #[.int .i64 ((rd_T31 l0_5 x79_2).f0), .int .i64 ((rd_T31 l0_5 x79_2).f1), .string ((rd_T31 l0_5 x79_2).f2), .slice A391_3 ((rd_T31 l0_5 x79_2).f3).length c391_3, .string ((rd_T31 l0_5 x79_2).f4), .slice none 0 0]) ?_ 5 _ rfl; (with_reducible repeat (first | refine blk_drewN ?_ _ | refine blk_drew ?_ | refine blk_alloc ?_ _)); refine blk_put (cs := #[.int .i64 ((rd_T31 l0_5 x79_2).f0), .int .i64 ((rd_T31 l0_5 x79_2).f1), .string ((rd_T31 l0_5 x79_2).f2), .slice A391_3 ((rd_T31 l0_5 x79_2).f3).length c391_3, .string (⟨#[]⟩ : ByteArray), .slice none 0 0]) ?_ 4 _ rfl; (with_reducible repeat (first | refine blk_drewN ?_ _ | refine blk_drew ?_ | refine blk_alloc ?_ _)); refine blk_put (cs := #[.int .i64 ((rd_T31 l0_5 x79_2).f0), .int .i64 ((rd_T31 l0_5 x79_2).f1), .string ((rd_T31 l0_5 x79_2).f2), .slice none 0 0, .string (⟨#[]⟩ : ByteArray), .slice none 0 0]) ?_ 3 _ rfl; (with_reducible repeat (first | refine blk_drewN ?_ _ | refine blk_drew ?_ | refine blk_alloc ?_ _)); refine blk_put (cs := #[.int .i64 ((rd_T31 l0_5 x79_2).f0), .int .i64 ((rd_T31 l0_5 x79_2).f1), .string (⟨#[]⟩ : ByteArray), .slice none 0 0, .string (⟨#[]⟩ : ByteArray), .slice none 0 0]) ?_ 2 _ rfl; (with_reducible repeat (first | refine blk_drewN ?_ _ | refine blk_drew ?_ | refine blk_alloc ?_ _)); refine blk_put (cs := #[.int .i64 ((rd_T31 l0_5 x79_2).f0), .int .i64 0, .string (⟨#[]⟩ : ByteArray), .slice none 0 0, .string (⟨#[]⟩ : ByteArray), .slice none 0 0]) ?_ 1 _ rfl; (with_reducible repeat (first | refine blk_drewN ?_ _ | refine blk_drew ?_ | refine blk_alloc ?_ _)); refine blk_put (cs := #[.int .i64 0, .int .i64 0, .string (⟨#[]⟩ : ByteArray), .slice none 0 0, .string (⟨#[]⟩ : ByteArray), .slice none 0 0]) ?_ 0 _ rfl; (with_reducible repeat (first | refine blk_drewN ?_ _ | refine blk_drew ?_ | refine blk_alloc ?_ _)); exact BK392.out) hb); have n2_ := Aside0.mk (below_step (by repeat (first | (with_reducible first | exact HB.out | apply below_alloc | apply pw_below_drewN | apply below_drew1 | refine below_set ?_ GE383.out | refine below_set ?_ GE392.out) | exact HB.out)) hb); clear BK383; clear BK392; clear HB; have BK383 := n0_; have BK392 := n1_; have HB := n2_; clear n0_ n1_ n2_; (try clear hb); (try clear hb2); (try clear hk); (try clear hi); obtain ⟨⟨hcz56_0, hcz56_1, hcz56_2, hcz56_3, hcz56_4, hcz56_5⟩, hfz56_0, hfz56_1, hfz56_2, hfz56_3, hfz56_4, hfz56_5⟩ := Op.cells6 BK392.out))
            go_roundg k2
            case measure => have := HJ5.out; have := HK2.out; omega
            case rel => exact ⟨(wrap64 (x79_2 + 1)), ab6, H', ⟨by have := HJ5.out; have := HK2.out; omega⟩, ⟨ab3 BK383⟩, ⟨by repeat (first | (with_reducible first | exact HB.out | apply below_alloc | apply pw_below_drewN | apply below_drew1 | refine below_set ?_ GE383.out | refine below_set ?_ GE392.out) | exact HB.out)⟩⟩
          ·rw [if_neg c34] at H
           have c34b0 : decide (0 < x79_2) = false := decide_eq_false c34
           clear c34
           have H' := Aside0.mk H
           clear H
           have p391 : 0 ≤ (x79_2 : Int) := of_decide_eq_true ab4
           have q391 : x79_2 < (l0_5.length : Int) := of_decide_eq_true ab4
           obtain ⟨ad391, A391_3, c391_3, A391_5, c391_5, e391, hx391_0, hx391_1, hx391_2, hx391_3, hx391_4, hx391_5, hl391_3, hi391_3, hl391_5, hi391_5⟩ := at_T31 HR0_5.out x79_2 p391 q391
           cases e391
           replace hx391_0 := pw_cell_below HB.out hx391_0
           replace hx391_1 := pw_cell_below HB.out hx391_1
           replace hx391_2 := pw_cell_below HB.out hx391_2
           replace hx391_3 := pw_cell_below HB.out hx391_3
           replace hx391_4 := pw_cell_below HB.out hx391_4
           replace hx391_5 := pw_cell_below HB.out hx391_5
           have HR391_3 := Aside0.mk hi391_3
           have HC391_3 := Aside0.mk hl391_3
           clear hi391_3 hl391_3
           have HR391_5 := Aside0.mk hi391_5
           have HC391_5 := Aside0.mk hl391_5
           clear hi391_5 hl391_5
           replace p391 := eq_true p391
           replace q391 := eq_true q391
           go_wp2_with (first | ((with_reducible refine gate_dst (N := 6) rfl ?_); (try (refine gate_guard (by rfl) ?_; dsimp only)); refine box_event ?hg (N := 6) ?hd (cs := #[.int .i64 0, .int .i64 0, .string (⟨#[]⟩ : ByteArray), .slice none 0 0, .string (⟨#[]⟩ : ByteArray), .slice none 0 0]) (t := 31) ?hr ?_; (case hd => rfl); (case hg => rfl); (case hr => first | (go_simp; done) | (go_simp; rfl)); intro gb392 hg w57 hbox hb; have n0_ := Aside0.mk (blk_below (g := gb383) (o := .cells #[.int .i64 a0_0, .int .i64 a0_1, .string a0_2, .slice A0_3 l0_3.length c0_3, .string a0_4, .slice (some ad391) l0_5.length c0_5] 31 (0, 0)) (ab3 BK383) hb); have n1_ := Aside0.mk (below_step (ab2 GE383) hb); have n2_ := Aside0.mk (hbox); have n3_ := Aside0.mk ((by rw [hg]; exact (below_size (ab2 GE383)) : w.heap.size ≤ gb392)); have n4_ := Aside0.mk ((by rw [hg]; exact (below_size (ab2 GE383)) : w.heap.size ≤ gb392)); have n5_ := Aside0.mk ((by rw [hg]; exact Nat.ne_of_lt (blk_lt (g := gb383) (o := .cells #[.int .i64 a0_0, .int .i64 a0_1, .string a0_2, .slice A0_3 l0_3.length c0_3, .string a0_4, .slice (some ad391) l0_5.length c0_5] 31 (0, 0)) (ab3 BK383)) : gb383 ≠ gb392)); have n6_ := Aside0.mk ((by rw [hg]; exact Nat.ne_of_gt (blk_lt (g := gb383) (o := .cells #[.int .i64 a0_0, .int .i64 a0_1, .string a0_2, .slice A0_3 l0_3.length c0_3, .string a0_4, .slice (some ad391) l0_5.length c0_5] 31 (0, 0)) (ab3 BK383)) : gb392 ≠ gb383)); clear BK383; clear HB; have BK383 := n0_; have HB := n1_; have BK392 := n2_; have GW392 := n3_; have GE392 := n4_; have NB383_392 := n5_; have NB392_383 := n6_; clear n0_ n1_ n2_ n3_ n4_ n5_ n6_; clear hb hbox hg; have hnb58 := NB392_383.out; have hnc58 := NB383_392.out; obtain ⟨⟨hcz59_0, hcz59_1, hcz59_2, hcz59_3, hcz59_4, hcz59_5⟩, hfz59_0, hfz59_1, hfz59_2, hfz59_3, hfz59_4, hfz59_5⟩ := Op.cells6 BK392.out) | ((with_reducible refine gate_callee (f := 33) rfl ?_); refine goesL_ (some 87) rfl rfl Tryz.func33 (by kernel_rfl) rfl #[.agg #[.int .i64 ((rd_T31 l0_5 x79_2).f0), .int .i64 ((rd_T31 l0_5 x79_2).f1), .string ((rd_T31 l0_5 x79_2).f2), .slice A391_3 ((rd_T31 l0_5 x79_2).f3).length c391_3, .string ((rd_T31 l0_5 x79_2).f4), .slice A391_5 ((rd_T31 l0_5 x79_2).f5).length c391_5], .int .i64 (wrap64 (a1 - 1))] rfl ab5 ?_; (with_reducible refine (ih k2 (by have := HJ5.out; have := HK2.out; omega) ((rd_T31 l0_5 x79_2).f0) ((rd_T31 l0_5 x79_2).f1) ((rd_T31 l0_5 x79_2).f2) _ _ ((rd_T31 l0_5 x79_2).f3) ((rd_T31 l0_5 x79_2).f4) _ _ ((rd_T31 l0_5 x79_2).f5) (wrap64 (a1 - 1)) true _ ?side1 ?side2 ?side3 ?side4 M_ ?side5 A32.out).mono ?_); (case side1 => exact Kd.C_below HR391_3.out (by repeat (first | (with_reducible first | exact HB.out | apply below_alloc | apply pw_below_drewN | apply below_drew1 | refine below_set ?_ GE383.out | refine below_set ?_ GE392.out) | exact HB.out))); (case side2 => exact HC391_3.out); (case side3 => exact Kd.C_below HR391_5.out (by repeat (first | (with_reducible first | exact HB.out | apply below_alloc | apply pw_below_drewN | apply below_drew1 | refine below_set ?_ GE383.out | refine below_set ?_ GE392.out) | exact HB.out))); (case side4 => exact HC391_5.out); (case side5 => exact pw_cell_below (by repeat (first | (with_reducible first | exact HB.out | apply below_alloc | apply pw_below_drewN | apply below_drew1 | refine below_set ?_ GE383.out | refine below_set ?_ GE392.out) | exact HB.out)) HM_.out); rintro e w60 ⟨rfl, hb⟩; refine ⟨_, rfl, ?_⟩; have n0_ := Aside0.mk (blk_below (g := gb383) (o := .cells #[.int .i64 a0_0, .int .i64 a0_1, .string a0_2, .slice A0_3 l0_3.length c0_3, .string a0_4, .slice (some ad391) l0_5.length c0_5] 31 (0, 0)) (by (with_reducible repeat (first | refine blk_drewN ?_ _ | refine blk_drew ?_ | refine blk_alloc ?_ _)); refine blk_far ?_ NB383_392.out _; (with_reducible repeat (first | refine blk_drewN ?_ _ | refine blk_drew ?_ | refine blk_alloc ?_ _)); refine blk_far ?_ NB383_392.out _; (with_reducible repeat (first | refine blk_drewN ?_ _ | refine blk_drew ?_ | refine blk_alloc ?_ _)); refine blk_far ?_ NB383_392.out _; (with_reducible repeat (first | refine blk_drewN ?_ _ | refine blk_drew ?_ | refine blk_alloc ?_ _)); refine blk_far ?_ NB383_392.out _; (with_reducible repeat (first | refine blk_drewN ?_ _ | refine blk_drew ?_ | refine blk_alloc ?_ _)); refine blk_far ?_ NB383_392.out _; (with_reducible repeat (first | refine blk_drewN ?_ _ | refine blk_drew ?_ | refine blk_alloc ?_ _)); refine blk_far ?_ NB383_392.out _; (with_reducible repeat (first | refine blk_drewN ?_ _ | refine blk_drew ?_ | refine blk_alloc ?_ _)); exact BK383.out) hb); have n1_ := Aside0.mk (blk_below (g := gb392) (o := .cells #[.int .i64 ((rd_T31 l0_5 x79_2).f0), .int .i64 ((rd_T31 l0_5 x79_2).f1), .string ((rd_T31 l0_5 x79_2).f2), .slice A391_3 ((rd_T31 l0_5 x79_2).f3).length c391_3, .string ((rd_T31 l0_5 x79_2).f4), .slice A391_5 ((rd_T31 l0_5 x79_2).f5).length c391_5] 31 (0, 0)) (by (with_reducible repeat (first | refine blk_drewN ?_ _ | refine blk_drew ?_ | refine blk_alloc ?_ _)); refine blk_put (cs := #[.int .i64 ((rd_T31 l0_5 x79_2).f0), .int .i64 ((rd_T31 l0_5 x79_2).f1), .string ((rd_T31 l0_5 x79_2).f2), .slice A391_3 ((rd_T31 l0_5 x79_2).f3).length c391_3, .string ((rd_T31 l0_5 x79_2).f4), .slice none 0 0]) ?_ 5 _ rfl; (with_reducible repeat (first | refine blk_drewN ?_ _ | refine blk_drew ?_ | refine blk_alloc ?_ _)); refine blk_put (cs := #[.int .i64 ((rd_T31 l0_5 x79_2).f0), .int .i64 ((rd_T31 l0_5 x79_2).f1), .string ((rd_T31 l0_5 x79_2).f2), .slice A391_3 ((rd_T31 l0_5 x79_2).f3).length c391_3, .string (⟨#[]⟩ : ByteArray), .slice none 0 0]) ?_ 4 _ rfl; (with_reducible repeat (first | refine blk_drewN ?_ _ | refine blk_drew ?_ | refine blk_alloc ?_ _)); refine blk_put (cs := #[.int .i64 ((rd_T31 l0_5 x79_2).f0), .int .i64 ((rd_T31 l0_5 x79_2).f1), .string ((rd_T31 l0_5 x79_2).f2), .slice none 0 0, .string (⟨#[]⟩ : ByteArray), .slice none 0 0]) ?_ 3 _ rfl; (with_reducible repeat (first | refine blk_drewN ?_ _ | refine blk_drew ?_ | refine blk_alloc ?_ _)); refine blk_put (cs := #[.int .i64 ((rd_T31 l0_5 x79_2).f0), .int .i64 ((rd_T31 l0_5 x79_2).f1), .string (⟨#[]⟩ : ByteArray), .slice none 0 0, .string (⟨#[]⟩ : ByteArray), .slice none 0 0]) ?_ 2 _ rfl; (with_reducible repeat (first | refine blk_drewN ?_ _ | refine blk_drew ?_ | refine blk_alloc ?_ _)); refine blk_put (cs := #[.int .i64 ((rd_T31 l0_5 x79_2).f0), .int .i64 0, .string (⟨#[]⟩ : ByteArray), .slice none 0 0, .string (⟨#[]⟩ : ByteArray), .slice none 0 0]) ?_ 1 _ rfl; (with_reducible repeat (first | refine blk_drewN ?_ _ | refine blk_drew ?_ | refine blk_alloc ?_ _)); refine blk_put (cs := #[.int .i64 0, .int .i64 0, .string (⟨#[]⟩ : ByteArray), .slice none 0 0, .string (⟨#[]⟩ : ByteArray), .slice none 0 0]) ?_ 0 _ rfl; (with_reducible repeat (first | refine blk_drewN ?_ _ | refine blk_drew ?_ | refine blk_alloc ?_ _)); exact BK392.out) hb); have n2_ := Aside0.mk (below_step (by repeat (first | (with_reducible first | exact HB.out | apply below_alloc | apply pw_below_drewN | apply below_drew1 | refine below_set ?_ GE383.out | refine below_set ?_ GE392.out) | exact HB.out)) hb); clear BK383; clear BK392; clear HB; have BK383 := n0_; have BK392 := n1_; have HB := n2_; clear n0_ n1_ n2_; (try clear hb); (try clear hb2); (try clear hk); (try clear hi)))
           go_roundg k2
           case measure => have := HJ5.out; have := HK2.out; omega
           case rel => exact ⟨(wrap64 (x79_2 + 1)), ab6, H', ⟨by have := HJ5.out; have := HK2.out; omega⟩, ⟨ab3 BK383⟩, ⟨by repeat (first | (with_reducible first | exact HB.out | apply below_alloc | apply pw_below_drewN | apply below_drew1 | refine below_set ?_ GE383.out | refine below_set ?_ GE392.out) | exact HB.out)⟩⟩
         ·replace c33 := Bool.eq_false_iff.mpr c33
          subst c33
          rw [if_neg (show ¬ (false = true) by decide)] at H
          obtain rfl := Option.some.inj H
          have p391 : 0 ≤ (x79_2 : Int) := of_decide_eq_true ab4
          have q391 : x79_2 < (l0_5.length : Int) := of_decide_eq_true ab4
          obtain ⟨ad391, A391_3, c391_3, A391_5, c391_5, e391, hx391_0, hx391_1, hx391_2, hx391_3, hx391_4, hx391_5, hl391_3, hi391_3, hl391_5, hi391_5⟩ := at_T31 HR0_5.out x79_2 p391 q391
          cases e391
          replace hx391_0 := pw_cell_below HB.out hx391_0
          replace hx391_1 := pw_cell_below HB.out hx391_1
          replace hx391_2 := pw_cell_below HB.out hx391_2
          replace hx391_3 := pw_cell_below HB.out hx391_3
          replace hx391_4 := pw_cell_below HB.out hx391_4
          replace hx391_5 := pw_cell_below HB.out hx391_5
          have HR391_3 := Aside0.mk hi391_3
          have HC391_3 := Aside0.mk hl391_3
          clear hi391_3 hl391_3
          have HR391_5 := Aside0.mk hi391_5
          have HC391_5 := Aside0.mk hl391_5
          clear hi391_5 hl391_5
          replace p391 := eq_true p391
          replace q391 := eq_true q391
          go_wp2_with (first | ((with_reducible refine gate_dst (N := 6) rfl ?_); (try (refine gate_guard (by rfl) ?_; dsimp only)); refine box_event ?hg (N := 6) ?hd (cs := #[.int .i64 0, .int .i64 0, .string (⟨#[]⟩ : ByteArray), .slice none 0 0, .string (⟨#[]⟩ : ByteArray), .slice none 0 0]) (t := 31) ?hr ?_; (case hd => rfl); (case hg => rfl); (case hr => first | (go_simp; done) | (go_simp; rfl)); intro gb392 hg w61 hbox hb; have n0_ := Aside0.mk (blk_below (g := gb383) (o := .cells #[.int .i64 a0_0, .int .i64 a0_1, .string a0_2, .slice A0_3 l0_3.length c0_3, .string a0_4, .slice (some ad391) l0_5.length c0_5] 31 (0, 0)) (ab3 BK383) hb); have n1_ := Aside0.mk (below_step (ab2 GE383) hb); have n2_ := Aside0.mk (hbox); have n3_ := Aside0.mk ((by rw [hg]; exact (below_size (ab2 GE383)) : w.heap.size ≤ gb392)); have n4_ := Aside0.mk ((by rw [hg]; exact (below_size (ab2 GE383)) : w.heap.size ≤ gb392)); have n5_ := Aside0.mk ((by rw [hg]; exact Nat.ne_of_lt (blk_lt (g := gb383) (o := .cells #[.int .i64 a0_0, .int .i64 a0_1, .string a0_2, .slice A0_3 l0_3.length c0_3, .string a0_4, .slice (some ad391) l0_5.length c0_5] 31 (0, 0)) (ab3 BK383)) : gb383 ≠ gb392)); have n6_ := Aside0.mk ((by rw [hg]; exact Nat.ne_of_gt (blk_lt (g := gb383) (o := .cells #[.int .i64 a0_0, .int .i64 a0_1, .string a0_2, .slice A0_3 l0_3.length c0_3, .string a0_4, .slice (some ad391) l0_5.length c0_5] 31 (0, 0)) (ab3 BK383)) : gb392 ≠ gb383)); clear BK383; clear HB; have BK383 := n0_; have HB := n1_; have BK392 := n2_; have GW392 := n3_; have GE392 := n4_; have NB383_392 := n5_; have NB392_383 := n6_; clear n0_ n1_ n2_ n3_ n4_ n5_ n6_; clear hb hbox hg; have hnb62 := NB392_383.out; have hnc62 := NB383_392.out; obtain ⟨⟨hcz63_0, hcz63_1, hcz63_2, hcz63_3, hcz63_4, hcz63_5⟩, hfz63_0, hfz63_1, hfz63_2, hfz63_3, hfz63_4, hfz63_5⟩ := Op.cells6 BK392.out) | ((with_reducible refine gate_callee (f := 33) rfl ?_); refine goesL_ (some 87) rfl rfl Tryz.func33 (by kernel_rfl) rfl #[.agg #[.int .i64 ((rd_T31 l0_5 x79_2).f0), .int .i64 ((rd_T31 l0_5 x79_2).f1), .string ((rd_T31 l0_5 x79_2).f2), .slice A391_3 ((rd_T31 l0_5 x79_2).f3).length c391_3, .string ((rd_T31 l0_5 x79_2).f4), .slice A391_5 ((rd_T31 l0_5 x79_2).f5).length c391_5], .int .i64 (wrap64 (a1 - 1))] rfl ab5 ?_; (with_reducible refine (ih k2 (by have := HJ5.out; have := HK2.out; omega) ((rd_T31 l0_5 x79_2).f0) ((rd_T31 l0_5 x79_2).f1) ((rd_T31 l0_5 x79_2).f2) _ _ ((rd_T31 l0_5 x79_2).f3) ((rd_T31 l0_5 x79_2).f4) _ _ ((rd_T31 l0_5 x79_2).f5) (wrap64 (a1 - 1)) false _ ?side1 ?side2 ?side3 ?side4 M_ ?side5 A32.out).mono ?_); (case side1 => exact Kd.C_below HR391_3.out (by repeat (first | (with_reducible first | exact HB.out | apply below_alloc | apply pw_below_drewN | apply below_drew1 | refine below_set ?_ GE383.out | refine below_set ?_ GE392.out) | exact HB.out))); (case side2 => exact HC391_3.out); (case side3 => exact Kd.C_below HR391_5.out (by repeat (first | (with_reducible first | exact HB.out | apply below_alloc | apply pw_below_drewN | apply below_drew1 | refine below_set ?_ GE383.out | refine below_set ?_ GE392.out) | exact HB.out))); (case side4 => exact HC391_5.out); (case side5 => exact pw_cell_below (by repeat (first | (with_reducible first | exact HB.out | apply below_alloc | apply pw_below_drewN | apply below_drew1 | refine below_set ?_ GE383.out | refine below_set ?_ GE392.out) | exact HB.out)) HM_.out); rintro e w64 ⟨rfl, hb⟩; refine ⟨_, rfl, ?_⟩; have n0_ := Aside0.mk (blk_below (g := gb383) (o := .cells #[.int .i64 a0_0, .int .i64 a0_1, .string a0_2, .slice A0_3 l0_3.length c0_3, .string a0_4, .slice (some ad391) l0_5.length c0_5] 31 (0, 0)) (by (with_reducible repeat (first | refine blk_drewN ?_ _ | refine blk_drew ?_ | refine blk_alloc ?_ _)); refine blk_far ?_ NB383_392.out _; (with_reducible repeat (first | refine blk_drewN ?_ _ | refine blk_drew ?_ | refine blk_alloc ?_ _)); refine blk_far ?_ NB383_392.out _; (with_reducible repeat (first | refine blk_drewN ?_ _ | refine blk_drew ?_ | refine blk_alloc ?_ _)); refine blk_far ?_ NB383_392.out _; (with_reducible repeat (first | refine blk_drewN ?_ _ | refine blk_drew ?_ | refine blk_alloc ?_ _)); refine blk_far ?_ NB383_392.out _; (with_reducible repeat (first | refine blk_drewN ?_ _ | refine blk_drew ?_ | refine blk_alloc ?_ _)); refine blk_far ?_ NB383_392.out _; (with_reducible repeat (first | refine blk_drewN ?_ _ | refine blk_drew ?_ | refine blk_alloc ?_ _)); refine blk_far ?_ NB383_392.out _; (with_reducible repeat (first | refine blk_drewN ?_ _ | refine blk_drew ?_ | refine blk_alloc ?_ _)); exact BK383.out) hb); have n1_ := Aside0.mk (blk_below (g := gb392) (o := .cells #[.int .i64 ((rd_T31 l0_5 x79_2).f0), .int .i64 ((rd_T31 l0_5 x79_2).f1), .string ((rd_T31 l0_5 x79_2).f2), .slice A391_3 ((rd_T31 l0_5 x79_2).f3).length c391_3, .string ((rd_T31 l0_5 x79_2).f4), .slice A391_5 ((rd_T31 l0_5 x79_2).f5).length c391_5] 31 (0, 0)) (by (with_reducible repeat (first | refine blk_drewN ?_ _ | refine blk_drew ?_ | refine blk_alloc ?_ _)); refine blk_put (cs := #[.int .i64 ((rd_T31 l0_5 x79_2).f0), .int .i64 ((rd_T31 l0_5 x79_2).f1), .string ((rd_T31 l0_5 x79_2).f2), .slice A391_3 ((rd_T31 l0_5 x79_2).f3).length c391_3, .string ((rd_T31 l0_5 x79_2).f4), .slice none 0 0]) ?_ 5 _ rfl; (with_reducible repeat (first | refine blk_drewN ?_ _ | refine blk_drew ?_ | refine blk_alloc ?_ _)); refine blk_put (cs := #[.int .i64 ((rd_T31 l0_5 x79_2).f0), .int .i64 ((rd_T31 l0_5 x79_2).f1), .string ((rd_T31 l0_5 x79_2).f2), .slice A391_3 ((rd_T31 l0_5 x79_2).f3).length c391_3, .string (⟨#[]⟩ : ByteArray), .slice none 0 0]) ?_ 4 _ rfl; (with_reducible repeat (first | refine blk_drewN ?_ _ | refine blk_drew ?_ | refine blk_alloc ?_ _)); refine blk_put (cs := #[.int .i64 ((rd_T31 l0_5 x79_2).f0), .int .i64 ((rd_T31 l0_5 x79_2).f1), .string ((rd_T31 l0_5 x79_2).f2), .slice none 0 0, .string (⟨#[]⟩ : ByteArray), .slice none 0 0]) ?_ 3 _ rfl; (with_reducible repeat (first | refine blk_drewN ?_ _ | refine blk_drew ?_ | refine blk_alloc ?_ _)); refine blk_put (cs := #[.int .i64 ((rd_T31 l0_5 x79_2).f0), .int .i64 ((rd_T31 l0_5 x79_2).f1), .string (⟨#[]⟩ : ByteArray), .slice none 0 0, .string (⟨#[]⟩ : ByteArray), .slice none 0 0]) ?_ 2 _ rfl; (with_reducible repeat (first | refine blk_drewN ?_ _ | refine blk_drew ?_ | refine blk_alloc ?_ _)); refine blk_put (cs := #[.int .i64 ((rd_T31 l0_5 x79_2).f0), .int .i64 0, .string (⟨#[]⟩ : ByteArray), .slice none 0 0, .string (⟨#[]⟩ : ByteArray), .slice none 0 0]) ?_ 1 _ rfl; (with_reducible repeat (first | refine blk_drewN ?_ _ | refine blk_drew ?_ | refine blk_alloc ?_ _)); refine blk_put (cs := #[.int .i64 0, .int .i64 0, .string (⟨#[]⟩ : ByteArray), .slice none 0 0, .string (⟨#[]⟩ : ByteArray), .slice none 0 0]) ?_ 0 _ rfl; (with_reducible repeat (first | refine blk_drewN ?_ _ | refine blk_drew ?_ | refine blk_alloc ?_ _)); exact BK392.out) hb); have n2_ := Aside0.mk (below_step (by repeat (first | (with_reducible first | exact HB.out | apply below_alloc | apply pw_below_drewN | apply below_drew1 | refine below_set ?_ GE383.out | refine below_set ?_ GE392.out) | exact HB.out)) hb); clear BK383; clear BK392; clear HB; have BK383 := n0_; have BK392 := n1_; have HB := n2_; clear n0_ n1_ n2_; (try clear hb); (try clear hb2); (try clear hk); (try clear hi)))
          go_ret
          exact ⟨ab7, by repeat (first | (with_reducible first | exact HB.out | apply below_alloc | apply pw_below_drewN | apply below_drew1 | refine below_set ?_ GE383.out | refine below_set ?_ GE392.out) | exact HB.out)⟩
        ·rw [if_neg c29] at H
         have c29b0 := decide_eq_false c29
         clear c29
         obtain rfl := Option.some.inj H
         go_wp2
         go_ret
         exact ⟨ab7, ab2 GE383⟩
  ·rw [if_neg c5] at H
   have c5b0 : (a0_0 == 1) = false := beq_eq_false_iff_ne.mpr c5
   have c5b1 : (a0_0 != 1) = true := bne_iff_ne.mpr c5
   have HC65 := Aside0.mk H
   clear H
   go_enter Tryz.func33, Tryz.ntmps33
   go_upto_region 4 with (first | ((with_reducible refine gate_dst (N := 2) rfl ?_); (try (refine gate_guard (by rfl) ?_; dsimp only)); refine box_event ?hg (N := 2) ?hd (cs := #[.int .i64 a0_0, .int .i64 a0_1, .string a0_2, .slice A0_3 l0_3.length c0_3, .string a0_4, .slice A0_5 l0_5.length c0_5]) (t := 31) ?hr ?_; (case hd => rfl); (case hg => rfl); (case hr => first | (go_simp; done) | (go_simp; rfl)); intro gb383 hg w66 hbox hb; have n0_ := Aside0.mk (below_step ab1 hb); have n1_ := Aside0.mk (hbox); have n2_ := Aside0.mk ((by rw [hg]; exact (below_size ab1) : w.heap.size ≤ gb383)); have n3_ := Aside0.mk ((by rw [hg]; exact (below_size ab1) : w.heap.size ≤ gb383)); clear HB; have HB := n0_; have BK383 := n1_; have GW383 := n2_; have GE383 := n3_; clear n0_ n1_ n2_ n3_; clear hb hbox hg; obtain ⟨⟨hcz67_0, hcz67_1, hcz67_2, hcz67_3, hcz67_4, hcz67_5⟩, hfz67_0, hfz67_1, hfz67_2, hfz67_3, hfz67_4, hfz67_5⟩ := Op.cells6 BK383.out))
   (try simp only [Act.put, List.setIfInBounds_toArray, List.set_cons_zero, List.set_cons_succ])
   go_cut [31] (fun v31 wc => ∃ (kq : Nat) (x31_64 : Bool), v31 = .bool x31_64 ∧ Aside0 (impl_elOk.j0 kq x31_64 a0_0 a0_1 a0_2 l0_3 a0_4 l0_5 = some r) ∧ Aside0 (kq ≤ k) ∧ Aside0 (wc.heap[gb383]? = some (.cells #[.int .i64 a0_0, .int .i64 a0_1, .string a0_2, (.slice A0_3 l0_3.length c0_3), .string a0_4, (.slice A0_5 l0_5.length c0_5)] 31 (0, 0))) ∧ Aside0 (Below w.heap.size w wc))
   case first =>
    have H := HC65.out
    clear HC65
    by_cases c68 : a0_1 = 0
    ·rw [if_pos c68] at H
     have c68b0 : (a0_1 == 0) = true := beq_iff_eq.mpr c68
     have c68b1 : (a0_1 != 0) = false := bne_eq_false_iff_eq.mpr c68
     clear c68
     (first | rw [c68b0] | (simp only [i64_w, i32_w]; rw [c68b0]) | skip)
     (try (generalize hgzc68 : (a0_1 == 0) = bqc68 at *; subst c68b0; have c68b0 := hgzc68; clear hgzc68))
     by_cases c69 : a0_2.toList = ([] : List UInt8)
     ·rw [if_pos c69] at H
      have c69b0 : (a0_2.toList == ([] : List UInt8)) = true := beq_iff_eq.mpr c69
      have c69b1 : (a0_2.toList != ([] : List UInt8)) = false := bne_eq_false_iff_eq.mpr c69
      clear c69
      by_cases c70 : (l0_3.length : Int) > 0
      ·rw [if_pos c70] at H
       have c70b0 : decide (0 < (l0_3.length : Int)) = true := decide_eq_true c70
       have c70b1 : decide (0 < l0_3.length) = true := decide_eq_true (by omega)
       clear c70
       have H' := Aside0.mk H
       clear H
       obtain ⟨⟨hcz71_0, hcz71_1, hcz71_2, hcz71_3, hcz71_4, hcz71_5⟩, hfz71_0, hfz71_1, hfz71_2, hfz71_3, hfz71_4, hfz71_5⟩ := Op.cells6 BK383.out
       go_wp2
       go_meet
       case rel => exact ⟨_, (true), ab6, (by first | exact H' | (have h_ := H'.out; rw [c68b0] at h_; exact ⟨h_⟩)), ⟨by first | omega | exact Nat.le_refl _⟩, ⟨ab3 BK383⟩, ⟨ab2 GE383⟩⟩
      ·rw [if_neg c70] at H
       have c70b0 : decide (0 < (l0_3.length : Int)) = false := decide_eq_false c70
       have c70b1 : decide (0 < l0_3.length) = false := decide_eq_false (by omega)
       clear c70
       have H' := Aside0.mk H
       clear H
       obtain ⟨⟨hcz72_0, hcz72_1, hcz72_2, hcz72_3, hcz72_4, hcz72_5⟩, hfz72_0, hfz72_1, hfz72_2, hfz72_3, hfz72_4, hfz72_5⟩ := Op.cells6 BK383.out
       go_wp2
       go_meet
       case rel => exact ⟨_, (decide ((l0_5.length : Int) > 0)), ab6, (by first | exact H' | (have h_ := H'.out; rw [c68b0] at h_; exact ⟨h_⟩)), ⟨by first | omega | exact Nat.le_refl _⟩, ⟨ab3 BK383⟩, ⟨ab2 GE383⟩⟩
     ·rw [if_neg c69] at H
      have c69b0 : (a0_2.toList == ([] : List UInt8)) = false := beq_eq_false_iff_ne.mpr c69
      have c69b1 : (a0_2.toList != ([] : List UInt8)) = true := bne_iff_ne.mpr c69
      have H' := Aside0.mk H
      clear H
      obtain ⟨⟨hcz73_0, hcz73_1, hcz73_2, hcz73_3, hcz73_4, hcz73_5⟩, hfz73_0, hfz73_1, hfz73_2, hfz73_3, hfz73_4, hfz73_5⟩ := Op.cells6 BK383.out
      go_wp2
      go_meet
      case rel => exact ⟨_, (true), ab6, (by first | exact H' | (have h_ := H'.out; rw [c68b0] at h_; exact ⟨h_⟩)), ⟨by first | omega | exact Nat.le_refl _⟩, ⟨ab3 BK383⟩, ⟨ab2 GE383⟩⟩
    ·rw [if_neg c68] at H
     have c68b0 : (a0_1 == 0) = false := beq_eq_false_iff_ne.mpr c68
     have c68b1 : (a0_1 != 0) = true := bne_iff_ne.mpr c68
     (first | rw [c68b0] | (simp only [i64_w, i32_w]; rw [c68b0]) | skip)
     (try (generalize hgzc68 : (a0_1 == 0) = bqc68 at *; subst c68b0; have c68b0 := hgzc68; clear hgzc68))
     have H' := Aside0.mk H
     clear H
     obtain ⟨⟨hcz74_0, hcz74_1, hcz74_2, hcz74_3, hcz74_4, hcz74_5⟩, hfz74_0, hfz74_1, hfz74_2, hfz74_3, hfz74_4, hfz74_5⟩ := Op.cells6 BK383.out
     go_wp2
     go_meet
     case rel => exact ⟨_, (true), ab6, (by first | exact H' | (have h_ := H'.out; rw [c68b0] at h_; exact ⟨h_⟩)), ⟨by first | omega | exact Nat.le_refl _⟩, ⟨ab3 BK383⟩, ⟨ab2 GE383⟩⟩
   case rest =>
    clear HC65
    obtain ⟨kq, x31_64, rfl, HA, HJ64, BK383, HB⟩ := hcut
    cases kq with
    | zero => exact absurd HA.out (by simp [impl_elOk.j0])
    | succ kj64 =>
     have H := HA.out
     clear HA
     simp only [impl_elOk.j0] at H
     by_cases c75 : x31_64 = true
     ·subst c75
      rw [if_pos rfl] at H
      obtain rfl := Option.some.inj H
      go_wp2
      go_ret
      exact ⟨ab7, ab2 GE383⟩
     ·replace c75 := Bool.eq_false_iff.mpr c75
      subst c75
      rw [if_neg (show ¬ (false = true) by decide)] at H
      by_cases c76 : a0_0 = 2
      ·rw [if_pos c76] at H
       have c76b0 : (a0_0 == 2) = true := beq_iff_eq.mpr c76
       have c76b1 : (a0_0 != 2) = false := bne_eq_false_iff_eq.mpr c76
       clear c76
       by_cases c77 : a0_4.toList = ([] : List UInt8)
       ·rw [if_pos c77] at H
        have c77b0 : (a0_4.toList == ([] : List UInt8)) = true := beq_iff_eq.mpr c77
        have c77b1 : (a0_4.toList != ([] : List UInt8)) = false := bne_eq_false_iff_eq.mpr c77
        clear c77
        by_cases c78 : a0_0 = 3
        ·rw [if_pos c78] at H
         have c78b0 : (a0_0 == 3) = true := beq_iff_eq.mpr c78
         have c78b1 : (a0_0 != 3) = false := bne_eq_false_iff_eq.mpr c78
         clear c78
         replace H := Option.bind_eq_some_iff.mp H
         obtain ⟨t384, A790, H⟩ := H
         try dsimp only at H
         have A79 := Aside0.mk A790
         clear A790
         obtain rfl := Option.some.inj H
         obtain ⟨⟨hcz80_0, hcz80_1, hcz80_2, hcz80_3, hcz80_4, hcz80_5⟩, hfz80_0, hfz80_1, hfz80_2, hfz80_3, hfz80_4, hfz80_5⟩ := Op.cells6 BK383.out
         go_wp2_with (first | (go_at_call 49; (with_reducible refine (impl_NoteOk.calls kj64 a0_4 t384 _ M_ ?side1 A79.out).mono ?_); (case side1 => exact pw_cell_below (ab2 GE383) HM_.out); rintro e w81 ⟨rfl, hb⟩; have n0_ := Aside0.mk (blk_below (g := gb383) (o := .cells #[.int .i64 a0_0, .int .i64 a0_1, .string a0_2, .slice A0_3 l0_3.length c0_3, .string a0_4, .slice A0_5 l0_5.length c0_5] 31 (0, 0)) (ab3 BK383) hb); have n1_ := Aside0.mk (below_step (ab2 GE383) hb); clear BK383; clear HB; have BK383 := n0_; have HB := n1_; clear n0_ n1_; (try clear hb); (try clear hb2); (try clear hk); (try clear hi)))
         go_ret
         exact ⟨ab7, ab2 GE383⟩
        ·rw [if_neg c78] at H
         have c78b0 : (a0_0 == 3) = false := beq_eq_false_iff_ne.mpr c78
         have c78b1 : (a0_0 != 3) = true := bne_iff_ne.mpr c78
         obtain rfl := Option.some.inj H
         obtain ⟨⟨hcz82_0, hcz82_1, hcz82_2, hcz82_3, hcz82_4, hcz82_5⟩, hfz82_0, hfz82_1, hfz82_2, hfz82_3, hfz82_4, hfz82_5⟩ := Op.cells6 BK383.out
         go_wp2
         go_ret
         exact ⟨ab7, ab2 GE383⟩
       ·rw [if_neg c77] at H
        have c77b0 : (a0_4.toList == ([] : List UInt8)) = false := beq_eq_false_iff_ne.mpr c77
        have c77b1 : (a0_4.toList != ([] : List UInt8)) = true := bne_iff_ne.mpr c77
        replace H := Option.bind_eq_some_iff.mp H
        obtain ⟨t385, A830, H⟩ := H
        try dsimp only at H
        have A83 := Aside0.mk A830
        clear A830
        by_cases c84 : t385 = true
        ·subst c84
         rw [if_pos rfl] at H
         obtain rfl := Option.some.inj H
         obtain ⟨⟨hcz85_0, hcz85_1, hcz85_2, hcz85_3, hcz85_4, hcz85_5⟩, hfz85_0, hfz85_1, hfz85_2, hfz85_3, hfz85_4, hfz85_5⟩ := Op.cells6 BK383.out
         go_wp2_with (first | (go_at_call 48; (with_reducible refine (impl_TextOk.calls kj64 a0_4 true _ A83.out).mono ?_); rintro e w86 ⟨rfl, hb⟩; have n0_ := Aside0.mk (blk_below (g := gb383) (o := .cells #[.int .i64 a0_0, .int .i64 a0_1, .string a0_2, .slice A0_3 l0_3.length c0_3, .string a0_4, .slice A0_5 l0_5.length c0_5] 31 (0, 0)) (ab3 BK383) hb); have n1_ := Aside0.mk (below_step (ab2 GE383) hb); clear BK383; clear HB; have BK383 := n0_; have HB := n1_; clear n0_ n1_; (try clear hb); (try clear hb2); (try clear hk); (try clear hi)))
         go_ret
         exact ⟨ab7, ab2 GE383⟩
        ·replace c84 := Bool.eq_false_iff.mpr c84
         subst c84
         rw [if_neg (show ¬ (false = true) by decide)] at H
         by_cases c87 : a0_0 = 3
         ·rw [if_pos c87] at H
          have c87b0 : (a0_0 == 3) = true := beq_iff_eq.mpr c87
          have c87b1 : (a0_0 != 3) = false := bne_eq_false_iff_eq.mpr c87
          clear c87
          replace H := Option.bind_eq_some_iff.mp H
          obtain ⟨t386, A880, H⟩ := H
          try dsimp only at H
          have A88 := Aside0.mk A880
          clear A880
          obtain rfl := Option.some.inj H
          obtain ⟨⟨hcz89_0, hcz89_1, hcz89_2, hcz89_3, hcz89_4, hcz89_5⟩, hfz89_0, hfz89_1, hfz89_2, hfz89_3, hfz89_4, hfz89_5⟩ := Op.cells6 BK383.out
          go_wp2_with (first | (go_at_call 48; (with_reducible refine (impl_TextOk.calls kj64 a0_4 false _ A83.out).mono ?_); rintro e w90 ⟨rfl, hb⟩; have n0_ := Aside0.mk (blk_below (g := gb383) (o := .cells #[.int .i64 a0_0, .int .i64 a0_1, .string a0_2, .slice A0_3 l0_3.length c0_3, .string a0_4, .slice A0_5 l0_5.length c0_5] 31 (0, 0)) (ab3 BK383) hb); have n1_ := Aside0.mk (below_step (ab2 GE383) hb); clear BK383; clear HB; have BK383 := n0_; have HB := n1_; clear n0_ n1_; (try clear hb); (try clear hb2); (try clear hk); (try clear hi); obtain ⟨⟨hcz91_0, hcz91_1, hcz91_2, hcz91_3, hcz91_4, hcz91_5⟩, hfz91_0, hfz91_1, hfz91_2, hfz91_3, hfz91_4, hfz91_5⟩ := Op.cells6 BK383.out) | (go_at_call 49; (with_reducible refine (impl_NoteOk.calls kj64 a0_4 t386 _ M_ ?side1 A88.out).mono ?_); (case side1 => exact pw_cell_below (ab2 GE383) HM_.out); rintro e w92 ⟨rfl, hb⟩; have n0_ := Aside0.mk (blk_below (g := gb383) (o := .cells #[.int .i64 a0_0, .int .i64 a0_1, .string a0_2, .slice A0_3 l0_3.length c0_3, .string a0_4, .slice A0_5 l0_5.length c0_5] 31 (0, 0)) (ab3 BK383) hb); have n1_ := Aside0.mk (below_step (ab2 GE383) hb); clear BK383; clear HB; have BK383 := n0_; have HB := n1_; clear n0_ n1_; (try clear hb); (try clear hb2); (try clear hk); (try clear hi)))
          go_ret
          exact ⟨ab7, ab2 GE383⟩
         ·rw [if_neg c87] at H
          have c87b0 : (a0_0 == 3) = false := beq_eq_false_iff_ne.mpr c87
          have c87b1 : (a0_0 != 3) = true := bne_iff_ne.mpr c87
          obtain rfl := Option.some.inj H
          obtain ⟨⟨hcz93_0, hcz93_1, hcz93_2, hcz93_3, hcz93_4, hcz93_5⟩, hfz93_0, hfz93_1, hfz93_2, hfz93_3, hfz93_4, hfz93_5⟩ := Op.cells6 BK383.out
          go_wp2_with (first | (go_at_call 48; (with_reducible refine (impl_TextOk.calls kj64 a0_4 false _ A83.out).mono ?_); rintro e w94 ⟨rfl, hb⟩; have n0_ := Aside0.mk (blk_below (g := gb383) (o := .cells #[.int .i64 a0_0, .int .i64 a0_1, .string a0_2, .slice A0_3 l0_3.length c0_3, .string a0_4, .slice A0_5 l0_5.length c0_5] 31 (0, 0)) (ab3 BK383) hb); have n1_ := Aside0.mk (below_step (ab2 GE383) hb); clear BK383; clear HB; have BK383 := n0_; have HB := n1_; clear n0_ n1_; (try clear hb); (try clear hb2); (try clear hk); (try clear hi); obtain ⟨⟨hcz95_0, hcz95_1, hcz95_2, hcz95_3, hcz95_4, hcz95_5⟩, hfz95_0, hfz95_1, hfz95_2, hfz95_3, hfz95_4, hfz95_5⟩ := Op.cells6 BK383.out))
          go_ret
          exact ⟨ab7, ab2 GE383⟩
      ·rw [if_neg c76] at H
       have c76b0 : (a0_0 == 2) = false := beq_eq_false_iff_ne.mpr c76
       have c76b1 : (a0_0 != 2) = true := bne_iff_ne.mpr c76
       by_cases c96 : a0_0 = 3
       ·rw [if_pos c96] at H
        have c96b0 : (a0_0 == 3) = true := beq_iff_eq.mpr c96
        have c96b1 : (a0_0 != 3) = false := bne_eq_false_iff_eq.mpr c96
        clear c96
        replace H := Option.bind_eq_some_iff.mp H
        obtain ⟨t387, A970, H⟩ := H
        try dsimp only at H
        have A97 := Aside0.mk A970
        clear A970
        obtain rfl := Option.some.inj H
        obtain ⟨⟨hcz98_0, hcz98_1, hcz98_2, hcz98_3, hcz98_4, hcz98_5⟩, hfz98_0, hfz98_1, hfz98_2, hfz98_3, hfz98_4, hfz98_5⟩ := Op.cells6 BK383.out
        go_wp2_with (first | (go_at_call 49; (with_reducible refine (impl_NoteOk.calls kj64 a0_4 t387 _ M_ ?side1 A97.out).mono ?_); (case side1 => exact pw_cell_below (ab2 GE383) HM_.out); rintro e w99 ⟨rfl, hb⟩; have n0_ := Aside0.mk (blk_below (g := gb383) (o := .cells #[.int .i64 a0_0, .int .i64 a0_1, .string a0_2, .slice A0_3 l0_3.length c0_3, .string a0_4, .slice A0_5 l0_5.length c0_5] 31 (0, 0)) (ab3 BK383) hb); have n1_ := Aside0.mk (below_step (ab2 GE383) hb); clear BK383; clear HB; have BK383 := n0_; have HB := n1_; clear n0_ n1_; (try clear hb); (try clear hb2); (try clear hk); (try clear hi)))
        go_ret
        exact ⟨ab7, ab2 GE383⟩
       ·rw [if_neg c96] at H
        have c96b0 : (a0_0 == 3) = false := beq_eq_false_iff_ne.mpr c96
        have c96b1 : (a0_0 != 3) = true := bne_iff_ne.mpr c96
        obtain rfl := Option.some.inj H
        obtain ⟨⟨hcz100_0, hcz100_1, hcz100_2, hcz100_3, hcz100_4, hcz100_5⟩, hfz100_0, hfz100_1, hfz100_2, hfz100_3, hfz100_4, hfz100_5⟩ := Op.cells6 BK383.out
        go_wp2
        go_ret
        exact ⟨ab7, ab2 GE383⟩

end Go.Proofs.YthpdpnpojgegiaaGreatDoor.P
