-- WRITTEN BY hprint.py, this session's own program, over the kit's printer: not typed by hand; Lean checks it
import Derived.Test.YthpdpnpojgegiaaGreatDoorPe0
import Derived.Test.YthpdpnpojgegiaaGreatDoorPe1
import Derived.Test.YthpdpnpojgegiaaGreatDoorPe3
import Derived.Test.YthpdpnpojgegiaaGreatDoorPe5
import Derived.Test.YthpdpnpojgegiaaGreatDoorPe6
namespace Go.Proofs.YthpdpnpojgegiaaGreatDoor.P
open Go.RowKit Go.Proofs.YthpdpnpojgegiaaGreatDoorW.PrintWords Go.Proofs.YthpdpnpojgegiaaGreatDoorW.PrintLast Go.Proofs.YthpdpnpojgegiaaGreatDoorW.PrintMore
attribute [local go_sem] max2_int min2_int max_two min_two max_three min_three max_four min_four   -- for this text's walks alone
set_option linter.unusedVariables false
set_option linter.unusedSimpArgs false

/-! ### spec_l15El: function 29 -/
mutual
def spec_l15El.l0 : Nat → Int → Int → Int → ByteArray → List (S62) → ByteArray → List (S31) → Option (Bool)
 | 0, _, _, _, _, _, _, _ => none
 | k + 1, x3, x221000, x221001, x221002, x221003, x221004, x221005 => if x3 < (x221005.length : Int) then (if 0 ≤ x3 then ((spec_l15El.f k ((rd_T31 x221005 x3).f0) ((rd_T31 x221005 x3).f1) ((rd_T31 x221005 x3).f2) ((rd_T31 x221005 x3).f3) ((rd_T31 x221005 x3).f4) ((rd_T31 x221005 x3).f5)).bind fun t222 => (if t222 = true then (if x3 > 0 then (if ((rd_T31 x221005 x3).f0) = 2 then (if 0 ≤ (wrap64 (x3 - 1)) then (if (wrap64 (x3 - 1)) < (x221005.length : Int) then (if ((rd_T31 x221005 (wrap64 (x3 - 1))).f0) = 2 then (some false) else (spec_l15El.l0 k (wrap64 (x3 + 1)) x221000 x221001 x221002 x221003 x221004 x221005)) else (none)) else (none)) else (spec_l15El.l0 k (wrap64 (x3 + 1)) x221000 x221001 x221002 x221003 x221004 x221005)) else (spec_l15El.l0 k (wrap64 (x3 + 1)) x221000 x221001 x221002 x221003 x221004 x221005)) else (some false))) else (none)) else (if x221001 = 0 then (if x221002.toList = ([] : List UInt8) then (if (x221003.length : Int) = 0 then (spec_l15El.j1 k ((x221005.length : Int) == 0) x221000 x221001 x221002 x221003 x221004 x221005) else (spec_l15El.j1 k false x221000 x221001 x221002 x221003 x221004 x221005)) else (spec_l15El.j1 k false x221000 x221001 x221002 x221003 x221004 x221005)) else (spec_l15El.j1 k false x221000 x221001 x221002 x221003 x221004 x221005))
def spec_l15El.j1 : Nat → Bool → Int → Int → ByteArray → List (S62) → ByteArray → List (S31) → Option (Bool)
 | 0, _, _, _, _, _, _, _ => none
 | k + 1, x4, x221000, x221001, x221002, x221003, x221004, x221005 => if x221000 = 1 then ((spec_l1In.f x221001 0 2).bind fun t225 => (if t225 = true then ((spec_NameOk.f k x221002).bind fun t226 => (if t226 = true then ((spec_l15Attrs.f k x221003).bind fun t227 => (if t227 = true then (some (x221004.toList == ([] : List UInt8))) else (some false))) else (some false))) else (some false))) else (if x221000 = 2 then (if x4 = true then (if x221004.toList = ([] : List UInt8) then (some false) else ((spec_TextOk.f k x221004).bind fun t228 => (some t228))) else (some false)) else (if x221000 = 3 then (if x4 = true then ((spec_NoteOk.f k x221004).bind fun t229 => (some t229)) else (some false)) else (some false)))
def spec_l15El.f : Nat → Int → Int → ByteArray → List (S62) → ByteArray → List (S31) → Option (Bool)
 | 0, _, _, _, _, _, _ => none
 | k + 1, a0_0, a0_1, a0_2, l0_3, a0_4, l0_5 => spec_l15El.l0 k 0 a0_0 a0_1 a0_2 l0_3 a0_4 l0_5
end
theorem spec_l15El.mono_l : ∀ k, (∀ y0 y1 y2 y3 y4 y5, LeO (spec_l15El.f k y0 y1 y2 y3 y4 y5) (spec_l15El.f (k + 1) y0 y1 y2 y3 y4 y5)) ∧ (∀ y0 y1 y2 y3 y4 y5 y6, LeO (spec_l15El.l0 k y0 y1 y2 y3 y4 y5 y6) (spec_l15El.l0 (k + 1) y0 y1 y2 y3 y4 y5 y6)) ∧ (∀ y0 y1 y2 y3 y4 y5 y6, LeO (spec_l15El.j1 k y0 y1 y2 y3 y4 y5 y6) (spec_l15El.j1 (k + 1) y0 y1 y2 y3 y4 y5 y6))
 | 0 => ⟨fun _ _ _ _ _ _ r h => by simp [spec_l15El.f] at h, fun _ _ _ _ _ _ _ r h => by simp [spec_l15El.l0] at h, fun _ _ _ _ _ _ _ r h => by simp [spec_l15El.j1] at h⟩
 | k + 1 => by
  obtain ⟨ih0, ih1, ih2⟩ := spec_l15El.mono_l k
  refine ⟨?_, ?_, ?_⟩
  ·intro y0 y1 y2 y3 y4 y5
   unfold spec_l15El.f
   repeat' first
   | (with_reducible exact ih0 _ _ _ _ _ _)
   | (with_reducible exact ih1 _ _ _ _ _ _ _)
   | (with_reducible exact ih2 _ _ _ _ _ _ _)
   | (with_reducible exact spec_NameOk.mono _ _)
   | (with_reducible exact spec_NoteOk.mono _ _)
   | (with_reducible exact spec_TextOk.mono _ _)
   | (with_reducible exact spec_l15Attrs.mono _ _)
   | (with_reducible exact LeO.refl _)
   | (with_reducible exact LeO.none _)
   | (with_reducible refine LeO.ite ?_ ?_)
   | (with_reducible refine LeO.bind ?_ (fun _ => ?_))
  ·intro y0 y1 y2 y3 y4 y5 y6
   unfold spec_l15El.l0
   repeat' first
   | (with_reducible exact ih0 _ _ _ _ _ _)
   | (with_reducible exact ih1 _ _ _ _ _ _ _)
   | (with_reducible exact ih2 _ _ _ _ _ _ _)
   | (with_reducible exact spec_NameOk.mono _ _)
   | (with_reducible exact spec_NoteOk.mono _ _)
   | (with_reducible exact spec_TextOk.mono _ _)
   | (with_reducible exact spec_l15Attrs.mono _ _)
   | (with_reducible exact LeO.refl _)
   | (with_reducible exact LeO.none _)
   | (with_reducible refine LeO.ite ?_ ?_)
   | (with_reducible refine LeO.bind ?_ (fun _ => ?_))
  ·intro y0 y1 y2 y3 y4 y5 y6
   unfold spec_l15El.j1
   repeat' first
   | (with_reducible exact ih0 _ _ _ _ _ _)
   | (with_reducible exact ih1 _ _ _ _ _ _ _)
   | (with_reducible exact ih2 _ _ _ _ _ _ _)
   | (with_reducible exact spec_NameOk.mono _ _)
   | (with_reducible exact spec_NoteOk.mono _ _)
   | (with_reducible exact spec_TextOk.mono _ _)
   | (with_reducible exact spec_l15Attrs.mono _ _)
   | (with_reducible exact LeO.refl _)
   | (with_reducible exact LeO.none _)
   | (with_reducible refine LeO.ite ?_ ?_)
   | (with_reducible refine LeO.bind ?_ (fun _ => ?_))
theorem spec_l15El.mono : ∀ a0 a1 a2 a3 a4 a5 k, LeO (spec_l15El.f k a0 a1 a2 a3 a4 a5) (spec_l15El.f (k + 1) a0 a1 a2 a3 a4 a5) := by
 intro a0 a1 a2 a3 a4 a5 k
 obtain ⟨ih0, ih1, ih2⟩ := spec_l15El.mono_l k
 exact ih0 a0 a1 a2 a3 a4 a5
set_option maxHeartbeats 8000000 in
set_option maxRecDepth 100000 in
theorem spec_l15El.calls (k : Nat) : ∀ (a0_0 : Int) (a0_1 : Int) (a0_2 : ByteArray) (A0_3 : Option Addr) (c0_3 : Nat) (l0_3 : List (S62)) (a0_4 : ByteArray) (A0_5 : Option Addr) (c0_5 : Nat) (l0_5 : List (S31)) (r : Bool) (w : World) (hr0_3 : Kd.C k62 w A0_3 l0_3.length l0_3) (hc0_3 : l0_3.length ≤ c0_3) (hr0_5 : Kd.C k31 w A0_5 l0_5.length l0_5) (hc0_5 : l0_5.length ≤ c0_5) (h : spec_l15El.f k a0_0 a0_1 a0_2 l0_3 a0_4 l0_5 = some r),
  Calls Tryz.prog 29 #[.agg #[.int .i64 a0_0, .int .i64 a0_1, .string a0_2, .slice A0_3 l0_3.length c0_3, .string a0_4, .slice A0_5 l0_5.length c0_5]] w fun e w' => e = .returned (.bool r) ∧ Below w.heap.size w w' := by
 induction k using Nat.strongRecOn with
 | _ k ih =>
 intro a0_0 a0_1 a0_2 A0_3 c0_3 l0_3 a0_4 A0_5 c0_5 l0_5 r w hr0_3 hc0_3 hr0_5 hc0_5 h
 cases k with
 | zero => exact absurd h (by simp [spec_l15El.f])
 | succ k =>
 simp only [spec_l15El.f] at h
 have hu31 := Tryz.underlying31
 have HR0_3 := Aside0.mk hr0_3
 have HC0_3 := Aside0.mk hc0_3
 clear hr0_3 hc0_3
 have HR0_5 := Aside0.mk hr0_5
 have HC0_5 := Aside0.mk hc0_5
 clear hr0_5 hc0_5
 have HB := Aside0.mk (Below.refl w.heap.size w)
 have H : (spec_l15El.l0 k 0 a0_0 a0_1 a0_2 l0_3 a0_4 l0_5) = some r := h
 clear h
 have H' := Aside0.mk H
 clear H
 go_enter Tryz.func29, Tryz.ntmps29
 go_wp2_with (first | ((with_reducible refine gate_dst (N := 1) rfl ?_); (try (refine gate_guard (by rfl) ?_; dsimp only)); refine box_event ?hg (N := 1) ?hd (cs := #[.int .i64 a0_0, .int .i64 a0_1, .string a0_2, .slice A0_3 l0_3.length c0_3, .string a0_4, .slice A0_5 l0_5.length c0_5]) (t := 31) ?hr ?_; (case hd => rfl); (case hg => rfl); (case hr => first | (go_simp; done) | (go_simp; rfl)); intro gb220 hg w2 hbox hb; have n0_ := Aside0.mk (below_step ab1 hb); have n1_ := Aside0.mk (hbox); have n2_ := Aside0.mk ((by rw [hg]; exact (below_size ab1) : w.heap.size ≤ gb220)); have n3_ := Aside0.mk ((by rw [hg]; exact (below_size ab1) : w.heap.size ≤ gb220)); clear HB; have HB := n0_; have BK220 := n1_; have GW220 := n2_; have GE220 := n3_; clear n0_ n1_ n2_ n3_; clear hb hbox hg))
 go_loopg [3] k (fun kq v3 w' => ∃ (x3_1 : Int), v3 = .int .i64 x3_1 ∧ Aside0 (spec_l15El.l0 kq x3_1 a0_0 a0_1 a0_2 l0_3 a0_4 l0_5 = some r) ∧ Aside0 (kq ≤ k) ∧ Aside0 (w'.heap[gb220]? = some (.cells #[.int .i64 a0_0, .int .i64 a0_1, .string a0_2, (.slice A0_3 l0_3.length c0_3), .string a0_4, (.slice A0_5 l0_5.length c0_5)] 31 (0, 0))) ∧ Aside0 (Below w.heap.size w w'))
 case atStart => exact ⟨(0), ab6, H', ⟨Nat.le_refl _⟩, ⟨ab3 BK220⟩, ⟨ab2 GE220⟩⟩
 case round =>
  clear H'
  obtain ⟨x3_1, rfl, HA, HK1, BK220, HB⟩ := hrel
  cases gk with
  | zero => exact absurd HA.out (by simp [spec_l15El.l0])
  | succ k1 =>
   have H := HA.out
   clear HA
   simp only [spec_l15El.l0] at H
   by_cases c3 : x3_1 < (l0_5.length : Int)
   ·rw [if_pos c3] at H
    have c3b0 := decide_eq_true c3
    clear c3
    by_cases c4 : 0 ≤ x3_1
    case neg => rw [if_neg c4] at H; exact absurd H (by simp)
    rw [if_pos c4] at H
    have c4b0 := decide_eq_true c4
    clear c4
    replace H := Option.bind_eq_some_iff.mp H
    obtain ⟨t222, A50, H⟩ := H
    try dsimp only at H
    have A5 := Aside0.mk A50
    clear A50
    by_cases c6 : t222 = true
    ·subst c6
     rw [if_pos rfl] at H
     by_cases c7 : x3_1 > 0
     ·rw [if_pos c7] at H
      have c7b0 : decide (0 < x3_1) = true := decide_eq_true c7
      clear c7
      by_cases c8 : ((rd_T31 l0_5 x3_1).f0) = 2
      ·rw [if_pos c8] at H
       have c8b0 : (((rd_T31 l0_5 x3_1).f0) == 2) = true := beq_iff_eq.mpr c8
       have c8b1 : (((rd_T31 l0_5 x3_1).f0) != 2) = false := bne_eq_false_iff_eq.mpr c8
       clear c8
       obtain ⟨ji9, hji9⟩ : ∃ j_ : Int, (wrap64 (x3_1 - 1)) = j_ := ⟨_, rfl⟩
       replace H : (if 0 ≤ (ji9) then (if (ji9) < (l0_5.length : Int) then (if ((rd_T31 l0_5 (ji9)).f0) = 2 then (some false) else (spec_l15El.l0 k1 (wrap64 (x3_1 + 1)) a0_0 a0_1 a0_2 l0_3 a0_4 l0_5)) else (none)) else (none)) = some r := by first | (rw [hji9] at H; exact H) | (simp only [hji9] at H ⊢; exact H)
       (try rw [hji9] at A5)
       have hji9w : (IntKind.i64.wrap (x3_1 - 1)) = ji9 := (i64_w _).trans hji9
       by_cases c10 : 0 ≤ (ji9)
       case neg => rw [if_neg c10] at H; exact absurd H (by simp)
       rw [if_pos c10] at H
       have c10b0 := decide_eq_true c10
       clear c10
       by_cases c11 : (ji9) < (l0_5.length : Int)
       case neg => rw [if_neg c11] at H; exact absurd H (by simp)
       rw [if_pos c11] at H
       have c11b0 := decide_eq_true c11
       clear c11
       by_cases c12 : ((rd_T31 l0_5 (ji9)).f0) = 2
       ·rw [if_pos c12] at H
        have c12b0 : (((rd_T31 l0_5 (ji9)).f0) == 2) = true := beq_iff_eq.mpr c12
        have c12b1 : (((rd_T31 l0_5 (ji9)).f0) != 2) = false := bne_eq_false_iff_eq.mpr c12
        clear c12
        obtain rfl := Option.some.inj H
        obtain ⟨⟨hcz13_0, hcz13_1, hcz13_2, hcz13_3, hcz13_4, hcz13_5⟩, hfz13_0, hfz13_1, hfz13_2, hfz13_3, hfz13_4, hfz13_5⟩ := Op.cells6 BK220.out
        have p221 : 0 ≤ (x3_1 : Int) := of_decide_eq_true ab4
        have q221 : x3_1 < (l0_5.length : Int) := of_decide_eq_true ab4
        obtain ⟨ad221, A221_3, c221_3, A221_5, c221_5, e221, hx221_0, hx221_1, hx221_2, hx221_3, hx221_4, hx221_5, hl221_3, hi221_3, hl221_5, hi221_5⟩ := at_T31 HR0_5.out x3_1 p221 q221
        cases e221
        replace hx221_0 := pw_cell_below HB.out hx221_0
        replace hx221_1 := pw_cell_below HB.out hx221_1
        replace hx221_2 := pw_cell_below HB.out hx221_2
        replace hx221_3 := pw_cell_below HB.out hx221_3
        replace hx221_4 := pw_cell_below HB.out hx221_4
        replace hx221_5 := pw_cell_below HB.out hx221_5
        have HR221_3 := Aside0.mk hi221_3
        have HC221_3 := Aside0.mk hl221_3
        clear hi221_3 hl221_3
        have HR221_5 := Aside0.mk hi221_5
        have HC221_5 := Aside0.mk hl221_5
        clear hi221_5 hl221_5
        replace p221 := eq_true p221
        replace q221 := eq_true q221
        go_wp2_with (first | ((with_reducible refine gate_callee (f := 29) rfl ?_); refine goesL_ (some 17) rfl rfl Tryz.func29 (by kernel_rfl) rfl #[.agg #[.int .i64 ((rd_T31 l0_5 x3_1).f0), .int .i64 ((rd_T31 l0_5 x3_1).f1), .string ((rd_T31 l0_5 x3_1).f2), .slice A221_3 ((rd_T31 l0_5 x3_1).f3).length c221_3, .string ((rd_T31 l0_5 x3_1).f4), .slice A221_5 ((rd_T31 l0_5 x3_1).f5).length c221_5]] rfl ab5 ?_; (with_reducible refine (ih k1 (by have := HK1.out; omega) ((rd_T31 l0_5 x3_1).f0) ((rd_T31 l0_5 x3_1).f1) ((rd_T31 l0_5 x3_1).f2) _ _ ((rd_T31 l0_5 x3_1).f3) ((rd_T31 l0_5 x3_1).f4) _ _ ((rd_T31 l0_5 x3_1).f5) true _ ?side1 ?side2 ?side3 ?side4 A5.out).mono ?_); (case side1 => repeat (first | exact (Kd.C_below HR221_3.out HB.out) | (with_reducible refine Kd.C_alloc ?_ _) | (with_reducible refine Kd.C_drewN ?_ _) | (with_reducible refine Kd.C_drew ?_))); (case side2 => exact HC221_3.out); (case side3 => repeat (first | exact (Kd.C_below HR221_5.out HB.out) | (with_reducible refine Kd.C_alloc ?_ _) | (with_reducible refine Kd.C_drewN ?_ _) | (with_reducible refine Kd.C_drew ?_))); (case side4 => exact HC221_5.out); rintro e w14 ⟨rfl, hb⟩; refine ⟨_, rfl, ?_⟩; have n0_ := Aside0.mk (blk_below (g := gb220) (o := .cells #[.int .i64 a0_0, .int .i64 a0_1, .string a0_2, .slice A0_3 l0_3.length c0_3, .string a0_4, .slice (some ad221) l0_5.length c0_5] 31 (0, 0)) (ab3 BK220) hb); have n1_ := Aside0.mk (below_step (ab2 GE220) hb); clear BK220; clear HB; have BK220 := n0_; have HB := n1_; clear n0_ n1_; (try clear hb); (try clear hb2); (try clear hk); (try clear hi); obtain ⟨⟨hcz15_0, hcz15_1, hcz15_2, hcz15_3, hcz15_4, hcz15_5⟩, hfz15_0, hfz15_1, hfz15_2, hfz15_3, hfz15_4, hfz15_5⟩ := Op.cells6 BK220.out; have p223 : 0 ≤ (x3_1 : Int) := of_decide_eq_true ab4; have q223 : x3_1 < (l0_5.length : Int) := of_decide_eq_true ab4; obtain ⟨ad223, A223_3, c223_3, A223_5, c223_5, e223, hx223_0, hx223_1, hx223_2, hx223_3, hx223_4, hx223_5, hl223_3, hi223_3, hl223_5, hi223_5⟩ := at_T31 HR0_5.out x3_1 p223 q223; obtain rfl : ad221 = ad223 := (by injection e223); replace hx223_0 := pw_cell_below HB.out hx223_0; replace hx223_1 := pw_cell_below HB.out hx223_1; replace hx223_2 := pw_cell_below HB.out hx223_2; replace hx223_3 := pw_cell_below HB.out hx223_3; replace hx223_4 := pw_cell_below HB.out hx223_4; replace hx223_5 := pw_cell_below HB.out hx223_5; have HR223_3 := Aside0.mk hi223_3; have HC223_3 := Aside0.mk hl223_3; clear hi223_3 hl223_3; have HR223_5 := Aside0.mk hi223_5; have HC223_5 := Aside0.mk hl223_5; clear hi223_5 hl223_5; replace p223 := eq_true p223; replace q223 := eq_true q223; have p224 : 0 ≤ ((ji9) : Int) := of_decide_eq_true ab4; have q224 : (ji9) < (l0_5.length : Int) := of_decide_eq_true ab4; obtain ⟨ad224, A224_3, c224_3, A224_5, c224_5, e224, hx224_0, hx224_1, hx224_2, hx224_3, hx224_4, hx224_5, hl224_3, hi224_3, hl224_5, hi224_5⟩ := at_T31 HR0_5.out (ji9) p224 q224; obtain rfl : ad221 = ad224 := (by injection e224); replace hx224_0 := pw_cell_below HB.out hx224_0; replace hx224_1 := pw_cell_below HB.out hx224_1; replace hx224_2 := pw_cell_below HB.out hx224_2; replace hx224_3 := pw_cell_below HB.out hx224_3; replace hx224_4 := pw_cell_below HB.out hx224_4; replace hx224_5 := pw_cell_below HB.out hx224_5; have HR224_3 := Aside0.mk hi224_3; have HC224_3 := Aside0.mk hl224_3; clear hi224_3 hl224_3; have HR224_5 := Aside0.mk hi224_5; have HC224_5 := Aside0.mk hl224_5; clear hi224_5 hl224_5; replace p224 := eq_true p224; replace q224 := eq_true q224))
        go_ret
        exact ⟨by first | rfl | (simp [errW_none, errW_some] <;> rfl) | (simp only [← hji9]; first | rfl | (simp [errW_none, errW_some] <;> rfl)) | (simp [*, errW_none, errW_some] <;> rfl), ab2 GE220⟩
       ·rw [if_neg c12] at H
        have c12b0 : (((rd_T31 l0_5 (ji9)).f0) == 2) = false := beq_eq_false_iff_ne.mpr c12
        have c12b1 : (((rd_T31 l0_5 (ji9)).f0) != 2) = true := bne_iff_ne.mpr c12
        have H' := Aside0.mk H
        clear H
        obtain ⟨⟨hcz16_0, hcz16_1, hcz16_2, hcz16_3, hcz16_4, hcz16_5⟩, hfz16_0, hfz16_1, hfz16_2, hfz16_3, hfz16_4, hfz16_5⟩ := Op.cells6 BK220.out
        have p221 : 0 ≤ (x3_1 : Int) := of_decide_eq_true ab4
        have q221 : x3_1 < (l0_5.length : Int) := of_decide_eq_true ab4
        obtain ⟨ad221, A221_3, c221_3, A221_5, c221_5, e221, hx221_0, hx221_1, hx221_2, hx221_3, hx221_4, hx221_5, hl221_3, hi221_3, hl221_5, hi221_5⟩ := at_T31 HR0_5.out x3_1 p221 q221
        cases e221
        replace hx221_0 := pw_cell_below HB.out hx221_0
        replace hx221_1 := pw_cell_below HB.out hx221_1
        replace hx221_2 := pw_cell_below HB.out hx221_2
        replace hx221_3 := pw_cell_below HB.out hx221_3
        replace hx221_4 := pw_cell_below HB.out hx221_4
        replace hx221_5 := pw_cell_below HB.out hx221_5
        have HR221_3 := Aside0.mk hi221_3
        have HC221_3 := Aside0.mk hl221_3
        clear hi221_3 hl221_3
        have HR221_5 := Aside0.mk hi221_5
        have HC221_5 := Aside0.mk hl221_5
        clear hi221_5 hl221_5
        replace p221 := eq_true p221
        replace q221 := eq_true q221
        go_wp2_with (first | ((with_reducible refine gate_callee (f := 29) rfl ?_); refine goesL_ (some 17) rfl rfl Tryz.func29 (by kernel_rfl) rfl #[.agg #[.int .i64 ((rd_T31 l0_5 x3_1).f0), .int .i64 ((rd_T31 l0_5 x3_1).f1), .string ((rd_T31 l0_5 x3_1).f2), .slice A221_3 ((rd_T31 l0_5 x3_1).f3).length c221_3, .string ((rd_T31 l0_5 x3_1).f4), .slice A221_5 ((rd_T31 l0_5 x3_1).f5).length c221_5]] rfl ab5 ?_; (with_reducible refine (ih k1 (by have := HK1.out; omega) ((rd_T31 l0_5 x3_1).f0) ((rd_T31 l0_5 x3_1).f1) ((rd_T31 l0_5 x3_1).f2) _ _ ((rd_T31 l0_5 x3_1).f3) ((rd_T31 l0_5 x3_1).f4) _ _ ((rd_T31 l0_5 x3_1).f5) true _ ?side1 ?side2 ?side3 ?side4 A5.out).mono ?_); (case side1 => repeat (first | exact (Kd.C_below HR221_3.out HB.out) | (with_reducible refine Kd.C_alloc ?_ _) | (with_reducible refine Kd.C_drewN ?_ _) | (with_reducible refine Kd.C_drew ?_))); (case side2 => exact HC221_3.out); (case side3 => repeat (first | exact (Kd.C_below HR221_5.out HB.out) | (with_reducible refine Kd.C_alloc ?_ _) | (with_reducible refine Kd.C_drewN ?_ _) | (with_reducible refine Kd.C_drew ?_))); (case side4 => exact HC221_5.out); rintro e w17 ⟨rfl, hb⟩; refine ⟨_, rfl, ?_⟩; have n0_ := Aside0.mk (blk_below (g := gb220) (o := .cells #[.int .i64 a0_0, .int .i64 a0_1, .string a0_2, .slice A0_3 l0_3.length c0_3, .string a0_4, .slice (some ad221) l0_5.length c0_5] 31 (0, 0)) (ab3 BK220) hb); have n1_ := Aside0.mk (below_step (ab2 GE220) hb); clear BK220; clear HB; have BK220 := n0_; have HB := n1_; clear n0_ n1_; (try clear hb); (try clear hb2); (try clear hk); (try clear hi); obtain ⟨⟨hcz18_0, hcz18_1, hcz18_2, hcz18_3, hcz18_4, hcz18_5⟩, hfz18_0, hfz18_1, hfz18_2, hfz18_3, hfz18_4, hfz18_5⟩ := Op.cells6 BK220.out; have p223 : 0 ≤ (x3_1 : Int) := of_decide_eq_true ab4; have q223 : x3_1 < (l0_5.length : Int) := of_decide_eq_true ab4; obtain ⟨ad223, A223_3, c223_3, A223_5, c223_5, e223, hx223_0, hx223_1, hx223_2, hx223_3, hx223_4, hx223_5, hl223_3, hi223_3, hl223_5, hi223_5⟩ := at_T31 HR0_5.out x3_1 p223 q223; obtain rfl : ad221 = ad223 := (by injection e223); replace hx223_0 := pw_cell_below HB.out hx223_0; replace hx223_1 := pw_cell_below HB.out hx223_1; replace hx223_2 := pw_cell_below HB.out hx223_2; replace hx223_3 := pw_cell_below HB.out hx223_3; replace hx223_4 := pw_cell_below HB.out hx223_4; replace hx223_5 := pw_cell_below HB.out hx223_5; have HR223_3 := Aside0.mk hi223_3; have HC223_3 := Aside0.mk hl223_3; clear hi223_3 hl223_3; have HR223_5 := Aside0.mk hi223_5; have HC223_5 := Aside0.mk hl223_5; clear hi223_5 hl223_5; replace p223 := eq_true p223; replace q223 := eq_true q223; have p224 : 0 ≤ ((ji9) : Int) := of_decide_eq_true ab4; have q224 : (ji9) < (l0_5.length : Int) := of_decide_eq_true ab4; obtain ⟨ad224, A224_3, c224_3, A224_5, c224_5, e224, hx224_0, hx224_1, hx224_2, hx224_3, hx224_4, hx224_5, hl224_3, hi224_3, hl224_5, hi224_5⟩ := at_T31 HR0_5.out (ji9) p224 q224; obtain rfl : ad221 = ad224 := (by injection e224); replace hx224_0 := pw_cell_below HB.out hx224_0; replace hx224_1 := pw_cell_below HB.out hx224_1; replace hx224_2 := pw_cell_below HB.out hx224_2; replace hx224_3 := pw_cell_below HB.out hx224_3; replace hx224_4 := pw_cell_below HB.out hx224_4; replace hx224_5 := pw_cell_below HB.out hx224_5; have HR224_3 := Aside0.mk hi224_3; have HC224_3 := Aside0.mk hl224_3; clear hi224_3 hl224_3; have HR224_5 := Aside0.mk hi224_5; have HC224_5 := Aside0.mk hl224_5; clear hi224_5 hl224_5; replace p224 := eq_true p224; replace q224 := eq_true q224))
        go_roundg k1
        case measure => have := HK1.out; omega
        case rel => exact ⟨(wrap64 (x3_1 + 1)), ab6, H', ⟨by have := HK1.out; omega⟩, ⟨ab3 BK220⟩, ⟨ab2 GE220⟩⟩
      ·rw [if_neg c8] at H
       have c8b0 : (((rd_T31 l0_5 x3_1).f0) == 2) = false := beq_eq_false_iff_ne.mpr c8
       have c8b1 : (((rd_T31 l0_5 x3_1).f0) != 2) = true := bne_iff_ne.mpr c8
       have H' := Aside0.mk H
       clear H
       obtain ⟨⟨hcz19_0, hcz19_1, hcz19_2, hcz19_3, hcz19_4, hcz19_5⟩, hfz19_0, hfz19_1, hfz19_2, hfz19_3, hfz19_4, hfz19_5⟩ := Op.cells6 BK220.out
       have p221 : 0 ≤ (x3_1 : Int) := of_decide_eq_true ab4
       have q221 : x3_1 < (l0_5.length : Int) := of_decide_eq_true ab4
       obtain ⟨ad221, A221_3, c221_3, A221_5, c221_5, e221, hx221_0, hx221_1, hx221_2, hx221_3, hx221_4, hx221_5, hl221_3, hi221_3, hl221_5, hi221_5⟩ := at_T31 HR0_5.out x3_1 p221 q221
       cases e221
       replace hx221_0 := pw_cell_below HB.out hx221_0
       replace hx221_1 := pw_cell_below HB.out hx221_1
       replace hx221_2 := pw_cell_below HB.out hx221_2
       replace hx221_3 := pw_cell_below HB.out hx221_3
       replace hx221_4 := pw_cell_below HB.out hx221_4
       replace hx221_5 := pw_cell_below HB.out hx221_5
       have HR221_3 := Aside0.mk hi221_3
       have HC221_3 := Aside0.mk hl221_3
       clear hi221_3 hl221_3
       have HR221_5 := Aside0.mk hi221_5
       have HC221_5 := Aside0.mk hl221_5
       clear hi221_5 hl221_5
       replace p221 := eq_true p221
       replace q221 := eq_true q221
       go_wp2_with (first | ((with_reducible refine gate_callee (f := 29) rfl ?_); refine goesL_ (some 17) rfl rfl Tryz.func29 (by kernel_rfl) rfl #[.agg #[.int .i64 ((rd_T31 l0_5 x3_1).f0), .int .i64 ((rd_T31 l0_5 x3_1).f1), .string ((rd_T31 l0_5 x3_1).f2), .slice A221_3 ((rd_T31 l0_5 x3_1).f3).length c221_3, .string ((rd_T31 l0_5 x3_1).f4), .slice A221_5 ((rd_T31 l0_5 x3_1).f5).length c221_5]] rfl ab5 ?_; (with_reducible refine (ih k1 (by have := HK1.out; omega) ((rd_T31 l0_5 x3_1).f0) ((rd_T31 l0_5 x3_1).f1) ((rd_T31 l0_5 x3_1).f2) _ _ ((rd_T31 l0_5 x3_1).f3) ((rd_T31 l0_5 x3_1).f4) _ _ ((rd_T31 l0_5 x3_1).f5) true _ ?side1 ?side2 ?side3 ?side4 A5.out).mono ?_); (case side1 => repeat (first | exact (Kd.C_below HR221_3.out HB.out) | (with_reducible refine Kd.C_alloc ?_ _) | (with_reducible refine Kd.C_drewN ?_ _) | (with_reducible refine Kd.C_drew ?_))); (case side2 => exact HC221_3.out); (case side3 => repeat (first | exact (Kd.C_below HR221_5.out HB.out) | (with_reducible refine Kd.C_alloc ?_ _) | (with_reducible refine Kd.C_drewN ?_ _) | (with_reducible refine Kd.C_drew ?_))); (case side4 => exact HC221_5.out); rintro e w20 ⟨rfl, hb⟩; refine ⟨_, rfl, ?_⟩; have n0_ := Aside0.mk (blk_below (g := gb220) (o := .cells #[.int .i64 a0_0, .int .i64 a0_1, .string a0_2, .slice A0_3 l0_3.length c0_3, .string a0_4, .slice (some ad221) l0_5.length c0_5] 31 (0, 0)) (ab3 BK220) hb); have n1_ := Aside0.mk (below_step (ab2 GE220) hb); clear BK220; clear HB; have BK220 := n0_; have HB := n1_; clear n0_ n1_; (try clear hb); (try clear hb2); (try clear hk); (try clear hi); obtain ⟨⟨hcz21_0, hcz21_1, hcz21_2, hcz21_3, hcz21_4, hcz21_5⟩, hfz21_0, hfz21_1, hfz21_2, hfz21_3, hfz21_4, hfz21_5⟩ := Op.cells6 BK220.out; have p223 : 0 ≤ (x3_1 : Int) := of_decide_eq_true ab4; have q223 : x3_1 < (l0_5.length : Int) := of_decide_eq_true ab4; obtain ⟨ad223, A223_3, c223_3, A223_5, c223_5, e223, hx223_0, hx223_1, hx223_2, hx223_3, hx223_4, hx223_5, hl223_3, hi223_3, hl223_5, hi223_5⟩ := at_T31 HR0_5.out x3_1 p223 q223; obtain rfl : ad221 = ad223 := (by injection e223); replace hx223_0 := pw_cell_below HB.out hx223_0; replace hx223_1 := pw_cell_below HB.out hx223_1; replace hx223_2 := pw_cell_below HB.out hx223_2; replace hx223_3 := pw_cell_below HB.out hx223_3; replace hx223_4 := pw_cell_below HB.out hx223_4; replace hx223_5 := pw_cell_below HB.out hx223_5; have HR223_3 := Aside0.mk hi223_3; have HC223_3 := Aside0.mk hl223_3; clear hi223_3 hl223_3; have HR223_5 := Aside0.mk hi223_5; have HC223_5 := Aside0.mk hl223_5; clear hi223_5 hl223_5; replace p223 := eq_true p223; replace q223 := eq_true q223))
       go_roundg k1
       case measure => have := HK1.out; omega
       case rel => exact ⟨(wrap64 (x3_1 + 1)), ab6, H', ⟨by have := HK1.out; omega⟩, ⟨ab3 BK220⟩, ⟨ab2 GE220⟩⟩
     ·rw [if_neg c7] at H
      have c7b0 : decide (0 < x3_1) = false := decide_eq_false c7
      clear c7
      have H' := Aside0.mk H
      clear H
      obtain ⟨⟨hcz22_0, hcz22_1, hcz22_2, hcz22_3, hcz22_4, hcz22_5⟩, hfz22_0, hfz22_1, hfz22_2, hfz22_3, hfz22_4, hfz22_5⟩ := Op.cells6 BK220.out
      have p221 : 0 ≤ (x3_1 : Int) := of_decide_eq_true ab4
      have q221 : x3_1 < (l0_5.length : Int) := of_decide_eq_true ab4
      obtain ⟨ad221, A221_3, c221_3, A221_5, c221_5, e221, hx221_0, hx221_1, hx221_2, hx221_3, hx221_4, hx221_5, hl221_3, hi221_3, hl221_5, hi221_5⟩ := at_T31 HR0_5.out x3_1 p221 q221
      cases e221
      replace hx221_0 := pw_cell_below HB.out hx221_0
      replace hx221_1 := pw_cell_below HB.out hx221_1
      replace hx221_2 := pw_cell_below HB.out hx221_2
      replace hx221_3 := pw_cell_below HB.out hx221_3
      replace hx221_4 := pw_cell_below HB.out hx221_4
      replace hx221_5 := pw_cell_below HB.out hx221_5
      have HR221_3 := Aside0.mk hi221_3
      have HC221_3 := Aside0.mk hl221_3
      clear hi221_3 hl221_3
      have HR221_5 := Aside0.mk hi221_5
      have HC221_5 := Aside0.mk hl221_5
      clear hi221_5 hl221_5
      replace p221 := eq_true p221
      replace q221 := eq_true q221
      go_wp2_with (first | ((with_reducible refine gate_callee (f := 29) rfl ?_); refine goesL_ (some 17) rfl rfl Tryz.func29 (by kernel_rfl) rfl #[.agg #[.int .i64 ((rd_T31 l0_5 x3_1).f0), .int .i64 ((rd_T31 l0_5 x3_1).f1), .string ((rd_T31 l0_5 x3_1).f2), .slice A221_3 ((rd_T31 l0_5 x3_1).f3).length c221_3, .string ((rd_T31 l0_5 x3_1).f4), .slice A221_5 ((rd_T31 l0_5 x3_1).f5).length c221_5]] rfl ab5 ?_; (with_reducible refine (ih k1 (by have := HK1.out; omega) ((rd_T31 l0_5 x3_1).f0) ((rd_T31 l0_5 x3_1).f1) ((rd_T31 l0_5 x3_1).f2) _ _ ((rd_T31 l0_5 x3_1).f3) ((rd_T31 l0_5 x3_1).f4) _ _ ((rd_T31 l0_5 x3_1).f5) true _ ?side1 ?side2 ?side3 ?side4 A5.out).mono ?_); (case side1 => repeat (first | exact (Kd.C_below HR221_3.out HB.out) | (with_reducible refine Kd.C_alloc ?_ _) | (with_reducible refine Kd.C_drewN ?_ _) | (with_reducible refine Kd.C_drew ?_))); (case side2 => exact HC221_3.out); (case side3 => repeat (first | exact (Kd.C_below HR221_5.out HB.out) | (with_reducible refine Kd.C_alloc ?_ _) | (with_reducible refine Kd.C_drewN ?_ _) | (with_reducible refine Kd.C_drew ?_))); (case side4 => exact HC221_5.out); rintro e w23 ⟨rfl, hb⟩; refine ⟨_, rfl, ?_⟩; have n0_ := Aside0.mk (blk_below (g := gb220) (o := .cells #[.int .i64 a0_0, .int .i64 a0_1, .string a0_2, .slice A0_3 l0_3.length c0_3, .string a0_4, .slice (some ad221) l0_5.length c0_5] 31 (0, 0)) (ab3 BK220) hb); have n1_ := Aside0.mk (below_step (ab2 GE220) hb); clear BK220; clear HB; have BK220 := n0_; have HB := n1_; clear n0_ n1_; (try clear hb); (try clear hb2); (try clear hk); (try clear hi)))
      go_roundg k1
      case measure => have := HK1.out; omega
      case rel => exact ⟨(wrap64 (x3_1 + 1)), ab6, H', ⟨by have := HK1.out; omega⟩, ⟨ab3 BK220⟩, ⟨ab2 GE220⟩⟩
    ·replace c6 := Bool.eq_false_iff.mpr c6
     subst c6
     rw [if_neg (show ¬ (false = true) by decide)] at H
     obtain rfl := Option.some.inj H
     obtain ⟨⟨hcz24_0, hcz24_1, hcz24_2, hcz24_3, hcz24_4, hcz24_5⟩, hfz24_0, hfz24_1, hfz24_2, hfz24_3, hfz24_4, hfz24_5⟩ := Op.cells6 BK220.out
     have p221 : 0 ≤ (x3_1 : Int) := of_decide_eq_true ab4
     have q221 : x3_1 < (l0_5.length : Int) := of_decide_eq_true ab4
     obtain ⟨ad221, A221_3, c221_3, A221_5, c221_5, e221, hx221_0, hx221_1, hx221_2, hx221_3, hx221_4, hx221_5, hl221_3, hi221_3, hl221_5, hi221_5⟩ := at_T31 HR0_5.out x3_1 p221 q221
     cases e221
     replace hx221_0 := pw_cell_below HB.out hx221_0
     replace hx221_1 := pw_cell_below HB.out hx221_1
     replace hx221_2 := pw_cell_below HB.out hx221_2
     replace hx221_3 := pw_cell_below HB.out hx221_3
     replace hx221_4 := pw_cell_below HB.out hx221_4
     replace hx221_5 := pw_cell_below HB.out hx221_5
     have HR221_3 := Aside0.mk hi221_3
     have HC221_3 := Aside0.mk hl221_3
     clear hi221_3 hl221_3
     have HR221_5 := Aside0.mk hi221_5
     have HC221_5 := Aside0.mk hl221_5
     clear hi221_5 hl221_5
     replace p221 := eq_true p221
     replace q221 := eq_true q221
     go_wp2_with (first | ((with_reducible refine gate_callee (f := 29) rfl ?_); refine goesL_ (some 17) rfl rfl Tryz.func29 (by kernel_rfl) rfl #[.agg #[.int .i64 ((rd_T31 l0_5 x3_1).f0), .int .i64 ((rd_T31 l0_5 x3_1).f1), .string ((rd_T31 l0_5 x3_1).f2), .slice A221_3 ((rd_T31 l0_5 x3_1).f3).length c221_3, .string ((rd_T31 l0_5 x3_1).f4), .slice A221_5 ((rd_T31 l0_5 x3_1).f5).length c221_5]] rfl ab5 ?_; (with_reducible refine (ih k1 (by have := HK1.out; omega) ((rd_T31 l0_5 x3_1).f0) ((rd_T31 l0_5 x3_1).f1) ((rd_T31 l0_5 x3_1).f2) _ _ ((rd_T31 l0_5 x3_1).f3) ((rd_T31 l0_5 x3_1).f4) _ _ ((rd_T31 l0_5 x3_1).f5) false _ ?side1 ?side2 ?side3 ?side4 A5.out).mono ?_); (case side1 => repeat (first | exact (Kd.C_below HR221_3.out HB.out) | (with_reducible refine Kd.C_alloc ?_ _) | (with_reducible refine Kd.C_drewN ?_ _) | (with_reducible refine Kd.C_drew ?_))); (case side2 => exact HC221_3.out); (case side3 => repeat (first | exact (Kd.C_below HR221_5.out HB.out) | (with_reducible refine Kd.C_alloc ?_ _) | (with_reducible refine Kd.C_drewN ?_ _) | (with_reducible refine Kd.C_drew ?_))); (case side4 => exact HC221_5.out); rintro e w25 ⟨rfl, hb⟩; refine ⟨_, rfl, ?_⟩; have n0_ := Aside0.mk (blk_below (g := gb220) (o := .cells #[.int .i64 a0_0, .int .i64 a0_1, .string a0_2, .slice A0_3 l0_3.length c0_3, .string a0_4, .slice (some ad221) l0_5.length c0_5] 31 (0, 0)) (ab3 BK220) hb); have n1_ := Aside0.mk (below_step (ab2 GE220) hb); clear BK220; clear HB; have BK220 := n0_; have HB := n1_; clear n0_ n1_; (try clear hb); (try clear hb2); (try clear hk); (try clear hi)))
     go_ret
     exact ⟨ab7, ab2 GE220⟩
   ·rw [if_neg c3] at H
    have c3b0 := decide_eq_false c3
    clear c3
    have HC26 := Aside0.mk H
    clear H
    obtain ⟨⟨hcz27_0, hcz27_1, hcz27_2, hcz27_3, hcz27_4, hcz27_5⟩, hfz27_0, hfz27_1, hfz27_2, hfz27_3, hfz27_4, hfz27_5⟩ := Op.cells6 BK220.out
    go_upto_region 6 with (fail)
    go_cut [4] (fun v4 wc => ∃ (kq : Nat) (x4_25 : Bool), v4 = .bool x4_25 ∧ Aside0 (spec_l15El.j1 kq x4_25 a0_0 a0_1 a0_2 l0_3 a0_4 l0_5 = some r) ∧ Aside0 (kq ≤ k1) ∧ Aside0 (wc.heap[gb220]? = some (.cells #[.int .i64 a0_0, .int .i64 a0_1, .string a0_2, (.slice A0_3 l0_3.length c0_3), .string a0_4, (.slice A0_5 l0_5.length c0_5)] 31 (0, 0))) ∧ Aside0 (Below w.heap.size w wc))
    case first =>
     have H := HC26.out
     clear HC26
     by_cases c28 : a0_1 = 0
     ·rw [if_pos c28] at H
      have c28b0 : (a0_1 == 0) = true := beq_iff_eq.mpr c28
      have c28b1 : (a0_1 != 0) = false := bne_eq_false_iff_eq.mpr c28
      clear c28
      (first | rw [c28b0] | (simp only [i64_w, i32_w]; rw [c28b0]) | skip)
      (try (generalize hgzc28 : (a0_1 == 0) = bqc28 at *; subst c28b0; have c28b0 := hgzc28; clear hgzc28))
      by_cases c29 : a0_2.toList = ([] : List UInt8)
      ·rw [if_pos c29] at H
       have c29b0 : (a0_2.toList == ([] : List UInt8)) = true := beq_iff_eq.mpr c29
       have c29b1 : (a0_2.toList != ([] : List UInt8)) = false := bne_eq_false_iff_eq.mpr c29
       clear c29
       by_cases c30 : (l0_3.length : Int) = 0
       ·rw [if_pos c30] at H
        have c30b0 : ((l0_3.length : Int) == 0) = true := beq_iff_eq.mpr c30
        have c30b1 : ((l0_3.length : Int) != 0) = false := bne_eq_false_iff_eq.mpr c30
        clear c30
        have H' := Aside0.mk H
        clear H
        obtain ⟨⟨hcz31_0, hcz31_1, hcz31_2, hcz31_3, hcz31_4, hcz31_5⟩, hfz31_0, hfz31_1, hfz31_2, hfz31_3, hfz31_4, hfz31_5⟩ := Op.cells6 BK220.out
        go_wp2
        go_meet
        case rel => exact ⟨_, (((l0_5.length : Int) == 0)), ab6, (by first | exact H' | (have h_ := H'.out; rw [c28b0] at h_; exact ⟨h_⟩)), ⟨by have := HK1.out; first | omega | exact Nat.le_refl _⟩, ⟨ab3 BK220⟩, ⟨ab2 GE220⟩⟩
       ·rw [if_neg c30] at H
        have c30b0 : ((l0_3.length : Int) == 0) = false := beq_eq_false_iff_ne.mpr c30
        have c30b1 : ((l0_3.length : Int) != 0) = true := bne_iff_ne.mpr c30
        have c30b2 : ¬ (l0_3 = []) := fun h_ => c30 (by rw [h_]; rfl)
        have H' := Aside0.mk H
        clear H
        obtain ⟨⟨hcz32_0, hcz32_1, hcz32_2, hcz32_3, hcz32_4, hcz32_5⟩, hfz32_0, hfz32_1, hfz32_2, hfz32_3, hfz32_4, hfz32_5⟩ := Op.cells6 BK220.out
        go_wp2
        go_meet
        case rel => exact ⟨_, (false), ab6, (by first | exact H' | (have h_ := H'.out; rw [c28b0] at h_; exact ⟨h_⟩)), ⟨by have := HK1.out; first | omega | exact Nat.le_refl _⟩, ⟨ab3 BK220⟩, ⟨ab2 GE220⟩⟩
      ·rw [if_neg c29] at H
       have c29b0 : (a0_2.toList == ([] : List UInt8)) = false := beq_eq_false_iff_ne.mpr c29
       have c29b1 : (a0_2.toList != ([] : List UInt8)) = true := bne_iff_ne.mpr c29
       have H' := Aside0.mk H
       clear H
       obtain ⟨⟨hcz33_0, hcz33_1, hcz33_2, hcz33_3, hcz33_4, hcz33_5⟩, hfz33_0, hfz33_1, hfz33_2, hfz33_3, hfz33_4, hfz33_5⟩ := Op.cells6 BK220.out
       go_wp2
       go_meet
       case rel => exact ⟨_, (false), ab6, (by first | exact H' | (have h_ := H'.out; rw [c28b0] at h_; exact ⟨h_⟩)), ⟨by have := HK1.out; first | omega | exact Nat.le_refl _⟩, ⟨ab3 BK220⟩, ⟨ab2 GE220⟩⟩
     ·rw [if_neg c28] at H
      have c28b0 : (a0_1 == 0) = false := beq_eq_false_iff_ne.mpr c28
      have c28b1 : (a0_1 != 0) = true := bne_iff_ne.mpr c28
      (first | rw [c28b0] | (simp only [i64_w, i32_w]; rw [c28b0]) | skip)
      (try (generalize hgzc28 : (a0_1 == 0) = bqc28 at *; subst c28b0; have c28b0 := hgzc28; clear hgzc28))
      have H' := Aside0.mk H
      clear H
      obtain ⟨⟨hcz34_0, hcz34_1, hcz34_2, hcz34_3, hcz34_4, hcz34_5⟩, hfz34_0, hfz34_1, hfz34_2, hfz34_3, hfz34_4, hfz34_5⟩ := Op.cells6 BK220.out
      go_wp2
      go_meet
      case rel => exact ⟨_, (false), ab6, (by first | exact H' | (have h_ := H'.out; rw [c28b0] at h_; exact ⟨h_⟩)), ⟨by have := HK1.out; first | omega | exact Nat.le_refl _⟩, ⟨ab3 BK220⟩, ⟨ab2 GE220⟩⟩
    case rest =>
     clear HC26
     obtain ⟨kq, x4_25, rfl, HA, HJ25, BK220, HB⟩ := hcut
     cases kq with
     | zero => exact absurd HA.out (by simp [spec_l15El.j1])
     | succ kj25 =>
      have H := HA.out
      clear HA
      simp only [spec_l15El.j1] at H
      by_cases c35 : a0_0 = 1
      ·rw [if_pos c35] at H
       have c35b0 : (a0_0 == 1) = true := beq_iff_eq.mpr c35
       have c35b1 : (a0_0 != 1) = false := bne_eq_false_iff_eq.mpr c35
       clear c35
       replace H := Option.bind_eq_some_iff.mp H
       obtain ⟨t225, A360, H⟩ := H
       try dsimp only at H
       have A36 := Aside0.mk A360
       clear A360
       by_cases c37 : t225 = true
       ·subst c37
        rw [if_pos rfl] at H
        replace H := Option.bind_eq_some_iff.mp H
        obtain ⟨t226, A380, H⟩ := H
        try dsimp only at H
        have A38 := Aside0.mk A380
        clear A380
        by_cases c39 : t226 = true
        ·subst c39
         rw [if_pos rfl] at H
         replace H := Option.bind_eq_some_iff.mp H
         obtain ⟨t227, A400, H⟩ := H
         try dsimp only at H
         have A40 := Aside0.mk A400
         clear A400
         by_cases c41 : t227 = true
         ·subst c41
          rw [if_pos rfl] at H
          obtain rfl := Option.some.inj H
          obtain ⟨⟨hcz42_0, hcz42_1, hcz42_2, hcz42_3, hcz42_4, hcz42_5⟩, hfz42_0, hfz42_1, hfz42_2, hfz42_3, hfz42_4, hfz42_5⟩ := Op.cells6 BK220.out
          go_wp2_with (first | ((with_reducible refine gate_callee (f := 42) rfl ?_); refine goesL_ (some 68) rfl rfl Tryz.func42 (by kernel_rfl) rfl #[.int .i64 a0_1, .int .i64 0, .int .i64 2] rfl ab5 ?_; (with_reducible refine (spec_l1In.calls a0_1 0 2 true _ A36.out).mono ?_); rintro e w' ⟨rfl, ⟨nd, rfl⟩⟩; refine ⟨_, rfl, ?_⟩) | (go_at_call 43; (with_reducible refine (spec_NameOk.calls kj25 a0_2 true _ A38.out).mono ?_); rintro e w43 ⟨rfl, hb⟩; have n0_ := Aside0.mk (blk_below (g := gb220) (o := .cells #[.int .i64 a0_0, .int .i64 a0_1, .string a0_2, .slice A0_3 l0_3.length c0_3, .string a0_4, .slice A0_5 l0_5.length c0_5] 31 (0, 0)) (ab3 BK220) hb); have n1_ := Aside0.mk (below_step (ab2 GE220) hb); clear BK220; clear HB; have BK220 := n0_; have HB := n1_; clear n0_ n1_; (try clear hb); (try clear hb2); (try clear hk); (try clear hi); obtain ⟨⟨hcz44_0, hcz44_1, hcz44_2, hcz44_3, hcz44_4, hcz44_5⟩, hfz44_0, hfz44_1, hfz44_2, hfz44_3, hfz44_4, hfz44_5⟩ := Op.cells6 BK220.out) | (go_at_call 44; (with_reducible refine (spec_l15Attrs.calls kj25 _ _ l0_3 true _ ?side1 ?side2 A40.out).mono ?_); (case side1 => repeat (first | exact (Kd.C_below HR0_3.out HB.out) | (with_reducible refine Kd.C_alloc ?_ _) | (with_reducible refine Kd.C_drewN ?_ _) | (with_reducible refine Kd.C_drew ?_))); (case side2 => exact HC0_3.out); rintro e w45 ⟨rfl, hb⟩; have n0_ := Aside0.mk (blk_below (g := gb220) (o := .cells #[.int .i64 a0_0, .int .i64 a0_1, .string a0_2, .slice A0_3 l0_3.length c0_3, .string a0_4, .slice A0_5 l0_5.length c0_5] 31 (0, 0)) (ab3 BK220) hb); have n1_ := Aside0.mk (below_step (ab2 GE220) hb); clear BK220; clear HB; have BK220 := n0_; have HB := n1_; clear n0_ n1_; (try clear hb); (try clear hb2); (try clear hk); (try clear hi); obtain ⟨⟨hcz46_0, hcz46_1, hcz46_2, hcz46_3, hcz46_4, hcz46_5⟩, hfz46_0, hfz46_1, hfz46_2, hfz46_3, hfz46_4, hfz46_5⟩ := Op.cells6 BK220.out))
          go_ret
          exact ⟨ab7, ab2 GE220⟩
         ·replace c41 := Bool.eq_false_iff.mpr c41
          subst c41
          rw [if_neg (show ¬ (false = true) by decide)] at H
          obtain rfl := Option.some.inj H
          obtain ⟨⟨hcz47_0, hcz47_1, hcz47_2, hcz47_3, hcz47_4, hcz47_5⟩, hfz47_0, hfz47_1, hfz47_2, hfz47_3, hfz47_4, hfz47_5⟩ := Op.cells6 BK220.out
          go_wp2_with (first | ((with_reducible refine gate_callee (f := 42) rfl ?_); refine goesL_ (some 68) rfl rfl Tryz.func42 (by kernel_rfl) rfl #[.int .i64 a0_1, .int .i64 0, .int .i64 2] rfl ab5 ?_; (with_reducible refine (spec_l1In.calls a0_1 0 2 true _ A36.out).mono ?_); rintro e w' ⟨rfl, ⟨nd, rfl⟩⟩; refine ⟨_, rfl, ?_⟩) | (go_at_call 43; (with_reducible refine (spec_NameOk.calls kj25 a0_2 true _ A38.out).mono ?_); rintro e w48 ⟨rfl, hb⟩; have n0_ := Aside0.mk (blk_below (g := gb220) (o := .cells #[.int .i64 a0_0, .int .i64 a0_1, .string a0_2, .slice A0_3 l0_3.length c0_3, .string a0_4, .slice A0_5 l0_5.length c0_5] 31 (0, 0)) (ab3 BK220) hb); have n1_ := Aside0.mk (below_step (ab2 GE220) hb); clear BK220; clear HB; have BK220 := n0_; have HB := n1_; clear n0_ n1_; (try clear hb); (try clear hb2); (try clear hk); (try clear hi); obtain ⟨⟨hcz49_0, hcz49_1, hcz49_2, hcz49_3, hcz49_4, hcz49_5⟩, hfz49_0, hfz49_1, hfz49_2, hfz49_3, hfz49_4, hfz49_5⟩ := Op.cells6 BK220.out) | (go_at_call 44; (with_reducible refine (spec_l15Attrs.calls kj25 _ _ l0_3 false _ ?side1 ?side2 A40.out).mono ?_); (case side1 => repeat (first | exact (Kd.C_below HR0_3.out HB.out) | (with_reducible refine Kd.C_alloc ?_ _) | (with_reducible refine Kd.C_drewN ?_ _) | (with_reducible refine Kd.C_drew ?_))); (case side2 => exact HC0_3.out); rintro e w50 ⟨rfl, hb⟩; have n0_ := Aside0.mk (blk_below (g := gb220) (o := .cells #[.int .i64 a0_0, .int .i64 a0_1, .string a0_2, .slice A0_3 l0_3.length c0_3, .string a0_4, .slice A0_5 l0_5.length c0_5] 31 (0, 0)) (ab3 BK220) hb); have n1_ := Aside0.mk (below_step (ab2 GE220) hb); clear BK220; clear HB; have BK220 := n0_; have HB := n1_; clear n0_ n1_; (try clear hb); (try clear hb2); (try clear hk); (try clear hi)))
          go_ret
          exact ⟨ab7, ab2 GE220⟩
        ·replace c39 := Bool.eq_false_iff.mpr c39
         subst c39
         rw [if_neg (show ¬ (false = true) by decide)] at H
         obtain rfl := Option.some.inj H
         obtain ⟨⟨hcz51_0, hcz51_1, hcz51_2, hcz51_3, hcz51_4, hcz51_5⟩, hfz51_0, hfz51_1, hfz51_2, hfz51_3, hfz51_4, hfz51_5⟩ := Op.cells6 BK220.out
         go_wp2_with (first | ((with_reducible refine gate_callee (f := 42) rfl ?_); refine goesL_ (some 68) rfl rfl Tryz.func42 (by kernel_rfl) rfl #[.int .i64 a0_1, .int .i64 0, .int .i64 2] rfl ab5 ?_; (with_reducible refine (spec_l1In.calls a0_1 0 2 true _ A36.out).mono ?_); rintro e w' ⟨rfl, ⟨nd, rfl⟩⟩; refine ⟨_, rfl, ?_⟩) | (go_at_call 43; (with_reducible refine (spec_NameOk.calls kj25 a0_2 false _ A38.out).mono ?_); rintro e w52 ⟨rfl, hb⟩; have n0_ := Aside0.mk (blk_below (g := gb220) (o := .cells #[.int .i64 a0_0, .int .i64 a0_1, .string a0_2, .slice A0_3 l0_3.length c0_3, .string a0_4, .slice A0_5 l0_5.length c0_5] 31 (0, 0)) (ab3 BK220) hb); have n1_ := Aside0.mk (below_step (ab2 GE220) hb); clear BK220; clear HB; have BK220 := n0_; have HB := n1_; clear n0_ n1_; (try clear hb); (try clear hb2); (try clear hk); (try clear hi)))
         go_ret
         exact ⟨ab7, ab2 GE220⟩
       ·replace c37 := Bool.eq_false_iff.mpr c37
        subst c37
        rw [if_neg (show ¬ (false = true) by decide)] at H
        obtain rfl := Option.some.inj H
        obtain ⟨⟨hcz53_0, hcz53_1, hcz53_2, hcz53_3, hcz53_4, hcz53_5⟩, hfz53_0, hfz53_1, hfz53_2, hfz53_3, hfz53_4, hfz53_5⟩ := Op.cells6 BK220.out
        go_wp2_with (first | ((with_reducible refine gate_callee (f := 42) rfl ?_); refine goesL_ (some 68) rfl rfl Tryz.func42 (by kernel_rfl) rfl #[.int .i64 a0_1, .int .i64 0, .int .i64 2] rfl ab5 ?_; (with_reducible refine (spec_l1In.calls a0_1 0 2 false _ A36.out).mono ?_); rintro e w' ⟨rfl, ⟨nd, rfl⟩⟩; refine ⟨_, rfl, ?_⟩))
        go_ret
        exact ⟨ab7, ab2 GE220⟩
      ·rw [if_neg c35] at H
       have c35b0 : (a0_0 == 1) = false := beq_eq_false_iff_ne.mpr c35
       have c35b1 : (a0_0 != 1) = true := bne_iff_ne.mpr c35
       by_cases c54 : a0_0 = 2
       ·rw [if_pos c54] at H
        have c54b0 : (a0_0 == 2) = true := beq_iff_eq.mpr c54
        have c54b1 : (a0_0 != 2) = false := bne_eq_false_iff_eq.mpr c54
        clear c54
        by_cases c55 : x4_25 = true
        ·subst c55
         rw [if_pos rfl] at H
         by_cases c56 : a0_4.toList = ([] : List UInt8)
         ·rw [if_pos c56] at H
          have c56b0 : (a0_4.toList == ([] : List UInt8)) = true := beq_iff_eq.mpr c56
          have c56b1 : (a0_4.toList != ([] : List UInt8)) = false := bne_eq_false_iff_eq.mpr c56
          clear c56
          obtain rfl := Option.some.inj H
          obtain ⟨⟨hcz57_0, hcz57_1, hcz57_2, hcz57_3, hcz57_4, hcz57_5⟩, hfz57_0, hfz57_1, hfz57_2, hfz57_3, hfz57_4, hfz57_5⟩ := Op.cells6 BK220.out
          go_wp2
          go_ret
          exact ⟨ab7, ab2 GE220⟩
         ·rw [if_neg c56] at H
          have c56b0 : (a0_4.toList == ([] : List UInt8)) = false := beq_eq_false_iff_ne.mpr c56
          have c56b1 : (a0_4.toList != ([] : List UInt8)) = true := bne_iff_ne.mpr c56
          replace H := Option.bind_eq_some_iff.mp H
          obtain ⟨t228, A580, H⟩ := H
          try dsimp only at H
          have A58 := Aside0.mk A580
          clear A580
          obtain rfl := Option.some.inj H
          obtain ⟨⟨hcz59_0, hcz59_1, hcz59_2, hcz59_3, hcz59_4, hcz59_5⟩, hfz59_0, hfz59_1, hfz59_2, hfz59_3, hfz59_4, hfz59_5⟩ := Op.cells6 BK220.out
          go_wp2_with (first | (go_at_call 45; (with_reducible refine (spec_TextOk.calls kj25 a0_4 t228 _ A58.out).mono ?_); rintro e w60 ⟨rfl, hb⟩; have n0_ := Aside0.mk (blk_below (g := gb220) (o := .cells #[.int .i64 a0_0, .int .i64 a0_1, .string a0_2, .slice A0_3 l0_3.length c0_3, .string a0_4, .slice A0_5 l0_5.length c0_5] 31 (0, 0)) (ab3 BK220) hb); have n1_ := Aside0.mk (below_step (ab2 GE220) hb); clear BK220; clear HB; have BK220 := n0_; have HB := n1_; clear n0_ n1_; (try clear hb); (try clear hb2); (try clear hk); (try clear hi)))
          go_ret
          exact ⟨ab7, ab2 GE220⟩
        ·replace c55 := Bool.eq_false_iff.mpr c55
         subst c55
         rw [if_neg (show ¬ (false = true) by decide)] at H
         obtain rfl := Option.some.inj H
         obtain ⟨⟨hcz61_0, hcz61_1, hcz61_2, hcz61_3, hcz61_4, hcz61_5⟩, hfz61_0, hfz61_1, hfz61_2, hfz61_3, hfz61_4, hfz61_5⟩ := Op.cells6 BK220.out
         go_wp2
         go_ret
         exact ⟨ab7, ab2 GE220⟩
       ·rw [if_neg c54] at H
        have c54b0 : (a0_0 == 2) = false := beq_eq_false_iff_ne.mpr c54
        have c54b1 : (a0_0 != 2) = true := bne_iff_ne.mpr c54
        by_cases c62 : a0_0 = 3
        ·rw [if_pos c62] at H
         have c62b0 : (a0_0 == 3) = true := beq_iff_eq.mpr c62
         have c62b1 : (a0_0 != 3) = false := bne_eq_false_iff_eq.mpr c62
         clear c62
         by_cases c63 : x4_25 = true
         ·subst c63
          rw [if_pos rfl] at H
          replace H := Option.bind_eq_some_iff.mp H
          obtain ⟨t229, A640, H⟩ := H
          try dsimp only at H
          have A64 := Aside0.mk A640
          clear A640
          obtain rfl := Option.some.inj H
          obtain ⟨⟨hcz65_0, hcz65_1, hcz65_2, hcz65_3, hcz65_4, hcz65_5⟩, hfz65_0, hfz65_1, hfz65_2, hfz65_3, hfz65_4, hfz65_5⟩ := Op.cells6 BK220.out
          go_wp2_with (first | (go_at_call 46; (with_reducible refine (spec_NoteOk.calls kj25 a0_4 t229 _ A64.out).mono ?_); rintro e w66 ⟨rfl, hb⟩; have n0_ := Aside0.mk (blk_below (g := gb220) (o := .cells #[.int .i64 a0_0, .int .i64 a0_1, .string a0_2, .slice A0_3 l0_3.length c0_3, .string a0_4, .slice A0_5 l0_5.length c0_5] 31 (0, 0)) (ab3 BK220) hb); have n1_ := Aside0.mk (below_step (ab2 GE220) hb); clear BK220; clear HB; have BK220 := n0_; have HB := n1_; clear n0_ n1_; (try clear hb); (try clear hb2); (try clear hk); (try clear hi)))
          go_ret
          exact ⟨ab7, ab2 GE220⟩
         ·replace c63 := Bool.eq_false_iff.mpr c63
          subst c63
          rw [if_neg (show ¬ (false = true) by decide)] at H
          obtain rfl := Option.some.inj H
          obtain ⟨⟨hcz67_0, hcz67_1, hcz67_2, hcz67_3, hcz67_4, hcz67_5⟩, hfz67_0, hfz67_1, hfz67_2, hfz67_3, hfz67_4, hfz67_5⟩ := Op.cells6 BK220.out
          go_wp2
          go_ret
          exact ⟨ab7, ab2 GE220⟩
        ·rw [if_neg c62] at H
         have c62b0 : (a0_0 == 3) = false := beq_eq_false_iff_ne.mpr c62
         have c62b1 : (a0_0 != 3) = true := bne_iff_ne.mpr c62
         obtain rfl := Option.some.inj H
         obtain ⟨⟨hcz68_0, hcz68_1, hcz68_2, hcz68_3, hcz68_4, hcz68_5⟩, hfz68_0, hfz68_1, hfz68_2, hfz68_3, hfz68_4, hfz68_5⟩ := Op.cells6 BK220.out
         go_wp2
         go_ret
         exact ⟨ab7, ab2 GE220⟩

end Go.Proofs.YthpdpnpojgegiaaGreatDoor.P
