-- WRITTEN BY hprint.py, this session's own program, over the kit's printer: not typed by hand; Lean checks it
import Derived.Test.YtgljgbkbjlondaaPl0
import Derived.Test.YtgljgbkbjlondaaPl7
import Derived.Test.YtgljgbkbjlondaaPl10
import Derived.Test.YtgljgbkbjlondaaPl12
import Derived.Test.YtgljgbkbjlondaaPl13
namespace Go.Proofs.Ytgljgbkbjlondaa.P
open Go.RowKit Go.Proofs.YtgljgbkbjlondaaW.PrintWords Go.Proofs.YtgljgbkbjlondaaW.PrintLast Go.Proofs.YtgljgbkbjlondaaW.PrintMore
attribute [local go_sem] max2_int min2_int max_two min_two max_three min_three max_four min_four   -- for this text's walks alone
set_option linter.unusedVariables false
set_option linter.unusedSimpArgs false

/-! ### impl_TreeOk: function 52 -/
mutual
def impl_TreeOk.j0 : Nat → List (S50) → Bool → Option (Bool)
 | 0, _, _ => none
 | k + 1, x0, x15 => if x15 = true then (some false) else (if 1 ≤ (x0.length : Int) then ((some (x0.drop 1 : List (S50))).bind fun y315 => (impl_TreeOk.l0 k x0 y315 (y315.length : Int) 0)) else (none))
def impl_TreeOk.l0 : Nat → List (S50) → List (S50) → Int → Int → Option (Bool)
 | 0, _, _, _, _ => none
 | k + 1, x0, x17, x18, x19 => if x19 < x18 then (if 0 ≤ x19 then (if x19 < (x17.length : Int) then ((impl_itemOk.f k ((rd_T50 x17 x19).f0) ((rd_T50 x17 x19).f1) ((rd_T50 x17 x19).f2) ((rd_T50 x17 x19).f3) ((rd_T50 x17 x19).f4) ((rd_T50 x17 x19).f5) ((rd_T50 x17 x19).f6)).bind fun t325 => (if t325 = true then ((impl_inRange.f ((rd_T50 x17 x19).f5) 0 (wrap64 ((x0.length : Int) - 1))).bind fun t326 => (if t326 = true then (if 0 ≤ ((rd_T50 x17 x19).f5) then (if ((rd_T50 x17 x19).f5) < (x0.length : Int) then ((impl_hasKids.f ((rd_T50 x0 ((rd_T50 x17 x19).f5)).f0)).bind fun t328 => (if t328 = true then (impl_TreeOk.l0 k x0 x17 x18 (wrap64 (x19 + 1))) else (some false))) else (none)) else (none)) else (some false))) else (some false))) else (none)) else (none)) else ((impl_kidsOk.f k x0).bind fun t319 => (if t319 = true then ((impl_order.f k x0).bind fun t320 => (some ((t320.length : Int) == (x0.length : Int)))) else (some false)))
end
def impl_TreeOk.f (k : Nat) (l0 : List (S50)) : Option (Bool) := (impl_inRange.f (l0.length : Int) 1 3000).bind fun t312 => (if t312 = true then (if 0 < (l0.length : Int) then ((impl_pageOk.f ((rd_T50 l0 0).f0) ((rd_T50 l0 0).f1) ((rd_T50 l0 0).f2) ((rd_T50 l0 0).f3) ((rd_T50 l0 0).f4) ((rd_T50 l0 0).f5) ((rd_T50 l0 0).f6)).bind fun t314 => (impl_TreeOk.j0 k l0 (!t314))) else (none)) else (impl_TreeOk.j0 k l0 true))
theorem impl_TreeOk.mono_l : ∀ k, (∀ y0 y1, LeO (impl_TreeOk.j0 k y0 y1) (impl_TreeOk.j0 (k + 1) y0 y1)) ∧ (∀ y0 y1 y2 y3, LeO (impl_TreeOk.l0 k y0 y1 y2 y3) (impl_TreeOk.l0 (k + 1) y0 y1 y2 y3))
 | 0 => ⟨fun _ _ r h => by simp [impl_TreeOk.j0] at h, fun _ _ _ _ r h => by simp [impl_TreeOk.l0] at h⟩
 | k + 1 => by
  obtain ⟨ih0, ih1⟩ := impl_TreeOk.mono_l k
  refine ⟨?_, ?_⟩
  ·intro y0 y1
   unfold impl_TreeOk.j0
   repeat' first
   | (with_reducible exact ih0 _ _)
   | (with_reducible exact ih1 _ _ _ _)
   | (with_reducible exact impl_itemOk.mono _ _ _ _ _ _ _ _)
   | (with_reducible exact impl_kidsOk.mono _ _)
   | (with_reducible exact impl_order.mono _ _)
   | (with_reducible exact LeO.refl _)
   | (with_reducible exact LeO.none _)
   | (with_reducible refine LeO.ite ?_ ?_)
   | (with_reducible refine LeO.bind ?_ (fun _ => ?_))
  ·intro y0 y1 y2 y3
   unfold impl_TreeOk.l0
   repeat' first
   | (with_reducible exact ih0 _ _)
   | (with_reducible exact ih1 _ _ _ _)
   | (with_reducible exact impl_itemOk.mono _ _ _ _ _ _ _ _)
   | (with_reducible exact impl_kidsOk.mono _ _)
   | (with_reducible exact impl_order.mono _ _)
   | (with_reducible exact LeO.refl _)
   | (with_reducible exact LeO.none _)
   | (with_reducible refine LeO.ite ?_ ?_)
   | (with_reducible refine LeO.bind ?_ (fun _ => ?_))
theorem impl_TreeOk.mono : ∀ a0 k, LeO (impl_TreeOk.f k a0) (impl_TreeOk.f (k + 1) a0) := by
 intro a0 k
 obtain ⟨ih0, ih1⟩ := impl_TreeOk.mono_l k
 unfold impl_TreeOk.f
 repeat' first
   | (with_reducible exact ih0 _ _)
   | (with_reducible exact ih1 _ _ _ _)
   | (with_reducible exact impl_itemOk.mono _ _ _ _ _ _ _ _)
   | (with_reducible exact impl_kidsOk.mono _ _)
   | (with_reducible exact impl_order.mono _ _)
   | (with_reducible exact LeO.refl _)
   | (with_reducible exact LeO.none _)
   | (with_reducible refine LeO.ite ?_ ?_)
   | (with_reducible refine LeO.bind ?_ (fun _ => ?_))
set_option maxHeartbeats 8000000 in
set_option maxRecDepth 100000 in
theorem impl_TreeOk.calls (k : Nat) (A0 : Option Addr) (c0 : Nat) (l0 : List (S50)) (r : Bool) (w : World) (hr0 : Kd.C k50 w A0 l0.length l0) (hc0 : l0.length ≤ c0) (h : impl_TreeOk.f k l0 = some r) :
  Calls Try.prog 52 #[.slice A0 l0.length c0] w fun e w' => e = .returned (.bool r) ∧ Below w.heap.size w w' := by
 have hu50 := Try.underlying50
 have HR0 := Aside0.mk hr0
 have HC0 := Aside0.mk hc0
 clear hr0 hc0
 have HB := Aside0.mk (Below.refl w.heap.size w)
 have H : ((impl_inRange.f (l0.length : Int) 1 3000).bind fun t312 => (if t312 = true then (if 0 < (l0.length : Int) then ((impl_pageOk.f ((rd_T50 l0 0).f0) ((rd_T50 l0 0).f1) ((rd_T50 l0 0).f2) ((rd_T50 l0 0).f3) ((rd_T50 l0 0).f4) ((rd_T50 l0 0).f5) ((rd_T50 l0 0).f6)).bind fun t314 => (impl_TreeOk.j0 k l0 (!t314))) else (none)) else (impl_TreeOk.j0 k l0 true))) = some r := h
 clear h
 have HC2 := Aside0.mk H
 clear H
 go_enter Try.func52, Try.ntmps52
 go_upto_region 1 with (fail)
 go_cut [15] (fun v15 wc => ∃ (kq : Nat) (x15_1 : Bool), v15 = .bool x15_1 ∧ Aside0 (impl_TreeOk.j0 kq l0 x15_1 = some r) ∧ Aside0 (kq ≤ k) ∧ Aside0 (Below w.heap.size w wc))
 case first =>
  have H := HC2.out
  clear HC2
  replace H := Option.bind_eq_some_iff.mp H
  obtain ⟨t312, A30, H⟩ := H
  try dsimp only at H
  have A3 := Aside0.mk A30
  clear A30
  by_cases c4 : t312 = true
  ·subst c4
   rw [if_pos rfl] at H
   by_cases c5 : 0 < (l0.length : Int)
   case neg => rw [if_neg c5] at H; exact absurd H (by simp)
   rw [if_pos c5] at H
   have c5b0 := decide_eq_true c5
   have c5b1 : decide (0 < l0.length) = true := decide_eq_true (by omega)
   clear c5
   (first | rw [c5b0] | (simp only [i64_w, i32_w]; rw [c5b0]) | skip)
   (try (generalize hgzc5 : decide (0 < (l0.length : Int)) = bqc5 at *; subst c5b0; have c5b0 := hgzc5; clear hgzc5))
   replace H := Option.bind_eq_some_iff.mp H
   obtain ⟨t314, A60, H⟩ := H
   replace H : (impl_TreeOk.j0 k l0 (!t314)) = some r := by first | exact H | (rw [c5b0]; exact H)
   have A6 := Aside0.mk A60
   clear A60
   have H' := Aside0.mk H
   clear H
   go_wp2_with (first | ((with_reducible refine gate_callee (f := 77) rfl ?_); refine goesL_ (some 7) rfl rfl Try.func77 (by kernel_rfl) rfl #[.int .i64 (l0.length : Int), .int .i64 1, .int .i64 3000] rfl ab5 ?_; (with_reducible refine (impl_inRange.calls (l0.length : Int) 1 3000 true _ A3.out).mono ?_); rintro e w' ⟨rfl, ⟨nd, rfl⟩⟩; refine ⟨_, rfl, ?_⟩; have p313 : 0 ≤ (0 : Int) := (by omega); have q313 : 0 < (l0.length : Int) := of_decide_eq_true ab4; obtain ⟨ad313, A313_3, c313_3, A313_6, c313_6, e313, hx313_0, hx313_1, hx313_2, hx313_3, hx313_4, hx313_5, hx313_6, hl313_3, hi313_3, hl313_6, hi313_6⟩ := at_T50 HR0.out 0 p313 q313; cases e313; have qi313 : (0 < l0.length) = True := eq_true (by omega); (try rw [show ((0 : Int)).toNat = 0 from rfl] at hx313_0); (try rw [show 0 * 7 = 0 from rfl] at hx313_0); (try rw [Addr.add_zero'] at hx313_0); (try rw [show ((0 : Int)).toNat = 0 from rfl] at hx313_1); (try rw [show 0 * 7 = 0 from rfl] at hx313_1); (try rw [Addr.add_zero'] at hx313_1); (try rw [show ((0 : Int)).toNat = 0 from rfl] at hx313_2); (try rw [show 0 * 7 = 0 from rfl] at hx313_2); (try rw [Addr.add_zero'] at hx313_2); (try rw [show ((0 : Int)).toNat = 0 from rfl] at hx313_3); (try rw [show 0 * 7 = 0 from rfl] at hx313_3); (try rw [Addr.add_zero'] at hx313_3); (try rw [show ((0 : Int)).toNat = 0 from rfl] at hx313_4); (try rw [show 0 * 7 = 0 from rfl] at hx313_4); (try rw [Addr.add_zero'] at hx313_4); (try rw [show ((0 : Int)).toNat = 0 from rfl] at hx313_5); (try rw [show 0 * 7 = 0 from rfl] at hx313_5); (try rw [Addr.add_zero'] at hx313_5); (try rw [show ((0 : Int)).toNat = 0 from rfl] at hx313_6); (try rw [show 0 * 7 = 0 from rfl] at hx313_6); (try rw [Addr.add_zero'] at hx313_6); replace hx313_0 := pw_cell_below HB.out hx313_0; replace hx313_1 := pw_cell_below HB.out hx313_1; replace hx313_2 := pw_cell_below HB.out hx313_2; replace hx313_3 := pw_cell_below HB.out hx313_3; replace hx313_4 := pw_cell_below HB.out hx313_4; replace hx313_5 := pw_cell_below HB.out hx313_5; replace hx313_6 := pw_cell_below HB.out hx313_6; have HR313_3 := Aside0.mk hi313_3; have HC313_3 := Aside0.mk hl313_3; clear hi313_3 hl313_3; have HR313_6 := Aside0.mk hi313_6; have HC313_6 := Aside0.mk hl313_6; clear hi313_6 hl313_6; replace p313 := eq_true p313; replace q313 := eq_true q313) | (go_at_call 79; (with_reducible refine (impl_pageOk.calls ((rd_T50 l0 0).f0) ((rd_T50 l0 0).f1) ((rd_T50 l0 0).f2) _ _ ((rd_T50 l0 0).f3) ((rd_T50 l0 0).f4) ((rd_T50 l0 0).f5) _ _ ((rd_T50 l0 0).f6) t314 _ ?side1 ?side2 ?side3 ?side4 A6.out).mono ?_); (case side1 => repeat (first | exact (Kd.C_below HR313_3.out ab1) | (with_reducible refine Kd.C_alloc ?_ _) | (with_reducible refine Kd.C_drewN ?_ _) | (with_reducible refine Kd.C_drew ?_))); (case side2 => exact HC313_3.out); (case side3 => repeat (first | exact (Kd.C_below HR313_6.out ab1) | (with_reducible refine Kd.C_alloc ?_ _) | (with_reducible refine Kd.C_drewN ?_ _) | (with_reducible refine Kd.C_drew ?_))); (case side4 => exact HC313_6.out); rintro e w7 ⟨rfl, hb⟩; have n0_ := Aside0.mk (below_step ab1 hb); clear HB; have HB := n0_; clear n0_; (try clear hb); (try clear hb2); (try clear hk); (try clear hi)))
   go_meet
   case rel => exact ⟨_, (!t314), ab6, (by first | exact H' | (have h_ := H'.out; rw [c5b0] at h_; exact ⟨h_⟩)), ⟨by first | omega | exact Nat.le_refl _⟩, ⟨ab1⟩⟩
  ·replace c4 := Bool.eq_false_iff.mpr c4
   subst c4
   rw [if_neg (show ¬ (false = true) by decide)] at H
   have H' := Aside0.mk H
   clear H
   go_wp2_with (first | ((with_reducible refine gate_callee (f := 77) rfl ?_); refine goesL_ (some 7) rfl rfl Try.func77 (by kernel_rfl) rfl #[.int .i64 (l0.length : Int), .int .i64 1, .int .i64 3000] rfl ab5 ?_; (with_reducible refine (impl_inRange.calls (l0.length : Int) 1 3000 false _ A3.out).mono ?_); rintro e w' ⟨rfl, ⟨nd, rfl⟩⟩; refine ⟨_, rfl, ?_⟩))
   go_meet
   case rel => exact ⟨_, (true), ab6, H', ⟨by first | omega | exact Nat.le_refl _⟩, ⟨ab1⟩⟩
 case rest =>
  clear HC2
  obtain ⟨kq, x15_1, rfl, HA, HJ1, HB⟩ := hcut
  cases kq with
  | zero => exact absurd HA.out (by simp [impl_TreeOk.j0])
  | succ kj1 =>
   have H := HA.out
   clear HA
   simp only [impl_TreeOk.j0] at H
   by_cases c8 : x15_1 = true
   ·subst c8
    rw [if_pos rfl] at H
    obtain rfl := Option.some.inj H
    go_wp2
    go_ret
    exact ⟨ab7, ab1⟩
   ·replace c8 := Bool.eq_false_iff.mpr c8
    subst c8
    rw [if_neg (show ¬ (false = true) by decide)] at H
    by_cases c9 : 1 ≤ (l0.length : Int)
    case neg => rw [if_neg c9] at H; exact absurd H (by simp)
    rw [if_pos c9] at H
    have c9b0 := eq_true c9
    have c9b1 := decide_eq_true c9
    clear c9
    obtain ⟨y315, hy315⟩ : ∃ y_ : List (S50), y_ = (l0.drop 1) := ⟨_, rfl⟩
    replace H : (impl_TreeOk.l0 kj1 l0 y315 (y315.length : Int) 0) = some r := by first | (rw [hy315]; with_reducible exact H) | (have H2_ := (Option.bind_some _ _).symm.trans H; rw [hy315]; with_reducible exact H2_) | (have H2_ := (Option.bind_some _ _).symm.trans H; with_reducible exact H2_) | with_reducible exact H | (rw [hy315]; exact H) | exact H
    have Ny315 := Aside0.mk hy315
    clear hy315
    have H' := Aside0.mk H
    clear H
    have q10 : (1 : Int) ≤ ((l0.length : Int) : Int) := of_decide_eq_true ab4
    obtain ⟨i010, hi010, _, hsz10, _⟩ := info_parts info50
    have hroom10 : l0.length ≤ c0 := HC0.out
    have hC10 : Kd.C k50 _ A0 l0.length l0 := HR0.out
    have hcut10 := cut_from (P := Try.prog) 26 50 .i64 Try.underlying26 hi010 7 hsz10 A0 l0.length c0 1 (by omega) q10
    have hr10 := Kd.C_drop (m := (1 : Int).toNat) (c := c0) hC10 (by omega) hroom10
    obtain ⟨A10, hA10⟩ : ∃ A1, A1 = (if c0 = (1 : Int).toNat then A0 else (A0 : Option Addr).map (·.add ((1 : Int).toNat * 7))) := ⟨_, rfl⟩
    obtain ⟨c10, hc10⟩ : ∃ c1, c1 = c0 - (1 : Int).toNat := ⟨_, rfl⟩
    have hy10 : y315.length = l0.length - (1 : Int).toNat := (by rw [Ny315.out, List.length_drop] <;> omega)
    rw [show (l0).drop (1 : Int).toNat = y315 from Ny315.out.symm] at hr10
    replace hr10 : Kd.C k50 _ A10 y315.length y315 := (by rw [hA10]; exact hr10)
    rw [← hy10, ← hA10, ← hc10] at hcut10
    have HR318 := Aside0.mk hr10
    have HC318 := Aside0.mk (show y315.length ≤ c10 from by rw [hy10, hc10]; exact Nat.sub_le_sub_right hroom10 _)
    clear hr10 hC10 hroom10 hi010 hsz10 hc10
    have KY10 := Aside0.mk hy10
    have KA10 := Aside0.mk hA10
    clear hy10 hA10
    replace q10 := eq_true q10
    go_wp2
    go_loopg [19] kj1 (fun kq v19 w' => ∃ (x19_2 : Int), v19 = .int .i64 x19_2 ∧ Aside0 (impl_TreeOk.l0 kq l0 y315 (y315.length : Int) x19_2 = some r) ∧ Aside0 (kq ≤ kj1) ∧ Aside0 (Below w.heap.size w w'))
    case atStart => exact ⟨(0), ab6, H', ⟨Nat.le_refl _⟩, ⟨ab1⟩⟩
    case round =>
     clear H'
     obtain ⟨x19_2, rfl, HA, HK2, HB⟩ := hrel
     cases gk with
     | zero => exact absurd HA.out (by simp [impl_TreeOk.l0])
     | succ k2 =>
      have H := HA.out
      clear HA
      simp only [impl_TreeOk.l0] at H
      by_cases c11 : x19_2 < (y315.length : Int)
      ·rw [if_pos c11] at H
       have c11b0 := decide_eq_true c11
       clear c11
       by_cases c12 : 0 ≤ x19_2
       case neg => rw [if_neg c12] at H; exact absurd H (by simp)
       rw [if_pos c12] at H
       have c12b0 := decide_eq_true c12
       clear c12
       by_cases c13 : x19_2 < (y315.length : Int)
       case neg => rw [if_neg c13] at H; exact absurd H (by simp)
       rw [if_pos c13] at H
       have c13b0 := decide_eq_true c13
       clear c13
       replace H := Option.bind_eq_some_iff.mp H
       obtain ⟨t325, A140, H⟩ := H
       try dsimp only at H
       have A14 := Aside0.mk A140
       clear A140
       by_cases c15 : t325 = true
       ·subst c15
        rw [if_pos rfl] at H
        replace H := Option.bind_eq_some_iff.mp H
        obtain ⟨t326, A160, H⟩ := H
        try dsimp only at H
        have A16 := Aside0.mk A160
        clear A160
        by_cases c17 : t326 = true
        ·subst c17
         rw [if_pos rfl] at H
         by_cases c18 : 0 ≤ ((rd_T50 y315 x19_2).f5)
         case neg => rw [if_neg c18] at H; exact absurd H (by simp)
         rw [if_pos c18] at H
         have c18b0 := decide_eq_true c18
         clear c18
         by_cases c19 : ((rd_T50 y315 x19_2).f5) < (l0.length : Int)
         case neg => rw [if_neg c19] at H; exact absurd H (by simp)
         rw [if_pos c19] at H
         have c19b0 := decide_eq_true c19
         clear c19
         replace H := Option.bind_eq_some_iff.mp H
         obtain ⟨t328, A200, H⟩ := H
         try dsimp only at H
         have A20 := Aside0.mk A200
         clear A200
         by_cases c21 : t328 = true
         ·subst c21
          rw [if_pos rfl] at H
          have H' := Aside0.mk H
          clear H
          have p323 : 0 ≤ (x19_2 : Int) := of_decide_eq_true ab4
          have q323 : x19_2 < (y315.length : Int) := of_decide_eq_true ab4
          obtain ⟨ad323, A323_3, c323_3, A323_6, c323_6, e323, hx323_0, hx323_1, hx323_2, hx323_3, hx323_4, hx323_5, hx323_6, hl323_3, hi323_3, hl323_6, hi323_6⟩ := at_T50 HR318.out x19_2 p323 q323
          cases e323
          replace hx323_0 := pw_cell_below HB.out hx323_0
          replace hx323_1 := pw_cell_below HB.out hx323_1
          replace hx323_2 := pw_cell_below HB.out hx323_2
          replace hx323_3 := pw_cell_below HB.out hx323_3
          replace hx323_4 := pw_cell_below HB.out hx323_4
          replace hx323_5 := pw_cell_below HB.out hx323_5
          replace hx323_6 := pw_cell_below HB.out hx323_6
          have HR323_3 := Aside0.mk hi323_3
          have HC323_3 := Aside0.mk hl323_3
          clear hi323_3 hl323_3
          have HR323_6 := Aside0.mk hi323_6
          have HC323_6 := Aside0.mk hl323_6
          clear hi323_6 hl323_6
          replace p323 := eq_true p323
          replace q323 := eq_true q323
          go_wp2_with (first | ((with_reducible refine gate_dst (N := 4) rfl ?_); (try (refine gate_guard (by rfl) ?_; dsimp only)); refine box_event ?hg (N := 4) ?hd (cs := #[.int .i64 0, .int .i64 0, .string (⟨#[]⟩ : ByteArray), .slice none 0 0, .string (⟨#[]⟩ : ByteArray), .int .i64 0, .slice none 0 0]) (t := 50) ?hr ?_; (case hd => rfl); (case hg => rfl); (case hr => first | (go_simp; done) | (go_simp; rfl)); intro gb324 hg w22 hbox hb; have n0_ := Aside0.mk (below_step ab1 hb); have n1_ := Aside0.mk (hbox); have n2_ := Aside0.mk ((by rw [hg]; exact (below_size ab1) : w.heap.size ≤ gb324)); have n3_ := Aside0.mk ((by rw [hg]; exact (below_size ab1) : w.heap.size ≤ gb324)); clear HB; have HB := n0_; have BK324 := n1_; have GW324 := n2_; have GE324 := n3_; clear n0_ n1_ n2_ n3_; clear hb hbox hg; obtain ⟨⟨hcz23_0, hcz23_1, hcz23_2, hcz23_3, hcz23_4, hcz23_5, hcz23_6⟩, hfz23_0, hfz23_1, hfz23_2, hfz23_3, hfz23_4, hfz23_5, hfz23_6⟩ := Op.cells7 BK324.out) | ((with_reducible refine gate_callee (f := 80) rfl ?_); refine goesL_ (some 24) rfl rfl Try.func80 (by kernel_rfl) rfl #[.agg #[.int .i64 ((rd_T50 y315 x19_2).f0), .int .i64 ((rd_T50 y315 x19_2).f1), .string ((rd_T50 y315 x19_2).f2), .slice A323_3 ((rd_T50 y315 x19_2).f3).length c323_3, .string ((rd_T50 y315 x19_2).f4), .int .i64 ((rd_T50 y315 x19_2).f5), .slice A323_6 ((rd_T50 y315 x19_2).f6).length c323_6]] rfl ab5 ?_; (with_reducible refine (impl_itemOk.calls k2 ((rd_T50 y315 x19_2).f0) ((rd_T50 y315 x19_2).f1) ((rd_T50 y315 x19_2).f2) _ _ ((rd_T50 y315 x19_2).f3) ((rd_T50 y315 x19_2).f4) ((rd_T50 y315 x19_2).f5) _ _ ((rd_T50 y315 x19_2).f6) true _ ?side1 ?side2 ?side3 ?side4 A14.out).mono ?_); (case side1 => exact Kd.C_below HR323_3.out (ab2 GE324)); (case side2 => exact HC323_3.out); (case side3 => exact Kd.C_below HR323_6.out (ab2 GE324)); (case side4 => exact HC323_6.out); rintro e w24 ⟨rfl, hb⟩; refine ⟨_, rfl, ?_⟩; have n0_ := Aside0.mk (blk_below (g := gb324) (o := .cells #[.int .i64 ((rd_T50 y315 x19_2).f0), .int .i64 ((rd_T50 y315 x19_2).f1), .string ((rd_T50 y315 x19_2).f2), .slice A323_3 ((rd_T50 y315 x19_2).f3).length c323_3, .string ((rd_T50 y315 x19_2).f4), .int .i64 ((rd_T50 y315 x19_2).f5), .slice A323_6 ((rd_T50 y315 x19_2).f6).length c323_6] 50 (0, 0)) (by (with_reducible repeat (first | refine blk_drewN ?_ _ | refine blk_drew ?_ | refine blk_alloc ?_ _)); refine blk_put (cs := #[.int .i64 ((rd_T50 y315 x19_2).f0), .int .i64 ((rd_T50 y315 x19_2).f1), .string ((rd_T50 y315 x19_2).f2), .slice A323_3 ((rd_T50 y315 x19_2).f3).length c323_3, .string ((rd_T50 y315 x19_2).f4), .int .i64 ((rd_T50 y315 x19_2).f5), .slice none 0 0]) ?_ 6 _ rfl; (with_reducible repeat (first | refine blk_drewN ?_ _ | refine blk_drew ?_ | refine blk_alloc ?_ _)); refine blk_put (cs := #[.int .i64 ((rd_T50 y315 x19_2).f0), .int .i64 ((rd_T50 y315 x19_2).f1), .string ((rd_T50 y315 x19_2).f2), .slice A323_3 ((rd_T50 y315 x19_2).f3).length c323_3, .string ((rd_T50 y315 x19_2).f4), .int .i64 0, .slice none 0 0]) ?_ 5 _ rfl; (with_reducible repeat (first | refine blk_drewN ?_ _ | refine blk_drew ?_ | refine blk_alloc ?_ _)); refine blk_put (cs := #[.int .i64 ((rd_T50 y315 x19_2).f0), .int .i64 ((rd_T50 y315 x19_2).f1), .string ((rd_T50 y315 x19_2).f2), .slice A323_3 ((rd_T50 y315 x19_2).f3).length c323_3, .string (⟨#[]⟩ : ByteArray), .int .i64 0, .slice none 0 0]) ?_ 4 _ rfl; (with_reducible repeat (first | refine blk_drewN ?_ _ | refine blk_drew ?_ | refine blk_alloc ?_ _)); refine blk_put (cs := #[.int .i64 ((rd_T50 y315 x19_2).f0), .int .i64 ((rd_T50 y315 x19_2).f1), .string ((rd_T50 y315 x19_2).f2), .slice none 0 0, .string (⟨#[]⟩ : ByteArray), .int .i64 0, .slice none 0 0]) ?_ 3 _ rfl; (with_reducible repeat (first | refine blk_drewN ?_ _ | refine blk_drew ?_ | refine blk_alloc ?_ _)); refine blk_put (cs := #[.int .i64 ((rd_T50 y315 x19_2).f0), .int .i64 ((rd_T50 y315 x19_2).f1), .string (⟨#[]⟩ : ByteArray), .slice none 0 0, .string (⟨#[]⟩ : ByteArray), .int .i64 0, .slice none 0 0]) ?_ 2 _ rfl; (with_reducible repeat (first | refine blk_drewN ?_ _ | refine blk_drew ?_ | refine blk_alloc ?_ _)); refine blk_put (cs := #[.int .i64 ((rd_T50 y315 x19_2).f0), .int .i64 0, .string (⟨#[]⟩ : ByteArray), .slice none 0 0, .string (⟨#[]⟩ : ByteArray), .int .i64 0, .slice none 0 0]) ?_ 1 _ rfl; (with_reducible repeat (first | refine blk_drewN ?_ _ | refine blk_drew ?_ | refine blk_alloc ?_ _)); refine blk_put (cs := #[.int .i64 0, .int .i64 0, .string (⟨#[]⟩ : ByteArray), .slice none 0 0, .string (⟨#[]⟩ : ByteArray), .int .i64 0, .slice none 0 0]) ?_ 0 _ rfl; (with_reducible repeat (first | refine blk_drewN ?_ _ | refine blk_drew ?_ | refine blk_alloc ?_ _)); exact BK324.out) hb); have n1_ := Aside0.mk (below_step (ab2 GE324) hb); clear BK324; clear HB; have BK324 := n0_; have HB := n1_; clear n0_ n1_; (try clear hb); (try clear hb2); (try clear hk); (try clear hi); obtain ⟨⟨hcz25_0, hcz25_1, hcz25_2, hcz25_3, hcz25_4, hcz25_5, hcz25_6⟩, hfz25_0, hfz25_1, hfz25_2, hfz25_3, hfz25_4, hfz25_5, hfz25_6⟩ := Op.cells7 BK324.out) | (go_at_call 77; (with_reducible refine (impl_inRange.calls ((rd_T50 y315 x19_2).f5) 0 (wrap64 ((l0.length : Int) - 1)) true _ A16.out).mono ?_); rintro e w' ⟨rfl, ⟨nd, rfl⟩⟩; have p327 : 0 ≤ (((rd_T50 y315 x19_2).f5) : Int) := of_decide_eq_true ab4; have q327 : ((rd_T50 y315 x19_2).f5) < (l0.length : Int) := of_decide_eq_true ab4; obtain ⟨ad327, A327_3, c327_3, A327_6, c327_6, e327, hx327_0, hx327_1, hx327_2, hx327_3, hx327_4, hx327_5, hx327_6, hl327_3, hi327_3, hl327_6, hi327_6⟩ := at_T50 HR0.out ((rd_T50 y315 x19_2).f5) p327 q327; cases e327; replace hx327_0 := pw_cell_below HB.out hx327_0; replace hx327_1 := pw_cell_below HB.out hx327_1; replace hx327_2 := pw_cell_below HB.out hx327_2; replace hx327_3 := pw_cell_below HB.out hx327_3; replace hx327_4 := pw_cell_below HB.out hx327_4; replace hx327_5 := pw_cell_below HB.out hx327_5; replace hx327_6 := pw_cell_below HB.out hx327_6; have HR327_3 := Aside0.mk hi327_3; have HC327_3 := Aside0.mk hl327_3; clear hi327_3 hl327_3; have HR327_6 := Aside0.mk hi327_6; have HC327_6 := Aside0.mk hl327_6; clear hi327_6 hl327_6; replace p327 := eq_true p327; replace q327 := eq_true q327) | (go_at_call 81; (with_reducible refine (impl_hasKids.calls ((rd_T50 l0 ((rd_T50 y315 x19_2).f5)).f0) true _ A20.out).mono ?_); rintro e w' ⟨rfl, ⟨nd, rfl⟩⟩))
          go_roundg k2
          case measure => have := HJ1.out; have := HK2.out; omega
          case rel => exact ⟨(wrap64 (x19_2 + 1)), ab6, H', ⟨by have := HJ1.out; have := HK2.out; omega⟩, ⟨ab2 GE324⟩⟩
         ·replace c21 := Bool.eq_false_iff.mpr c21
          subst c21
          rw [if_neg (show ¬ (false = true) by decide)] at H
          obtain rfl := Option.some.inj H
          have p323 : 0 ≤ (x19_2 : Int) := of_decide_eq_true ab4
          have q323 : x19_2 < (y315.length : Int) := of_decide_eq_true ab4
          obtain ⟨ad323, A323_3, c323_3, A323_6, c323_6, e323, hx323_0, hx323_1, hx323_2, hx323_3, hx323_4, hx323_5, hx323_6, hl323_3, hi323_3, hl323_6, hi323_6⟩ := at_T50 HR318.out x19_2 p323 q323
          cases e323
          replace hx323_0 := pw_cell_below HB.out hx323_0
          replace hx323_1 := pw_cell_below HB.out hx323_1
          replace hx323_2 := pw_cell_below HB.out hx323_2
          replace hx323_3 := pw_cell_below HB.out hx323_3
          replace hx323_4 := pw_cell_below HB.out hx323_4
          replace hx323_5 := pw_cell_below HB.out hx323_5
          replace hx323_6 := pw_cell_below HB.out hx323_6
          have HR323_3 := Aside0.mk hi323_3
          have HC323_3 := Aside0.mk hl323_3
          clear hi323_3 hl323_3
          have HR323_6 := Aside0.mk hi323_6
          have HC323_6 := Aside0.mk hl323_6
          clear hi323_6 hl323_6
          replace p323 := eq_true p323
          replace q323 := eq_true q323
          go_wp2_with (first | ((with_reducible refine gate_dst (N := 4) rfl ?_); (try (refine gate_guard (by rfl) ?_; dsimp only)); refine box_event ?hg (N := 4) ?hd (cs := #[.int .i64 0, .int .i64 0, .string (⟨#[]⟩ : ByteArray), .slice none 0 0, .string (⟨#[]⟩ : ByteArray), .int .i64 0, .slice none 0 0]) (t := 50) ?hr ?_; (case hd => rfl); (case hg => rfl); (case hr => first | (go_simp; done) | (go_simp; rfl)); intro gb324 hg w26 hbox hb; have n0_ := Aside0.mk (below_step ab1 hb); have n1_ := Aside0.mk (hbox); have n2_ := Aside0.mk ((by rw [hg]; exact (below_size ab1) : w.heap.size ≤ gb324)); have n3_ := Aside0.mk ((by rw [hg]; exact (below_size ab1) : w.heap.size ≤ gb324)); clear HB; have HB := n0_; have BK324 := n1_; have GW324 := n2_; have GE324 := n3_; clear n0_ n1_ n2_ n3_; clear hb hbox hg; obtain ⟨⟨hcz27_0, hcz27_1, hcz27_2, hcz27_3, hcz27_4, hcz27_5, hcz27_6⟩, hfz27_0, hfz27_1, hfz27_2, hfz27_3, hfz27_4, hfz27_5, hfz27_6⟩ := Op.cells7 BK324.out) | ((with_reducible refine gate_callee (f := 80) rfl ?_); refine goesL_ (some 24) rfl rfl Try.func80 (by kernel_rfl) rfl #[.agg #[.int .i64 ((rd_T50 y315 x19_2).f0), .int .i64 ((rd_T50 y315 x19_2).f1), .string ((rd_T50 y315 x19_2).f2), .slice A323_3 ((rd_T50 y315 x19_2).f3).length c323_3, .string ((rd_T50 y315 x19_2).f4), .int .i64 ((rd_T50 y315 x19_2).f5), .slice A323_6 ((rd_T50 y315 x19_2).f6).length c323_6]] rfl ab5 ?_; (with_reducible refine (impl_itemOk.calls k2 ((rd_T50 y315 x19_2).f0) ((rd_T50 y315 x19_2).f1) ((rd_T50 y315 x19_2).f2) _ _ ((rd_T50 y315 x19_2).f3) ((rd_T50 y315 x19_2).f4) ((rd_T50 y315 x19_2).f5) _ _ ((rd_T50 y315 x19_2).f6) true _ ?side1 ?side2 ?side3 ?side4 A14.out).mono ?_); (case side1 => exact Kd.C_below HR323_3.out (ab2 GE324)); (case side2 => exact HC323_3.out); (case side3 => exact Kd.C_below HR323_6.out (ab2 GE324)); (case side4 => exact HC323_6.out); rintro e w28 ⟨rfl, hb⟩; refine ⟨_, rfl, ?_⟩; have n0_ := Aside0.mk (blk_below (g := gb324) (o := .cells #[.int .i64 ((rd_T50 y315 x19_2).f0), .int .i64 ((rd_T50 y315 x19_2).f1), .string ((rd_T50 y315 x19_2).f2), .slice A323_3 ((rd_T50 y315 x19_2).f3).length c323_3, .string ((rd_T50 y315 x19_2).f4), .int .i64 ((rd_T50 y315 x19_2).f5), .slice A323_6 ((rd_T50 y315 x19_2).f6).length c323_6] 50 (0, 0)) (by (with_reducible repeat (first | refine blk_drewN ?_ _ | refine blk_drew ?_ | refine blk_alloc ?_ _)); refine blk_put (cs := #[.int .i64 ((rd_T50 y315 x19_2).f0), .int .i64 ((rd_T50 y315 x19_2).f1), .string ((rd_T50 y315 x19_2).f2), .slice A323_3 ((rd_T50 y315 x19_2).f3).length c323_3, .string ((rd_T50 y315 x19_2).f4), .int .i64 ((rd_T50 y315 x19_2).f5), .slice none 0 0]) ?_ 6 _ rfl; (with_reducible repeat (first | refine blk_drewN ?_ _ | refine blk_drew ?_ | refine blk_alloc ?_ _)); refine blk_put (cs := #[.int .i64 ((rd_T50 y315 x19_2).f0), .int .i64 ((rd_T50 y315 x19_2).f1), .string ((rd_T50 y315 x19_2).f2), .slice A323_3 ((rd_T50 y315 x19_2).f3).length c323_3, .string ((rd_T50 y315 x19_2).f4), .int .i64 0, .slice none 0 0]) ?_ 5 _ rfl; (with_reducible repeat (first | refine blk_drewN ?_ _ | refine blk_drew ?_ | refine blk_alloc ?_ _)); refine blk_put (cs := #[.int .i64 ((rd_T50 y315 x19_2).f0), .int .i64 ((rd_T50 y315 x19_2).f1), .string ((rd_T50 y315 x19_2).f2), .slice A323_3 ((rd_T50 y315 x19_2).f3).length c323_3, .string (⟨#[]⟩ : ByteArray), .int .i64 0, .slice none 0 0]) ?_ 4 _ rfl; (with_reducible repeat (first | refine blk_drewN ?_ _ | refine blk_drew ?_ | refine blk_alloc ?_ _)); refine blk_put (cs := #[.int .i64 ((rd_T50 y315 x19_2).f0), .int .i64 ((rd_T50 y315 x19_2).f1), .string ((rd_T50 y315 x19_2).f2), .slice none 0 0, .string (⟨#[]⟩ : ByteArray), .int .i64 0, .slice none 0 0]) ?_ 3 _ rfl; (with_reducible repeat (first | refine blk_drewN ?_ _ | refine blk_drew ?_ | refine blk_alloc ?_ _)); refine blk_put (cs := #[.int .i64 ((rd_T50 y315 x19_2).f0), .int .i64 ((rd_T50 y315 x19_2).f1), .string (⟨#[]⟩ : ByteArray), .slice none 0 0, .string (⟨#[]⟩ : ByteArray), .int .i64 0, .slice none 0 0]) ?_ 2 _ rfl; (with_reducible repeat (first | refine blk_drewN ?_ _ | refine blk_drew ?_ | refine blk_alloc ?_ _)); refine blk_put (cs := #[.int .i64 ((rd_T50 y315 x19_2).f0), .int .i64 0, .string (⟨#[]⟩ : ByteArray), .slice none 0 0, .string (⟨#[]⟩ : ByteArray), .int .i64 0, .slice none 0 0]) ?_ 1 _ rfl; (with_reducible repeat (first | refine blk_drewN ?_ _ | refine blk_drew ?_ | refine blk_alloc ?_ _)); refine blk_put (cs := #[.int .i64 0, .int .i64 0, .string (⟨#[]⟩ : ByteArray), .slice none 0 0, .string (⟨#[]⟩ : ByteArray), .int .i64 0, .slice none 0 0]) ?_ 0 _ rfl; (with_reducible repeat (first | refine blk_drewN ?_ _ | refine blk_drew ?_ | refine blk_alloc ?_ _)); exact BK324.out) hb); have n1_ := Aside0.mk (below_step (ab2 GE324) hb); clear BK324; clear HB; have BK324 := n0_; have HB := n1_; clear n0_ n1_; (try clear hb); (try clear hb2); (try clear hk); (try clear hi); obtain ⟨⟨hcz29_0, hcz29_1, hcz29_2, hcz29_3, hcz29_4, hcz29_5, hcz29_6⟩, hfz29_0, hfz29_1, hfz29_2, hfz29_3, hfz29_4, hfz29_5, hfz29_6⟩ := Op.cells7 BK324.out) | (go_at_call 77; (with_reducible refine (impl_inRange.calls ((rd_T50 y315 x19_2).f5) 0 (wrap64 ((l0.length : Int) - 1)) true _ A16.out).mono ?_); rintro e w' ⟨rfl, ⟨nd, rfl⟩⟩; have p327 : 0 ≤ (((rd_T50 y315 x19_2).f5) : Int) := of_decide_eq_true ab4; have q327 : ((rd_T50 y315 x19_2).f5) < (l0.length : Int) := of_decide_eq_true ab4; obtain ⟨ad327, A327_3, c327_3, A327_6, c327_6, e327, hx327_0, hx327_1, hx327_2, hx327_3, hx327_4, hx327_5, hx327_6, hl327_3, hi327_3, hl327_6, hi327_6⟩ := at_T50 HR0.out ((rd_T50 y315 x19_2).f5) p327 q327; cases e327; replace hx327_0 := pw_cell_below HB.out hx327_0; replace hx327_1 := pw_cell_below HB.out hx327_1; replace hx327_2 := pw_cell_below HB.out hx327_2; replace hx327_3 := pw_cell_below HB.out hx327_3; replace hx327_4 := pw_cell_below HB.out hx327_4; replace hx327_5 := pw_cell_below HB.out hx327_5; replace hx327_6 := pw_cell_below HB.out hx327_6; have HR327_3 := Aside0.mk hi327_3; have HC327_3 := Aside0.mk hl327_3; clear hi327_3 hl327_3; have HR327_6 := Aside0.mk hi327_6; have HC327_6 := Aside0.mk hl327_6; clear hi327_6 hl327_6; replace p327 := eq_true p327; replace q327 := eq_true q327) | (go_at_call 81; (with_reducible refine (impl_hasKids.calls ((rd_T50 l0 ((rd_T50 y315 x19_2).f5)).f0) false _ A20.out).mono ?_); rintro e w' ⟨rfl, ⟨nd, rfl⟩⟩))
          go_ret
          exact ⟨ab7, ab2 GE324⟩
        ·replace c17 := Bool.eq_false_iff.mpr c17
         subst c17
         rw [if_neg (show ¬ (false = true) by decide)] at H
         obtain rfl := Option.some.inj H
         have p323 : 0 ≤ (x19_2 : Int) := of_decide_eq_true ab4
         have q323 : x19_2 < (y315.length : Int) := of_decide_eq_true ab4
         obtain ⟨ad323, A323_3, c323_3, A323_6, c323_6, e323, hx323_0, hx323_1, hx323_2, hx323_3, hx323_4, hx323_5, hx323_6, hl323_3, hi323_3, hl323_6, hi323_6⟩ := at_T50 HR318.out x19_2 p323 q323
         cases e323
         replace hx323_0 := pw_cell_below HB.out hx323_0
         replace hx323_1 := pw_cell_below HB.out hx323_1
         replace hx323_2 := pw_cell_below HB.out hx323_2
         replace hx323_3 := pw_cell_below HB.out hx323_3
         replace hx323_4 := pw_cell_below HB.out hx323_4
         replace hx323_5 := pw_cell_below HB.out hx323_5
         replace hx323_6 := pw_cell_below HB.out hx323_6
         have HR323_3 := Aside0.mk hi323_3
         have HC323_3 := Aside0.mk hl323_3
         clear hi323_3 hl323_3
         have HR323_6 := Aside0.mk hi323_6
         have HC323_6 := Aside0.mk hl323_6
         clear hi323_6 hl323_6
         replace p323 := eq_true p323
         replace q323 := eq_true q323
         go_wp2_with (first | ((with_reducible refine gate_dst (N := 4) rfl ?_); (try (refine gate_guard (by rfl) ?_; dsimp only)); refine box_event ?hg (N := 4) ?hd (cs := #[.int .i64 0, .int .i64 0, .string (⟨#[]⟩ : ByteArray), .slice none 0 0, .string (⟨#[]⟩ : ByteArray), .int .i64 0, .slice none 0 0]) (t := 50) ?hr ?_; (case hd => rfl); (case hg => rfl); (case hr => first | (go_simp; done) | (go_simp; rfl)); intro gb324 hg w30 hbox hb; have n0_ := Aside0.mk (below_step ab1 hb); have n1_ := Aside0.mk (hbox); have n2_ := Aside0.mk ((by rw [hg]; exact (below_size ab1) : w.heap.size ≤ gb324)); have n3_ := Aside0.mk ((by rw [hg]; exact (below_size ab1) : w.heap.size ≤ gb324)); clear HB; have HB := n0_; have BK324 := n1_; have GW324 := n2_; have GE324 := n3_; clear n0_ n1_ n2_ n3_; clear hb hbox hg; obtain ⟨⟨hcz31_0, hcz31_1, hcz31_2, hcz31_3, hcz31_4, hcz31_5, hcz31_6⟩, hfz31_0, hfz31_1, hfz31_2, hfz31_3, hfz31_4, hfz31_5, hfz31_6⟩ := Op.cells7 BK324.out) | ((with_reducible refine gate_callee (f := 80) rfl ?_); refine goesL_ (some 24) rfl rfl Try.func80 (by kernel_rfl) rfl #[.agg #[.int .i64 ((rd_T50 y315 x19_2).f0), .int .i64 ((rd_T50 y315 x19_2).f1), .string ((rd_T50 y315 x19_2).f2), .slice A323_3 ((rd_T50 y315 x19_2).f3).length c323_3, .string ((rd_T50 y315 x19_2).f4), .int .i64 ((rd_T50 y315 x19_2).f5), .slice A323_6 ((rd_T50 y315 x19_2).f6).length c323_6]] rfl ab5 ?_; (with_reducible refine (impl_itemOk.calls k2 ((rd_T50 y315 x19_2).f0) ((rd_T50 y315 x19_2).f1) ((rd_T50 y315 x19_2).f2) _ _ ((rd_T50 y315 x19_2).f3) ((rd_T50 y315 x19_2).f4) ((rd_T50 y315 x19_2).f5) _ _ ((rd_T50 y315 x19_2).f6) true _ ?side1 ?side2 ?side3 ?side4 A14.out).mono ?_); (case side1 => exact Kd.C_below HR323_3.out (ab2 GE324)); (case side2 => exact HC323_3.out); (case side3 => exact Kd.C_below HR323_6.out (ab2 GE324)); (case side4 => exact HC323_6.out); rintro e w32 ⟨rfl, hb⟩; refine ⟨_, rfl, ?_⟩; have n0_ := Aside0.mk (blk_below (g := gb324) (o := .cells #[.int .i64 ((rd_T50 y315 x19_2).f0), .int .i64 ((rd_T50 y315 x19_2).f1), .string ((rd_T50 y315 x19_2).f2), .slice A323_3 ((rd_T50 y315 x19_2).f3).length c323_3, .string ((rd_T50 y315 x19_2).f4), .int .i64 ((rd_T50 y315 x19_2).f5), .slice A323_6 ((rd_T50 y315 x19_2).f6).length c323_6] 50 (0, 0)) (by (with_reducible repeat (first | refine blk_drewN ?_ _ | refine blk_drew ?_ | refine blk_alloc ?_ _)); refine blk_put (cs := #[.int .i64 ((rd_T50 y315 x19_2).f0), .int .i64 ((rd_T50 y315 x19_2).f1), .string ((rd_T50 y315 x19_2).f2), .slice A323_3 ((rd_T50 y315 x19_2).f3).length c323_3, .string ((rd_T50 y315 x19_2).f4), .int .i64 ((rd_T50 y315 x19_2).f5), .slice none 0 0]) ?_ 6 _ rfl; (with_reducible repeat (first | refine blk_drewN ?_ _ | refine blk_drew ?_ | refine blk_alloc ?_ _)); refine blk_put (cs := #[.int .i64 ((rd_T50 y315 x19_2).f0), .int .i64 ((rd_T50 y315 x19_2).f1), .string ((rd_T50 y315 x19_2).f2), .slice A323_3 ((rd_T50 y315 x19_2).f3).length c323_3, .string ((rd_T50 y315 x19_2).f4), .int .i64 0, .slice none 0 0]) ?_ 5 _ rfl; (with_reducible repeat (first | refine blk_drewN ?_ _ | refine blk_drew ?_ | refine blk_alloc ?_ _)); refine blk_put (cs := #[.int .i64 ((rd_T50 y315 x19_2).f0), .int .i64 ((rd_T50 y315 x19_2).f1), .string ((rd_T50 y315 x19_2).f2), .slice A323_3 ((rd_T50 y315 x19_2).f3).length c323_3, .string (⟨#[]⟩ : ByteArray), .int .i64 0, .slice none 0 0]) ?_ 4 _ rfl; (with_reducible repeat (first | refine blk_drewN ?_ _ | refine blk_drew ?_ | refine blk_alloc ?_ _)); refine blk_put (cs := #[.int .i64 ((rd_T50 y315 x19_2).f0), .int .i64 ((rd_T50 y315 x19_2).f1), .string ((rd_T50 y315 x19_2).f2), .slice none 0 0, .string (⟨#[]⟩ : ByteArray), .int .i64 0, .slice none 0 0]) ?_ 3 _ rfl; (with_reducible repeat (first | refine blk_drewN ?_ _ | refine blk_drew ?_ | refine blk_alloc ?_ _)); refine blk_put (cs := #[.int .i64 ((rd_T50 y315 x19_2).f0), .int .i64 ((rd_T50 y315 x19_2).f1), .string (⟨#[]⟩ : ByteArray), .slice none 0 0, .string (⟨#[]⟩ : ByteArray), .int .i64 0, .slice none 0 0]) ?_ 2 _ rfl; (with_reducible repeat (first | refine blk_drewN ?_ _ | refine blk_drew ?_ | refine blk_alloc ?_ _)); refine blk_put (cs := #[.int .i64 ((rd_T50 y315 x19_2).f0), .int .i64 0, .string (⟨#[]⟩ : ByteArray), .slice none 0 0, .string (⟨#[]⟩ : ByteArray), .int .i64 0, .slice none 0 0]) ?_ 1 _ rfl; (with_reducible repeat (first | refine blk_drewN ?_ _ | refine blk_drew ?_ | refine blk_alloc ?_ _)); refine blk_put (cs := #[.int .i64 0, .int .i64 0, .string (⟨#[]⟩ : ByteArray), .slice none 0 0, .string (⟨#[]⟩ : ByteArray), .int .i64 0, .slice none 0 0]) ?_ 0 _ rfl; (with_reducible repeat (first | refine blk_drewN ?_ _ | refine blk_drew ?_ | refine blk_alloc ?_ _)); exact BK324.out) hb); have n1_ := Aside0.mk (below_step (ab2 GE324) hb); clear BK324; clear HB; have BK324 := n0_; have HB := n1_; clear n0_ n1_; (try clear hb); (try clear hb2); (try clear hk); (try clear hi); obtain ⟨⟨hcz33_0, hcz33_1, hcz33_2, hcz33_3, hcz33_4, hcz33_5, hcz33_6⟩, hfz33_0, hfz33_1, hfz33_2, hfz33_3, hfz33_4, hfz33_5, hfz33_6⟩ := Op.cells7 BK324.out) | (go_at_call 77; (with_reducible refine (impl_inRange.calls ((rd_T50 y315 x19_2).f5) 0 (wrap64 ((l0.length : Int) - 1)) false _ A16.out).mono ?_); rintro e w' ⟨rfl, ⟨nd, rfl⟩⟩))
         go_ret
         exact ⟨ab7, ab2 GE324⟩
       ·replace c15 := Bool.eq_false_iff.mpr c15
        subst c15
        rw [if_neg (show ¬ (false = true) by decide)] at H
        obtain rfl := Option.some.inj H
        have p323 : 0 ≤ (x19_2 : Int) := of_decide_eq_true ab4
        have q323 : x19_2 < (y315.length : Int) := of_decide_eq_true ab4
        obtain ⟨ad323, A323_3, c323_3, A323_6, c323_6, e323, hx323_0, hx323_1, hx323_2, hx323_3, hx323_4, hx323_5, hx323_6, hl323_3, hi323_3, hl323_6, hi323_6⟩ := at_T50 HR318.out x19_2 p323 q323
        cases e323
        replace hx323_0 := pw_cell_below HB.out hx323_0
        replace hx323_1 := pw_cell_below HB.out hx323_1
        replace hx323_2 := pw_cell_below HB.out hx323_2
        replace hx323_3 := pw_cell_below HB.out hx323_3
        replace hx323_4 := pw_cell_below HB.out hx323_4
        replace hx323_5 := pw_cell_below HB.out hx323_5
        replace hx323_6 := pw_cell_below HB.out hx323_6
        have HR323_3 := Aside0.mk hi323_3
        have HC323_3 := Aside0.mk hl323_3
        clear hi323_3 hl323_3
        have HR323_6 := Aside0.mk hi323_6
        have HC323_6 := Aside0.mk hl323_6
        clear hi323_6 hl323_6
        replace p323 := eq_true p323
        replace q323 := eq_true q323
        go_wp2_with (first | ((with_reducible refine gate_dst (N := 4) rfl ?_); (try (refine gate_guard (by rfl) ?_; dsimp only)); refine box_event ?hg (N := 4) ?hd (cs := #[.int .i64 0, .int .i64 0, .string (⟨#[]⟩ : ByteArray), .slice none 0 0, .string (⟨#[]⟩ : ByteArray), .int .i64 0, .slice none 0 0]) (t := 50) ?hr ?_; (case hd => rfl); (case hg => rfl); (case hr => first | (go_simp; done) | (go_simp; rfl)); intro gb324 hg w34 hbox hb; have n0_ := Aside0.mk (below_step ab1 hb); have n1_ := Aside0.mk (hbox); have n2_ := Aside0.mk ((by rw [hg]; exact (below_size ab1) : w.heap.size ≤ gb324)); have n3_ := Aside0.mk ((by rw [hg]; exact (below_size ab1) : w.heap.size ≤ gb324)); clear HB; have HB := n0_; have BK324 := n1_; have GW324 := n2_; have GE324 := n3_; clear n0_ n1_ n2_ n3_; clear hb hbox hg; obtain ⟨⟨hcz35_0, hcz35_1, hcz35_2, hcz35_3, hcz35_4, hcz35_5, hcz35_6⟩, hfz35_0, hfz35_1, hfz35_2, hfz35_3, hfz35_4, hfz35_5, hfz35_6⟩ := Op.cells7 BK324.out) | ((with_reducible refine gate_callee (f := 80) rfl ?_); refine goesL_ (some 24) rfl rfl Try.func80 (by kernel_rfl) rfl #[.agg #[.int .i64 ((rd_T50 y315 x19_2).f0), .int .i64 ((rd_T50 y315 x19_2).f1), .string ((rd_T50 y315 x19_2).f2), .slice A323_3 ((rd_T50 y315 x19_2).f3).length c323_3, .string ((rd_T50 y315 x19_2).f4), .int .i64 ((rd_T50 y315 x19_2).f5), .slice A323_6 ((rd_T50 y315 x19_2).f6).length c323_6]] rfl ab5 ?_; (with_reducible refine (impl_itemOk.calls k2 ((rd_T50 y315 x19_2).f0) ((rd_T50 y315 x19_2).f1) ((rd_T50 y315 x19_2).f2) _ _ ((rd_T50 y315 x19_2).f3) ((rd_T50 y315 x19_2).f4) ((rd_T50 y315 x19_2).f5) _ _ ((rd_T50 y315 x19_2).f6) false _ ?side1 ?side2 ?side3 ?side4 A14.out).mono ?_); (case side1 => exact Kd.C_below HR323_3.out (ab2 GE324)); (case side2 => exact HC323_3.out); (case side3 => exact Kd.C_below HR323_6.out (ab2 GE324)); (case side4 => exact HC323_6.out); rintro e w36 ⟨rfl, hb⟩; refine ⟨_, rfl, ?_⟩; have n0_ := Aside0.mk (blk_below (g := gb324) (o := .cells #[.int .i64 ((rd_T50 y315 x19_2).f0), .int .i64 ((rd_T50 y315 x19_2).f1), .string ((rd_T50 y315 x19_2).f2), .slice A323_3 ((rd_T50 y315 x19_2).f3).length c323_3, .string ((rd_T50 y315 x19_2).f4), .int .i64 ((rd_T50 y315 x19_2).f5), .slice A323_6 ((rd_T50 y315 x19_2).f6).length c323_6] 50 (0, 0)) (by (with_reducible repeat (first | refine blk_drewN ?_ _ | refine blk_drew ?_ | refine blk_alloc ?_ _)); refine blk_put (cs := #[.int .i64 ((rd_T50 y315 x19_2).f0), .int .i64 ((rd_T50 y315 x19_2).f1), .string ((rd_T50 y315 x19_2).f2), .slice A323_3 ((rd_T50 y315 x19_2).f3).length c323_3, .string ((rd_T50 y315 x19_2).f4), .int .i64 ((rd_T50 y315 x19_2).f5), .slice none 0 0]) ?_ 6 _ rfl; (with_reducible repeat (first | refine blk_drewN ?_ _ | refine blk_drew ?_ | refine blk_alloc ?_ _)); refine blk_put (cs := #[.int .i64 ((rd_T50 y315 x19_2).f0), .int .i64 ((rd_T50 y315 x19_2).f1), .string ((rd_T50 y315 x19_2).f2), .slice A323_3 ((rd_T50 y315 x19_2).f3).length c323_3, .string ((rd_T50 y315 x19_2).f4), .int .i64 0, .slice none 0 0]) ?_ 5 _ rfl; (with_reducible repeat (first | refine blk_drewN ?_ _ | refine blk_drew ?_ | refine blk_alloc ?_ _)); refine blk_put (cs := #[.int .i64 ((rd_T50 y315 x19_2).f0), .int .i64 ((rd_T50 y315 x19_2).f1), .string ((rd_T50 y315 x19_2).f2), .slice A323_3 ((rd_T50 y315 x19_2).f3).length c323_3, .string (⟨#[]⟩ : ByteArray), .int .i64 0, .slice none 0 0]) ?_ 4 _ rfl; (with_reducible repeat (first | refine blk_drewN ?_ _ | refine blk_drew ?_ | refine blk_alloc ?_ _)); refine blk_put (cs := #[.int .i64 ((rd_T50 y315 x19_2).f0), .int .i64 ((rd_T50 y315 x19_2).f1), .string ((rd_T50 y315 x19_2).f2), .slice none 0 0, .string (⟨#[]⟩ : ByteArray), .int .i64 0, .slice none 0 0]) ?_ 3 _ rfl; (with_reducible repeat (first | refine blk_drewN ?_ _ | refine blk_drew ?_ | refine blk_alloc ?_ _)); refine blk_put (cs := #[.int .i64 ((rd_T50 y315 x19_2).f0), .int .i64 ((rd_T50 y315 x19_2).f1), .string (⟨#[]⟩ : ByteArray), .slice none 0 0, .string (⟨#[]⟩ : ByteArray), .int .i64 0, .slice none 0 0]) ?_ 2 _ rfl; (with_reducible repeat (first | refine blk_drewN ?_ _ | refine blk_drew ?_ | refine blk_alloc ?_ _)); refine blk_put (cs := #[.int .i64 ((rd_T50 y315 x19_2).f0), .int .i64 0, .string (⟨#[]⟩ : ByteArray), .slice none 0 0, .string (⟨#[]⟩ : ByteArray), .int .i64 0, .slice none 0 0]) ?_ 1 _ rfl; (with_reducible repeat (first | refine blk_drewN ?_ _ | refine blk_drew ?_ | refine blk_alloc ?_ _)); refine blk_put (cs := #[.int .i64 0, .int .i64 0, .string (⟨#[]⟩ : ByteArray), .slice none 0 0, .string (⟨#[]⟩ : ByteArray), .int .i64 0, .slice none 0 0]) ?_ 0 _ rfl; (with_reducible repeat (first | refine blk_drewN ?_ _ | refine blk_drew ?_ | refine blk_alloc ?_ _)); exact BK324.out) hb); have n1_ := Aside0.mk (below_step (ab2 GE324) hb); clear BK324; clear HB; have BK324 := n0_; have HB := n1_; clear n0_ n1_; (try clear hb); (try clear hb2); (try clear hk); (try clear hi)))
        go_ret
        exact ⟨ab7, ab2 GE324⟩
      ·rw [if_neg c11] at H
       have c11b0 := decide_eq_false c11
       clear c11
       replace H := Option.bind_eq_some_iff.mp H
       obtain ⟨t319, A370, H⟩ := H
       try dsimp only at H
       have A37 := Aside0.mk A370
       clear A370
       by_cases c38 : t319 = true
       ·subst c38
        rw [if_pos rfl] at H
        replace H := Option.bind_eq_some_iff.mp H
        obtain ⟨t320, A390, H⟩ := H
        try dsimp only at H
        have A39 := Aside0.mk A390
        clear A390
        obtain rfl := Option.some.inj H
        go_wp2_with (first | ((with_reducible refine gate_callee (f := 82) rfl ?_); refine goesL_ (some 47) rfl rfl Try.func82 (by kernel_rfl) rfl #[.slice A0 l0.length c0] rfl ab5 ?_; (with_reducible refine (impl_kidsOk.calls k2 _ _ l0 true _ ?side1 ?side2 A37.out).mono ?_); (case side1 => repeat (first | exact (Kd.C_below HR0.out HB.out) | (with_reducible refine Kd.C_alloc ?_ _) | (with_reducible refine Kd.C_drewN ?_ _) | (with_reducible refine Kd.C_drew ?_))); (case side2 => exact HC0.out); rintro e w40 ⟨rfl, hb⟩; refine ⟨_, rfl, ?_⟩; have n0_ := Aside0.mk (below_step ab1 hb); clear HB; have HB := n0_; clear n0_; (try clear hb); (try clear hb2); (try clear hk); (try clear hi)) | (go_at_call 83; (with_reducible refine (impl_order.calls k2 _ _ l0 t320 _ ?side1 ?side2 A39.out).mono ?_); (case side1 => repeat (first | exact (Kd.C_below HR0.out HB.out) | (with_reducible refine Kd.C_alloc ?_ _) | (with_reducible refine Kd.C_drewN ?_ _) | (with_reducible refine Kd.C_drew ?_))); (case side2 => exact HC0.out); rintro e w41 ⟨v321, rfl, ho0, hb⟩; have n0_ := Aside0.mk (Kd.R_lower ho0 (below_size ab1)); have n1_ := Aside0.mk (below_step ab1 hb); clear HB; have HO322 := n0_; have HB := n1_; clear n0_ n1_; (try clear hb); (try clear hb2); (try clear hk); (try clear hi); obtain ⟨Ao42, co42, eo42⟩ := Kd.R_slice HO322.out; subst eo42))
        go_ret
        exact ⟨ab7, ab1⟩
       ·replace c38 := Bool.eq_false_iff.mpr c38
        subst c38
        rw [if_neg (show ¬ (false = true) by decide)] at H
        obtain rfl := Option.some.inj H
        go_wp2_with (first | ((with_reducible refine gate_callee (f := 82) rfl ?_); refine goesL_ (some 47) rfl rfl Try.func82 (by kernel_rfl) rfl #[.slice A0 l0.length c0] rfl ab5 ?_; (with_reducible refine (impl_kidsOk.calls k2 _ _ l0 false _ ?side1 ?side2 A37.out).mono ?_); (case side1 => repeat (first | exact (Kd.C_below HR0.out HB.out) | (with_reducible refine Kd.C_alloc ?_ _) | (with_reducible refine Kd.C_drewN ?_ _) | (with_reducible refine Kd.C_drew ?_))); (case side2 => exact HC0.out); rintro e w43 ⟨rfl, hb⟩; refine ⟨_, rfl, ?_⟩; have n0_ := Aside0.mk (below_step ab1 hb); clear HB; have HB := n0_; clear n0_; (try clear hb); (try clear hb2); (try clear hk); (try clear hi)))
        go_ret
        exact ⟨ab7, ab1⟩

-- NOT PRINTED: function 33 (impl_PageOk)

/-! ### impl_Page_nameOf: function 98 -/
def impl_Page_nameOf.f (s0_0 : List (S50)) (s0_1 : List Int) (s0_2 : List Int) (s0_3 : Int) (s0_4 : Int) (a1 : Int) : Option (ByteArray × Int × Int) := if 0 ≤ a1 then (if a1 < (s0_1.length : Int) then ((impl_inRange.f (rd s0_1 a1) 0 (wrap64 ((s0_0.length : Int) - 1))).bind fun t347 => (if t347 = true then (if 0 ≤ (rd s0_1 a1) then (if (rd s0_1 a1) < (s0_0.length : Int) then (some ((rd_T50 s0_0 (rd s0_1 a1)).f2, s0_3, s0_4)) else (none)) else (none)) else (some ((⟨#[]⟩ : ByteArray), s0_3, s0_4)))) else (none)) else (none)
set_option maxHeartbeats 8000000 in
set_option maxRecDepth 100000 in
theorem impl_Page_nameOf.calls (g : Nat) (s0_0 : List (S50)) (s0_1 : List Int) (s0_2 : List Int) (s0_3 : Int) (s0_4 : Int) (a1 : Int) (r1 : ByteArray) (r2 : Int) (r3 : Int) (w0 w : World) (hI : IsS40 w0 w g s0_0 s0_1 s0_2 s0_3 s0_4) (hB : Below w0.heap.size w0 w) (h : impl_Page_nameOf.f s0_0 s0_1 s0_2 s0_3 s0_4 a1 = some (r1, r2, r3)) :
  Calls Try.prog 98 #[.pointer (some ⟨g, 0, none⟩), .int .i64 a1] w fun e w' => e = .returned (.string r1) ∧ IsS40 w0 w' g s0_0 s0_1 s0_2 r2 r3 ∧ Below w0.heap.size w0 w' ∧ KeepBut w w' g none := by
 have HI0 := Aside0.mk hI
 have HK := Aside0.mk (KeepBut.refl w g none)
 have HL := Aside0.mk hB.size
 clear hI
 have HW0 := Aside0.mk hB.size
 have HB := Aside0.mk hB
 clear hB
 have H : (if 0 ≤ a1 then (if a1 < (s0_1.length : Int) then ((impl_inRange.f (rd s0_1 a1) 0 (wrap64 ((s0_0.length : Int) - 1))).bind fun t347 => (if t347 = true then (if 0 ≤ (rd s0_1 a1) then (if (rd s0_1 a1) < (s0_0.length : Int) then (some ((rd_T50 s0_0 (rd s0_1 a1)).f2, s0_3, s0_4)) else (none)) else (none)) else (some ((⟨#[]⟩ : ByteArray), s0_3, s0_4)))) else (none)) else (none)) = some (r1, r2, r3) := h
 clear h
 by_cases c3 : 0 ≤ a1
 case neg => rw [if_neg c3] at H; exact absurd H (by simp)
 rw [if_pos c3] at H
 have c3b0 := decide_eq_true c3
 clear c3
 by_cases c4 : a1 < (s0_1.length : Int)
 case neg => rw [if_neg c4] at H; exact absurd H (by simp)
 rw [if_pos c4] at H
 have c4b0 := decide_eq_true c4
 clear c4
 replace H := Option.bind_eq_some_iff.mp H
 obtain ⟨t347, A50, H⟩ := H
 try dsimp only at H
 have A5 := Aside0.mk A50
 clear A50
 by_cases c6 : t347 = true
 ·subst c6
  rw [if_pos rfl] at H
  by_cases c7 : 0 ≤ (rd s0_1 a1)
  case neg => rw [if_neg c7] at H; exact absurd H (by simp)
  rw [if_pos c7] at H
  have c7b0 := decide_eq_true c7
  clear c7
  by_cases c8 : (rd s0_1 a1) < (s0_0.length : Int)
  case neg => rw [if_neg c8] at H; exact absurd H (by simp)
  rw [if_pos c8] at H
  have c8b0 := decide_eq_true c8
  clear c8
  simp only [Option.some.injEq, Prod.mk.injEq] at H
  obtain ⟨rfl, rfl, rfl⟩ := H
  obtain ⟨ASz9_0, cSz9_0, ASz9_1, cSz9_1, ASz9_2, cSz9_2, HGz9, hgz9, HSz9_0, HSz9_1, HSz9_2⟩ := HI0.out
  have hcz9_0 := cellS40_0 HGz9
  have hcz9_1 := cellS40_1 HGz9
  have hcz9_2 := cellS40_2 HGz9
  have hcz9_3 := cellS40_3 HGz9
  have hcz9_4 := cellS40_4 HGz9
  have hfz9_3 := blk_frozen HGz9 3
  have hfz9_4 := blk_frozen HGz9 4
  clear HGz9 hgz9
  have p346 : 0 ≤ (a1 : Int) := of_decide_eq_true ab4
  have q346 : a1 < (s0_1.length : Int) := of_decide_eq_true ab4
  obtain ⟨ad346, e346, hx346_0⟩ := Kd.at_int HSz9_1 a1 p346 q346
  cases e346
  replace hx346_0 := pw_cell_below HB.out hx346_0
  replace p346 := eq_true p346
  replace q346 := eq_true q346
  have p348 : 0 ≤ (a1 : Int) := of_decide_eq_true ab4; have q348 : a1 < (s0_1.length : Int) := of_decide_eq_true ab4; obtain ⟨ad348, e348, hx348_0⟩ := Kd.at_int HSz9_1 a1 p348 q348; obtain rfl : ad346 = ad348 := (by injection e348); replace hx348_0 := pw_cell_below HB.out hx348_0; replace p348 := eq_true p348; replace q348 := eq_true q348; have p349 : 0 ≤ ((rd s0_1 a1) : Int) := of_decide_eq_true ab4; have q349 : (rd s0_1 a1) < (s0_0.length : Int) := of_decide_eq_true ab4; obtain ⟨ad349, A349_3, c349_3, A349_6, c349_6, e349, hx349_0, hx349_1, hx349_2, hx349_3, hx349_4, hx349_5, hx349_6, hl349_3, hi349_3, hl349_6, hi349_6⟩ := at_T50 HSz9_0 (rd s0_1 a1) p349 q349; cases e349; replace hx349_0 := pw_cell_below HB.out hx349_0; replace hx349_1 := pw_cell_below HB.out hx349_1; replace hx349_2 := pw_cell_below HB.out hx349_2; replace hx349_3 := pw_cell_below HB.out hx349_3; replace hx349_4 := pw_cell_below HB.out hx349_4; replace hx349_5 := pw_cell_below HB.out hx349_5; replace hx349_6 := pw_cell_below HB.out hx349_6; have HR349_3 := Aside0.mk hi349_3; have HC349_3 := Aside0.mk hl349_3; clear hi349_3 hl349_3; have HR349_6 := Aside0.mk hi349_6; have HC349_6 := Aside0.mk hl349_6; clear hi349_6 hl349_6; replace p349 := eq_true p349; replace q349 := eq_true q349
  go_enter Try.func98, Try.ntmps98
  go_wp2_with (first | (go_at_call 77; (with_reducible refine (impl_inRange.calls (rd s0_1 a1) 0 (wrap64 ((s0_0.length : Int) - 1)) true _ A5.out).mono ?_); rintro e w' ⟨rfl, ⟨nd, rfl⟩⟩; (try first | exact ⟨rfl, _, World.drewN_drewN _ _ _⟩ | exact ⟨rfl, _, Eq.trans (World.drewN_drewN _ _ _) (congrArg (World.drewN _) (Nat.add_assoc _ _ _))⟩)))
  repeat (go_quiet (first | (go_at_call 77; (with_reducible refine (impl_inRange.calls (rd s0_1 a1) 0 (wrap64 ((s0_0.length : Int) - 1)) true _ A5.out).mono ?_); rintro e w' ⟨rfl, ⟨nd, rfl⟩⟩; (try first | exact ⟨rfl, _, World.drewN_drewN _ _ _⟩ | exact ⟨rfl, _, Eq.trans (World.drewN_drewN _ _ _) (congrArg (World.drewN _) (Nat.add_assoc _ _ _))⟩))); try go_wp2_with (first | (go_at_call 77; (with_reducible refine (impl_inRange.calls (rd s0_1 a1) 0 (wrap64 ((s0_0.length : Int) - 1)) true _ A5.out).mono ?_); rintro e w' ⟨rfl, ⟨nd, rfl⟩⟩; (try first | exact ⟨rfl, _, World.drewN_drewN _ _ _⟩ | exact ⟨rfl, _, Eq.trans (World.drewN_drewN _ _ _) (congrArg (World.drewN _) (Nat.add_assoc _ _ _))⟩))))
  go_ret
  exact ⟨ab7, by repeat (first | (with_reducible first | exact HI0.out | apply IsS40.alloc | apply IsS40.drewN | apply IsS40.drew | apply IsS40.set_3 | apply IsS40.set_4) | exact HI0.out), by repeat (first | (with_reducible first | exact HB.out | apply below_alloc | apply pw_below_drewN | apply below_drew1 | refine below_set ?_ (IsS40.ge HI0.out)) | exact HB.out), by repeat (first | (with_reducible first | exact HK.out | apply KeepBut.set_ | apply keep_drewN | apply keep_drew | apply keep_alloc) | exact HK.out)⟩
 ·replace c6 := Bool.eq_false_iff.mpr c6
  subst c6
  rw [if_neg (show ¬ (false = true) by decide)] at H
  simp only [Option.some.injEq, Prod.mk.injEq] at H
  obtain ⟨rfl, rfl, rfl⟩ := H
  obtain ⟨ASz10_0, cSz10_0, ASz10_1, cSz10_1, ASz10_2, cSz10_2, HGz10, hgz10, HSz10_0, HSz10_1, HSz10_2⟩ := HI0.out
  have hcz10_0 := cellS40_0 HGz10
  have hcz10_1 := cellS40_1 HGz10
  have hcz10_2 := cellS40_2 HGz10
  have hcz10_3 := cellS40_3 HGz10
  have hcz10_4 := cellS40_4 HGz10
  have hfz10_3 := blk_frozen HGz10 3
  have hfz10_4 := blk_frozen HGz10 4
  clear HGz10 hgz10
  have p346 : 0 ≤ (a1 : Int) := of_decide_eq_true ab4
  have q346 : a1 < (s0_1.length : Int) := of_decide_eq_true ab4
  obtain ⟨ad346, e346, hx346_0⟩ := Kd.at_int HSz10_1 a1 p346 q346
  cases e346
  replace hx346_0 := pw_cell_below HB.out hx346_0
  replace p346 := eq_true p346
  replace q346 := eq_true q346
  go_enter Try.func98, Try.ntmps98
  go_wp2_with (first | (go_at_call 77; (with_reducible refine (impl_inRange.calls (rd s0_1 a1) 0 (wrap64 ((s0_0.length : Int) - 1)) false _ A5.out).mono ?_); rintro e w' ⟨rfl, ⟨nd, rfl⟩⟩; (try first | exact ⟨rfl, _, World.drewN_drewN _ _ _⟩ | exact ⟨rfl, _, Eq.trans (World.drewN_drewN _ _ _) (congrArg (World.drewN _) (Nat.add_assoc _ _ _))⟩)))
  repeat (go_quiet (first | (go_at_call 77; (with_reducible refine (impl_inRange.calls (rd s0_1 a1) 0 (wrap64 ((s0_0.length : Int) - 1)) false _ A5.out).mono ?_); rintro e w' ⟨rfl, ⟨nd, rfl⟩⟩; (try first | exact ⟨rfl, _, World.drewN_drewN _ _ _⟩ | exact ⟨rfl, _, Eq.trans (World.drewN_drewN _ _ _) (congrArg (World.drewN _) (Nat.add_assoc _ _ _))⟩))); try go_wp2_with (first | (go_at_call 77; (with_reducible refine (impl_inRange.calls (rd s0_1 a1) 0 (wrap64 ((s0_0.length : Int) - 1)) false _ A5.out).mono ?_); rintro e w' ⟨rfl, ⟨nd, rfl⟩⟩; (try first | exact ⟨rfl, _, World.drewN_drewN _ _ _⟩ | exact ⟨rfl, _, Eq.trans (World.drewN_drewN _ _ _) (congrArg (World.drewN _) (Nat.add_assoc _ _ _))⟩))))
  go_ret
  exact ⟨ab7, by repeat (first | (with_reducible first | exact HI0.out | apply IsS40.alloc | apply IsS40.drewN | apply IsS40.drew | apply IsS40.set_3 | apply IsS40.set_4) | exact HI0.out), by repeat (first | (with_reducible first | exact HB.out | apply below_alloc | apply pw_below_drewN | apply below_drew1 | refine below_set ?_ (IsS40.ge HI0.out)) | exact HB.out), by repeat (first | (with_reducible first | exact HK.out | apply KeepBut.set_ | apply keep_drewN | apply keep_drew | apply keep_alloc) | exact HK.out)⟩

/-! ### impl_Page_lastName: function 85 -/
def impl_Page_lastName.f (s0_0 : List (S50)) (s0_1 : List Int) (s0_2 : List Int) (s0_3 : Int) (s0_4 : Int) : Option (ByteArray × Int × Int) := if (s0_1.length : Int) = 0 then (some ((⟨#[]⟩ : ByteArray), s0_3, s0_4)) else ((impl_Page_nameOf.f s0_0 s0_1 s0_2 s0_3 s0_4 (wrap64 ((s0_1.length : Int) - 1))).bind fun bt350 => (some (bt350.1, bt350.2.1, bt350.2.2)))
set_option maxHeartbeats 8000000 in
set_option maxRecDepth 100000 in
theorem impl_Page_lastName.calls (g : Nat) (s0_0 : List (S50)) (s0_1 : List Int) (s0_2 : List Int) (s0_3 : Int) (s0_4 : Int) (r1 : ByteArray) (r2 : Int) (r3 : Int) (w0 w : World) (hI : IsS40 w0 w g s0_0 s0_1 s0_2 s0_3 s0_4) (hB : Below w0.heap.size w0 w) (h : impl_Page_lastName.f s0_0 s0_1 s0_2 s0_3 s0_4 = some (r1, r2, r3)) :
  Calls Try.prog 85 #[.pointer (some ⟨g, 0, none⟩)] w fun e w' => e = .returned (.string r1) ∧ IsS40 w0 w' g s0_0 s0_1 s0_2 r2 r3 ∧ Below w0.heap.size w0 w' ∧ KeepBut w w' g none := by
 have HI0 := Aside0.mk hI
 have HK := Aside0.mk (KeepBut.refl w g none)
 have HL := Aside0.mk hB.size
 clear hI
 have HW0 := Aside0.mk hB.size
 have HB := Aside0.mk hB
 clear hB
 have H : (if (s0_1.length : Int) = 0 then (some ((⟨#[]⟩ : ByteArray), s0_3, s0_4)) else ((impl_Page_nameOf.f s0_0 s0_1 s0_2 s0_3 s0_4 (wrap64 ((s0_1.length : Int) - 1))).bind fun bt350 => (some (bt350.1, bt350.2.1, bt350.2.2)))) = some (r1, r2, r3) := h
 clear h
 by_cases c2 : (s0_1.length : Int) = 0
 ·rw [if_pos c2] at H
  have c2b0 : ((s0_1.length : Int) == 0) = true := beq_iff_eq.mpr c2
  have c2b1 : ((s0_1.length : Int) != 0) = false := bne_eq_false_iff_eq.mpr c2
  clear c2
  simp only [Option.some.injEq, Prod.mk.injEq] at H
  obtain ⟨rfl, rfl, rfl⟩ := H
  obtain ⟨ASz3_0, cSz3_0, ASz3_1, cSz3_1, ASz3_2, cSz3_2, HGz3, hgz3, HSz3_0, HSz3_1, HSz3_2⟩ := HI0.out
  have hcz3_0 := cellS40_0 HGz3
  have hcz3_1 := cellS40_1 HGz3
  have hcz3_2 := cellS40_2 HGz3
  have hcz3_3 := cellS40_3 HGz3
  have hcz3_4 := cellS40_4 HGz3
  have hfz3_3 := blk_frozen HGz3 3
  have hfz3_4 := blk_frozen HGz3 4
  clear HGz3 hgz3
  go_enter Try.func85, Try.ntmps85
  go_wp2
  go_ret
  exact ⟨ab7, by repeat (first | (with_reducible first | exact HI0.out | apply IsS40.alloc | apply IsS40.drewN | apply IsS40.drew | apply IsS40.set_3 | apply IsS40.set_4) | exact HI0.out), by repeat (first | (with_reducible first | exact HB.out | apply below_alloc | apply pw_below_drewN | apply below_drew1 | refine below_set ?_ (IsS40.ge HI0.out)) | exact HB.out), by repeat (first | (with_reducible first | exact HK.out | apply KeepBut.set_ | apply keep_drewN | apply keep_drew | apply keep_alloc) | exact HK.out)⟩
 ·rw [if_neg c2] at H
  have c2b0 : ((s0_1.length : Int) == 0) = false := beq_eq_false_iff_ne.mpr c2
  have c2b1 : ((s0_1.length : Int) != 0) = true := bne_iff_ne.mpr c2
  have c2b2 : ¬ (s0_1 = []) := fun h_ => c2 (by rw [h_]; rfl)
  replace H := Option.bind_eq_some_iff.mp H
  obtain ⟨⟨t350, t351, t352⟩, A40, H⟩ := H
  try dsimp only at H
  have A4 := Aside0.mk A40
  clear A40
  simp only [Option.some.injEq, Prod.mk.injEq] at H
  obtain ⟨rfl, rfl, rfl⟩ := H
  obtain ⟨ASz5_0, cSz5_0, ASz5_1, cSz5_1, ASz5_2, cSz5_2, HGz5, hgz5, HSz5_0, HSz5_1, HSz5_2⟩ := HI0.out
  have hcz5_0 := cellS40_0 HGz5
  have hcz5_1 := cellS40_1 HGz5
  have hcz5_2 := cellS40_2 HGz5
  have hcz5_3 := cellS40_3 HGz5
  have hcz5_4 := cellS40_4 HGz5
  have hfz5_3 := blk_frozen HGz5 3
  have hfz5_4 := blk_frozen HGz5 4
  clear HGz5 hgz5
  go_enter Try.func85, Try.ntmps85
  go_wp2_with (first | ((with_reducible refine gate_callee (f := 98) rfl ?_); refine goesL_ (some 16) rfl rfl Try.func98 (by kernel_rfl) rfl #[.pointer (some ⟨g, 0, none⟩), .int .i64 (wrap64 ((s0_1.length : Int) - 1))] rfl ab5 ?_; (with_reducible refine (impl_Page_nameOf.calls g s0_0 s0_1 s0_2 s0_3 s0_4 (wrap64 ((s0_1.length : Int) - 1)) t350 t351 t352 w0 _ ?side1 ?side2 A4.out).mono ?_); (case side1 => repeat (first | (with_reducible first | exact HI0.out | apply IsS40.alloc | apply IsS40.drewN | apply IsS40.drew | apply IsS40.set_3 | apply IsS40.set_4) | exact HI0.out)); (case side2 => repeat (first | (with_reducible first | exact HB.out | apply below_alloc | apply pw_below_drewN | apply below_drew1 | refine below_set ?_ (IsS40.ge HI0.out)) | exact HB.out)); rintro e w6 ⟨rfl, hi, hb, hk⟩; refine ⟨_, rfl, ?_⟩; have n0_ := Aside0.mk (KeepBut.trans (by repeat (first | (with_reducible first | exact HK.out | apply KeepBut.set_ | apply keep_drewN | apply keep_drew | apply keep_alloc) | exact HK.out)) hk (.inl rfl)); have n1_ := Aside0.mk (hb); have n2_ := Aside0.mk (hi); clear HK; clear HB; clear HI0; have HK := n0_; have HB := n1_; have HI0 := n2_; clear n0_ n1_ n2_; (try clear hb); (try clear hb2); (try clear hk); (try clear hi)))
  go_ret
  exact ⟨ab7, by repeat (first | (with_reducible first | exact HI0.out | apply IsS40.alloc | apply IsS40.drewN | apply IsS40.drew | apply IsS40.set_3 | apply IsS40.set_4) | exact HI0.out), by repeat (first | (with_reducible first | exact HB.out | apply below_alloc | apply pw_below_drewN | apply below_drew1 | refine below_set ?_ (IsS40.ge HI0.out)) | exact HB.out), by repeat (first | (with_reducible first | exact HK.out | apply KeepBut.set_ | apply keep_drewN | apply keep_drew | apply keep_alloc) | exact HK.out)⟩

/-! ### impl_Page_inTable: function 53 -/
def impl_Page_inTable.f (s0_0 : List (S50)) (s0_1 : List Int) (s0_2 : List Int) (s0_3 : Int) (s0_4 : Int) : Option (Bool × Int × Int) := (impl_Page_lastName.f s0_0 s0_1 s0_2 s0_3 s0_4).bind fun bt353 => ((impl_isOneOf.f bt353.1 (⟨#[116, 97, 98, 108, 101, 32, 116, 98, 111, 100, 121, 32, 116, 114]⟩ : ByteArray)).bind fun t356 => (some (t356, bt353.2.1, bt353.2.2)))
set_option maxHeartbeats 8000000 in
set_option maxRecDepth 100000 in
theorem impl_Page_inTable.calls (g : Nat) (s0_0 : List (S50)) (s0_1 : List Int) (s0_2 : List Int) (s0_3 : Int) (s0_4 : Int) (r1 : Bool) (r2 : Int) (r3 : Int) (w0 w : World) (hI : IsS40 w0 w g s0_0 s0_1 s0_2 s0_3 s0_4) (hB : Below w0.heap.size w0 w) (M_ : Int) (hm_ : w0.cell? ⟨0, 0, none⟩ = some (.int .i64 M_)) (h : impl_Page_inTable.f s0_0 s0_1 s0_2 s0_3 s0_4 = some (r1, r2, r3)) :
  Calls Try.prog 53 #[.pointer (some ⟨g, 0, none⟩)] w fun e w' => e = .returned (.bool r1) ∧ IsS40 w0 w' g s0_0 s0_1 s0_2 r2 r3 ∧ Below w0.heap.size w0 w' ∧ KeepBut w w' g none := by
 have HI0 := Aside0.mk hI
 have HK := Aside0.mk (KeepBut.refl w g none)
 have HL := Aside0.mk hB.size
 clear hI
 have HW0 := Aside0.mk hB.size
 have HB := Aside0.mk hB
 clear hB
 have HM_ := Aside0.mk hm_
 clear hm_
 have H : ((impl_Page_lastName.f s0_0 s0_1 s0_2 s0_3 s0_4).bind fun bt353 => ((impl_isOneOf.f bt353.1 (⟨#[116, 97, 98, 108, 101, 32, 116, 98, 111, 100, 121, 32, 116, 114]⟩ : ByteArray)).bind fun t356 => (some (t356, bt353.2.1, bt353.2.2)))) = some (r1, r2, r3) := h
 clear h
 replace H := Option.bind_eq_some_iff.mp H
 obtain ⟨⟨t353, t354, t355⟩, A20, H⟩ := H
 try dsimp only at H
 have A2 := Aside0.mk A20
 clear A20
 replace H := Option.bind_eq_some_iff.mp H
 obtain ⟨t356, A30, H⟩ := H
 try dsimp only at H
 have A3 := Aside0.mk A30
 clear A30
 simp only [Option.some.injEq, Prod.mk.injEq] at H
 obtain ⟨rfl, rfl, rfl⟩ := H
 go_enter Try.func53, Try.ntmps53
 go_wp2_with (first | ((with_reducible refine gate_callee (f := 85) rfl ?_); refine goesL_ (some 4) rfl rfl Try.func85 (by kernel_rfl) rfl #[.pointer (some ⟨g, 0, none⟩)] rfl ab5 ?_; (with_reducible refine (impl_Page_lastName.calls g s0_0 s0_1 s0_2 s0_3 s0_4 t353 t354 t355 w0 _ ?side1 ?side2 A2.out).mono ?_); (case side1 => repeat (first | (with_reducible first | exact HI0.out | apply IsS40.alloc | apply IsS40.drewN | apply IsS40.drew | apply IsS40.set_3 | apply IsS40.set_4) | exact HI0.out)); (case side2 => repeat (first | (with_reducible first | exact HB.out | apply below_alloc | apply pw_below_drewN | apply below_drew1 | refine below_set ?_ (IsS40.ge HI0.out)) | exact HB.out)); rintro e w4 ⟨rfl, hi, hb, hk⟩; refine ⟨_, rfl, ?_⟩; have n0_ := Aside0.mk (KeepBut.trans (by repeat (first | (with_reducible first | exact HK.out | apply KeepBut.set_ | apply keep_drewN | apply keep_drew | apply keep_alloc) | exact HK.out)) hk (.inl rfl)); have n1_ := Aside0.mk (hb); have n2_ := Aside0.mk (hi); clear HK; clear HB; clear HI0; have HK := n0_; have HB := n1_; have HI0 := n2_; clear n0_ n1_ n2_; (try clear hb); (try clear hb2); (try clear hk); (try clear hi)) | ((with_reducible refine gate_callee (f := 84) rfl ?_); refine goesL_ (some 5) rfl rfl Try.func84 (by kernel_rfl) rfl #[.string t353, .string (⟨#[116, 97, 98, 108, 101, 32, 116, 98, 111, 100, 121, 32, 116, 114]⟩ : ByteArray)] rfl ab5 ?_; (with_reducible refine (impl_isOneOf.calls t353 (⟨#[116, 97, 98, 108, 101, 32, 116, 98, 111, 100, 121, 32, 116, 114]⟩ : ByteArray) t356 _ M_ ?side1 A3.out).mono ?_); (case side1 => exact pw_cell_below (by repeat (first | (with_reducible first | exact HB.out | apply below_alloc | apply pw_below_drewN | apply below_drew1 | refine below_set ?_ (IsS40.ge HI0.out)) | exact HB.out)) HM_.out); rintro e w' ⟨rfl, ⟨nd, rfl⟩⟩; refine ⟨_, rfl, ?_⟩))
 go_ret
 exact ⟨ab7, by repeat (first | (with_reducible first | exact HI0.out | apply IsS40.alloc | apply IsS40.drewN | apply IsS40.drew | apply IsS40.set_3 | apply IsS40.set_4) | exact HI0.out), by repeat (first | (with_reducible first | exact HB.out | apply below_alloc | apply pw_below_drewN | apply below_drew1 | refine below_set ?_ (IsS40.ge HI0.out)) | exact HB.out), by repeat (first | (with_reducible first | exact HK.out | apply KeepBut.set_ | apply keep_drewN | apply keep_drew | apply keep_alloc) | exact HK.out)⟩

/-! ### impl_Page_last: function 54 -/
def impl_Page_last.f (s0_0 : List (S50)) (s0_1 : List Int) (s0_2 : List Int) (s0_3 : Int) (s0_4 : Int) : Option (Int × Int × Int) := if (s0_1.length : Int) = 0 then (some (0, s0_3, s0_4)) else (if 0 ≤ (wrap64 ((s0_1.length : Int) - 1)) then (if (wrap64 ((s0_1.length : Int) - 1)) < (s0_1.length : Int) then (some (rd s0_1 (wrap64 ((s0_1.length : Int) - 1)), s0_3, s0_4)) else (none)) else (none))
set_option maxHeartbeats 8000000 in
set_option maxRecDepth 100000 in
theorem impl_Page_last.calls (g : Nat) (s0_0 : List (S50)) (s0_1 : List Int) (s0_2 : List Int) (s0_3 : Int) (s0_4 : Int) (r1 : Int) (r2 : Int) (r3 : Int) (w0 w : World) (hI : IsS40 w0 w g s0_0 s0_1 s0_2 s0_3 s0_4) (hB : Below w0.heap.size w0 w) (h : impl_Page_last.f s0_0 s0_1 s0_2 s0_3 s0_4 = some (r1, r2, r3)) :
  Calls Try.prog 54 #[.pointer (some ⟨g, 0, none⟩)] w fun e w' => e = .returned (.int .i64 r1) ∧ IsS40 w0 w' g s0_0 s0_1 s0_2 r2 r3 ∧ Below w0.heap.size w0 w' ∧ KeepBut w w' g none := by
 have HI0 := Aside0.mk hI
 have HK := Aside0.mk (KeepBut.refl w g none)
 have HL := Aside0.mk hB.size
 clear hI
 have HW0 := Aside0.mk hB.size
 have HB := Aside0.mk hB
 clear hB
 have H : (if (s0_1.length : Int) = 0 then (some (0, s0_3, s0_4)) else (if 0 ≤ (wrap64 ((s0_1.length : Int) - 1)) then (if (wrap64 ((s0_1.length : Int) - 1)) < (s0_1.length : Int) then (some (rd s0_1 (wrap64 ((s0_1.length : Int) - 1)), s0_3, s0_4)) else (none)) else (none))) = some (r1, r2, r3) := h
 clear h
 by_cases c2 : (s0_1.length : Int) = 0
 ·rw [if_pos c2] at H
  have c2b0 : ((s0_1.length : Int) == 0) = true := beq_iff_eq.mpr c2
  have c2b1 : ((s0_1.length : Int) != 0) = false := bne_eq_false_iff_eq.mpr c2
  clear c2
  simp only [Option.some.injEq, Prod.mk.injEq] at H
  obtain ⟨rfl, rfl, rfl⟩ := H
  obtain ⟨ASz3_0, cSz3_0, ASz3_1, cSz3_1, ASz3_2, cSz3_2, HGz3, hgz3, HSz3_0, HSz3_1, HSz3_2⟩ := HI0.out
  have hcz3_0 := cellS40_0 HGz3
  have hcz3_1 := cellS40_1 HGz3
  have hcz3_2 := cellS40_2 HGz3
  have hcz3_3 := cellS40_3 HGz3
  have hcz3_4 := cellS40_4 HGz3
  have hfz3_3 := blk_frozen HGz3 3
  have hfz3_4 := blk_frozen HGz3 4
  clear HGz3 hgz3
  go_enter Try.func54, Try.ntmps54
  go_wp2
  repeat (go_quiet (fail); try go_wp2)
  go_ret
  exact ⟨ab7, by repeat (first | (with_reducible first | exact HI0.out | apply IsS40.alloc | apply IsS40.drewN | apply IsS40.drew | apply IsS40.set_3 | apply IsS40.set_4) | exact HI0.out), by repeat (first | (with_reducible first | exact HB.out | apply below_alloc | apply pw_below_drewN | apply below_drew1 | refine below_set ?_ (IsS40.ge HI0.out)) | exact HB.out), by repeat (first | (with_reducible first | exact HK.out | apply KeepBut.set_ | apply keep_drewN | apply keep_drew | apply keep_alloc) | exact HK.out)⟩
 ·rw [if_neg c2] at H
  have c2b0 : ((s0_1.length : Int) == 0) = false := beq_eq_false_iff_ne.mpr c2
  have c2b1 : ((s0_1.length : Int) != 0) = true := bne_iff_ne.mpr c2
  have c2b2 : ¬ (s0_1 = []) := fun h_ => c2 (by rw [h_]; rfl)
  obtain ⟨ji4, hji4⟩ : ∃ j_ : Int, (wrap64 ((s0_1.length : Int) - 1)) = j_ := ⟨_, rfl⟩
  replace H : (if 0 ≤ (ji4) then (if (ji4) < (s0_1.length : Int) then (some (rd s0_1 (ji4), s0_3, s0_4)) else (none)) else (none)) = some (r1, r2, r3) := by first | (rw [hji4] at H; exact H) | (simp only [hji4] at H ⊢; exact H)
  have hji4w : (IntKind.i64.wrap ((s0_1.length : Int) - 1)) = ji4 := (i64_w _).trans hji4
  by_cases c5 : 0 ≤ (ji4)
  case neg => rw [if_neg c5] at H; exact absurd H (by simp)
  rw [if_pos c5] at H
  have c5b0 := decide_eq_true c5
  clear c5
  by_cases c6 : (ji4) < (s0_1.length : Int)
  case neg => rw [if_neg c6] at H; exact absurd H (by simp)
  rw [if_pos c6] at H
  have c6b0 := decide_eq_true c6
  clear c6
  simp only [Option.some.injEq, Prod.mk.injEq] at H
  obtain ⟨rfl, rfl, rfl⟩ := H
  obtain ⟨ASz7_0, cSz7_0, ASz7_1, cSz7_1, ASz7_2, cSz7_2, HGz7, hgz7, HSz7_0, HSz7_1, HSz7_2⟩ := HI0.out
  have hcz7_0 := cellS40_0 HGz7
  have hcz7_1 := cellS40_1 HGz7
  have hcz7_2 := cellS40_2 HGz7
  have hcz7_3 := cellS40_3 HGz7
  have hcz7_4 := cellS40_4 HGz7
  have hfz7_3 := blk_frozen HGz7 3
  have hfz7_4 := blk_frozen HGz7 4
  clear HGz7 hgz7
  have p357 : 0 ≤ ((ji4) : Int) := of_decide_eq_true ab4
  have q357 : (ji4) < (s0_1.length : Int) := of_decide_eq_true ab4
  obtain ⟨ad357, e357, hx357_0⟩ := Kd.at_int HSz7_1 (ji4) p357 q357
  cases e357
  replace hx357_0 := pw_cell_below HB.out hx357_0
  replace p357 := eq_true p357
  replace q357 := eq_true q357
  go_enter Try.func54, Try.ntmps54
  go_wp2
  repeat (go_quiet (fail); try go_wp2)
  go_ret
  exact ⟨by first | rfl | (simp [errW_none, errW_some] <;> rfl) | (simp only [← hji4]; first | rfl | (simp [errW_none, errW_some] <;> rfl)) | (simp [*, errW_none, errW_some] <;> rfl), by repeat (first | (with_reducible first | exact HI0.out | apply IsS40.alloc | apply IsS40.drewN | apply IsS40.drew | apply IsS40.set_3 | apply IsS40.set_4) | exact HI0.out), by repeat (first | (with_reducible first | exact HB.out | apply below_alloc | apply pw_below_drewN | apply below_drew1 | refine below_set ?_ (IsS40.ge HI0.out)) | exact HB.out), by repeat (first | (with_reducible first | exact HK.out | apply KeepBut.set_ | apply keep_drewN | apply keep_drew | apply keep_alloc) | exact HK.out)⟩

-- NOT PRINTED: function 86 (impl_Page_innermost)

-- NOT PRINTED: function 87 (impl_isName)

-- NOT PRINTED: function 55 (impl_Page_tableOpen)

-- NOT PRINTED: function 34 (impl_Page_place)

end Go.Proofs.Ytgljgbkbjlondaa.P
