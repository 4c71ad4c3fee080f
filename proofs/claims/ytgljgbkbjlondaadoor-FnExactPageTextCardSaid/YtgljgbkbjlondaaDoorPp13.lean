-- WRITTEN BY hprint.py, this session's own program, over the kit's printer: not typed by hand; Lean checks it
import Derived.Test.YtgljgbkbjlondaaDoorPp0
import Derived.Test.YtgljgbkbjlondaaDoorPp9
import Derived.Test.YtgljgbkbjlondaaDoorPp11
import Derived.Test.YtgljgbkbjlondaaDoorPp12
namespace Go.Proofs.YtgljgbkbjlondaaDoor.P
open Go.RowKit Go.Proofs.YtgljgbkbjlondaaDoorW.PrintWords Go.Proofs.YtgljgbkbjlondaaDoorW.PrintLast Go.Proofs.YtgljgbkbjlondaaDoorW.PrintMore
attribute [local go_sem] max2_int min2_int max_two min_two max_three min_three max_four min_four   -- for this text's walks alone
set_option linter.unusedVariables false
set_option linter.unusedSimpArgs false

/-! ### impl_TreeOk: function 77 -/
mutual
def impl_TreeOk.j0 : Nat → List (S90) → Bool → Option (Bool)
 | 0, _, _ => none
 | k + 1, x0, x15 => if x15 = true then (some false) else (if 1 ≤ (x0.length : Int) then ((some (x0.drop 1 : List (S90))).bind fun y269 => (impl_TreeOk.l0 k x0 y269 (y269.length : Int) 0)) else (none))
def impl_TreeOk.l0 : Nat → List (S90) → List (S90) → Int → Int → Option (Bool)
 | 0, _, _, _, _ => none
 | k + 1, x0, x17, x18, x19 => if x19 < x18 then (if 0 ≤ x19 then (if x19 < (x17.length : Int) then ((impl_itemOk.f k ((rd_T90 x17 x19).f0) ((rd_T90 x17 x19).f1) ((rd_T90 x17 x19).f2) ((rd_T90 x17 x19).f3) ((rd_T90 x17 x19).f4) ((rd_T90 x17 x19).f5) ((rd_T90 x17 x19).f6)).bind fun t279 => (if t279 = true then ((impl_inRange.f ((rd_T90 x17 x19).f5) 0 (wrap64 ((x0.length : Int) - 1))).bind fun t280 => (if t280 = true then (if 0 ≤ ((rd_T90 x17 x19).f5) then (if ((rd_T90 x17 x19).f5) < (x0.length : Int) then ((impl_hasKids.f ((rd_T90 x0 ((rd_T90 x17 x19).f5)).f0)).bind fun t282 => (if t282 = true then (impl_TreeOk.l0 k x0 x17 x18 (wrap64 (x19 + 1))) else (some false))) else (none)) else (none)) else (some false))) else (some false))) else (none)) else (none)) else ((impl_kidsOk.f k x0).bind fun t273 => (if t273 = true then ((impl_order.f k x0).bind fun t274 => (some ((t274.length : Int) == (x0.length : Int)))) else (some false)))
end
def impl_TreeOk.f (k : Nat) (l0 : List (S90)) : Option (Bool) := (impl_inRange.f (l0.length : Int) 1 3000).bind fun t266 => (if t266 = true then (if 0 < (l0.length : Int) then ((impl_pageOk.f ((rd_T90 l0 0).f0) ((rd_T90 l0 0).f1) ((rd_T90 l0 0).f2) ((rd_T90 l0 0).f3) ((rd_T90 l0 0).f4) ((rd_T90 l0 0).f5) ((rd_T90 l0 0).f6)).bind fun t268 => (impl_TreeOk.j0 k l0 (!t268))) else (none)) else (impl_TreeOk.j0 k l0 true))
theorem impl_TreeOk.mono_l : ∀ k, (∀ y0 y1, LeO (impl_TreeOk.j0 k y0 y1) (impl_TreeOk.j0 (k + 1) y0 y1)) ∧ (∀ y0 y1 y2 y3, LeO (impl_TreeOk.l0 k y0 y1 y2 y3) (impl_TreeOk.l0 (k + 1) y0 y1 y2 y3))
 | 0 => ⟨fun _ _ r h => by simp [impl_TreeOk.j0] at h, fun _ _ _ _ r h => by simp [impl_TreeOk.l0] at h⟩
 | k + 1 => by
  obtain ⟨ih0, ih1⟩ := impl_TreeOk.mono_l k
  refine ⟨?_, ?_⟩
  ·intro y0 y1
   unfold impl_TreeOk.j0
   repeat' first
   | (with_reducible exact ih0 _ _)
   | (with_reducible exact ih1 _ _ _ _)
   | (with_reducible exact impl_itemOk.mono _ _ _ _ _ _ _ _)
   | (with_reducible exact impl_kidsOk.mono _ _)
   | (with_reducible exact impl_order.mono _ _)
   | (with_reducible exact LeO.refl _)
   | (with_reducible exact LeO.none _)
   | (with_reducible refine LeO.ite ?_ ?_)
   | (with_reducible refine LeO.bind ?_ (fun _ => ?_))
  ·intro y0 y1 y2 y3
   unfold impl_TreeOk.l0
   repeat' first
   | (with_reducible exact ih0 _ _)
   | (with_reducible exact ih1 _ _ _ _)
   | (with_reducible exact impl_itemOk.mono _ _ _ _ _ _ _ _)
   | (with_reducible exact impl_kidsOk.mono _ _)
   | (with_reducible exact impl_order.mono _ _)
   | (with_reducible exact LeO.refl _)
   | (with_reducible exact LeO.none _)
   | (with_reducible refine LeO.ite ?_ ?_)
   | (with_reducible refine LeO.bind ?_ (fun _ => ?_))
theorem impl_TreeOk.mono : ∀ a0 k, LeO (impl_TreeOk.f k a0) (impl_TreeOk.f (k + 1) a0) := by
 intro a0 k
 obtain ⟨ih0, ih1⟩ := impl_TreeOk.mono_l k
 unfold impl_TreeOk.f
 repeat' first
   | (with_reducible exact ih0 _ _)
   | (with_reducible exact ih1 _ _ _ _)
   | (with_reducible exact impl_itemOk.mono _ _ _ _ _ _ _ _)
   | (with_reducible exact impl_kidsOk.mono _ _)
   | (with_reducible exact impl_order.mono _ _)
   | (with_reducible exact LeO.refl _)
   | (with_reducible exact LeO.none _)
   | (with_reducible refine LeO.ite ?_ ?_)
   | (with_reducible refine LeO.bind ?_ (fun _ => ?_))
set_option maxHeartbeats 8000000 in
set_option maxRecDepth 100000 in
theorem impl_TreeOk.calls (k : Nat) (A0 : Option Addr) (c0 : Nat) (l0 : List (S90)) (r : Bool) (w : World) (hr0 : Kd.C k90 w A0 l0.length l0) (hc0 : l0.length ≤ c0) (h : impl_TreeOk.f k l0 = some r) :
  Calls Tryd.prog 77 #[.slice A0 l0.length c0] w fun e w' => e = .returned (.bool r) ∧ Below w.heap.size w w' := by
 have hu90 := Tryd.underlying90
 have HR0 := Aside0.mk hr0
 have HC0 := Aside0.mk hc0
 clear hr0 hc0
 have HB := Aside0.mk (Below.refl w.heap.size w)
 have H : ((impl_inRange.f (l0.length : Int) 1 3000).bind fun t266 => (if t266 = true then (if 0 < (l0.length : Int) then ((impl_pageOk.f ((rd_T90 l0 0).f0) ((rd_T90 l0 0).f1) ((rd_T90 l0 0).f2) ((rd_T90 l0 0).f3) ((rd_T90 l0 0).f4) ((rd_T90 l0 0).f5) ((rd_T90 l0 0).f6)).bind fun t268 => (impl_TreeOk.j0 k l0 (!t268))) else (none)) else (impl_TreeOk.j0 k l0 true))) = some r := h
 clear h
 have HC2 := Aside0.mk H
 clear H
 go_enter Tryd.func77, Tryd.ntmps77
 go_upto_region 1 with (fail)
 go_cut [15] (fun v15 wc => ∃ (kq : Nat) (x15_1 : Bool), v15 = .bool x15_1 ∧ Aside0 (impl_TreeOk.j0 kq l0 x15_1 = some r) ∧ Aside0 (kq ≤ k) ∧ Aside0 (Below w.heap.size w wc))
 case first =>
  have H := HC2.out
  clear HC2
  replace H := Option.bind_eq_some_iff.mp H
  obtain ⟨t266, A30, H⟩ := H
  try dsimp only at H
  have A3 := Aside0.mk A30
  clear A30
  by_cases c4 : t266 = true
  ·subst c4
   rw [if_pos rfl] at H
   by_cases c5 : 0 < (l0.length : Int)
   case neg => rw [if_neg c5] at H; exact absurd H (by simp)
   rw [if_pos c5] at H
   have c5b0 := decide_eq_true c5
   have c5b1 : decide (0 < l0.length) = true := decide_eq_true (by omega)
   clear c5
   (first | rw [c5b0] | (simp only [i64_w, i32_w]; rw [c5b0]) | skip)
   (try (generalize hgzc5 : decide (0 < (l0.length : Int)) = bqc5 at *; subst c5b0; have c5b0 := hgzc5; clear hgzc5))
   replace H := Option.bind_eq_some_iff.mp H
   obtain ⟨t268, A60, H⟩ := H
   replace H : (impl_TreeOk.j0 k l0 (!t268)) = some r := by first | exact H | (rw [c5b0]; exact H)
   have A6 := Aside0.mk A60
   clear A60
   have H' := Aside0.mk H
   clear H
   go_wp2_with (first | ((with_reducible refine gate_callee (f := 38) rfl ?_); refine goesL_ (some 7) rfl rfl Tryd.func38 (by kernel_rfl) rfl #[.int .i64 (l0.length : Int), .int .i64 1, .int .i64 3000] rfl ab5 ?_; (with_reducible refine (impl_inRange.calls (l0.length : Int) 1 3000 true _ A3.out).mono ?_); rintro e w' ⟨rfl, ⟨nd, rfl⟩⟩; refine ⟨_, rfl, ?_⟩; have p267 : 0 ≤ (0 : Int) := (by omega); have q267 : 0 < (l0.length : Int) := of_decide_eq_true ab4; obtain ⟨ad267, A267_3, c267_3, A267_6, c267_6, e267, hx267_0, hx267_1, hx267_2, hx267_3, hx267_4, hx267_5, hx267_6, hl267_3, hi267_3, hl267_6, hi267_6⟩ := at_T90 HR0.out 0 p267 q267; cases e267; have qi267 : (0 < l0.length) = True := eq_true (by omega); (try rw [show ((0 : Int)).toNat = 0 from rfl] at hx267_0); (try rw [show 0 * 7 = 0 from rfl] at hx267_0); (try rw [Addr.add_zero'] at hx267_0); (try rw [show ((0 : Int)).toNat = 0 from rfl] at hx267_1); (try rw [show 0 * 7 = 0 from rfl] at hx267_1); (try rw [Addr.add_zero'] at hx267_1); (try rw [show ((0 : Int)).toNat = 0 from rfl] at hx267_2); (try rw [show 0 * 7 = 0 from rfl] at hx267_2); (try rw [Addr.add_zero'] at hx267_2); (try rw [show ((0 : Int)).toNat = 0 from rfl] at hx267_3); (try rw [show 0 * 7 = 0 from rfl] at hx267_3); (try rw [Addr.add_zero'] at hx267_3); (try rw [show ((0 : Int)).toNat = 0 from rfl] at hx267_4); (try rw [show 0 * 7 = 0 from rfl] at hx267_4); (try rw [Addr.add_zero'] at hx267_4); (try rw [show ((0 : Int)).toNat = 0 from rfl] at hx267_5); (try rw [show 0 * 7 = 0 from rfl] at hx267_5); (try rw [Addr.add_zero'] at hx267_5); (try rw [show ((0 : Int)).toNat = 0 from rfl] at hx267_6); (try rw [show 0 * 7 = 0 from rfl] at hx267_6); (try rw [Addr.add_zero'] at hx267_6); replace hx267_0 := pw_cell_below HB.out hx267_0; replace hx267_1 := pw_cell_below HB.out hx267_1; replace hx267_2 := pw_cell_below HB.out hx267_2; replace hx267_3 := pw_cell_below HB.out hx267_3; replace hx267_4 := pw_cell_below HB.out hx267_4; replace hx267_5 := pw_cell_below HB.out hx267_5; replace hx267_6 := pw_cell_below HB.out hx267_6; have HR267_3 := Aside0.mk hi267_3; have HC267_3 := Aside0.mk hl267_3; clear hi267_3 hl267_3; have HR267_6 := Aside0.mk hi267_6; have HC267_6 := Aside0.mk hl267_6; clear hi267_6 hl267_6; replace p267 := eq_true p267; replace q267 := eq_true q267) | (go_at_call 109; (with_reducible refine (impl_pageOk.calls ((rd_T90 l0 0).f0) ((rd_T90 l0 0).f1) ((rd_T90 l0 0).f2) _ _ ((rd_T90 l0 0).f3) ((rd_T90 l0 0).f4) ((rd_T90 l0 0).f5) _ _ ((rd_T90 l0 0).f6) t268 _ ?side1 ?side2 ?side3 ?side4 A6.out).mono ?_); (case side1 => repeat (first | exact (Kd.C_below HR267_3.out ab1) | (with_reducible refine Kd.C_alloc ?_ _) | (with_reducible refine Kd.C_drewN ?_ _) | (with_reducible refine Kd.C_drew ?_))); (case side2 => exact HC267_3.out); (case side3 => repeat (first | exact (Kd.C_below HR267_6.out ab1) | (with_reducible refine Kd.C_alloc ?_ _) | (with_reducible refine Kd.C_drewN ?_ _) | (with_reducible refine Kd.C_drew ?_))); (case side4 => exact HC267_6.out); rintro e w7 ⟨rfl, hb⟩; have n0_ := Aside0.mk (below_step ab1 hb); clear HB; have HB := n0_; clear n0_; (try clear hb); (try clear hb2); (try clear hk); (try clear hi)))
   go_meet
   case rel => exact ⟨_, (!t268), ab6, (by first | exact H' | (have h_ := H'.out; rw [c5b0] at h_; exact ⟨h_⟩)), ⟨by first | omega | exact Nat.le_refl _⟩, ⟨ab1⟩⟩
  ·replace c4 := Bool.eq_false_iff.mpr c4
   subst c4
   rw [if_neg (show ¬ (false = true) by decide)] at H
   have H' := Aside0.mk H
   clear H
   go_wp2_with (first | ((with_reducible refine gate_callee (f := 38) rfl ?_); refine goesL_ (some 7) rfl rfl Tryd.func38 (by kernel_rfl) rfl #[.int .i64 (l0.length : Int), .int .i64 1, .int .i64 3000] rfl ab5 ?_; (with_reducible refine (impl_inRange.calls (l0.length : Int) 1 3000 false _ A3.out).mono ?_); rintro e w' ⟨rfl, ⟨nd, rfl⟩⟩; refine ⟨_, rfl, ?_⟩))
   go_meet
   case rel => exact ⟨_, (true), ab6, H', ⟨by first | omega | exact Nat.le_refl _⟩, ⟨ab1⟩⟩
 case rest =>
  clear HC2
  (try clear c2); (try clear p2); (try clear q2); (try clear hx2); (try clear qi2); (try clear c3); (try clear c4); (try clear c5); (try clear c5b0); (try clear c5b1); (try clear c7); (try clear hx267_0); (try clear hx267_1); (try clear hx267_2); (try clear hx267_3); (try clear hx267_4); (try clear hx267_5); (try clear hx267_6); (try clear p267); (try clear q267)
  obtain ⟨kq, x15_1, rfl, HA, HJ1, HB⟩ := hcut
  cases kq with
  | zero => exact absurd HA.out (by simp [impl_TreeOk.j0])
  | succ kj1 =>
   have H := HA.out
   clear HA
   simp only [impl_TreeOk.j0] at H
   by_cases c8 : x15_1 = true
   ·subst c8
    rw [if_pos rfl] at H
    obtain rfl := Option.some.inj H
    go_wp2
    go_ret
    exact ⟨ab7, ab1⟩
   ·replace c8 := Bool.eq_false_iff.mpr c8
    subst c8
    rw [if_neg (show ¬ (false = true) by decide)] at H
    by_cases c9 : 1 ≤ (l0.length : Int)
    case neg => rw [if_neg c9] at H; exact absurd H (by simp)
    rw [if_pos c9] at H
    have c9b0 := eq_true c9
    have c9b1 := decide_eq_true c9
    clear c9
    obtain ⟨y269, hy269⟩ : ∃ y_ : List (S90), y_ = (l0.drop 1) := ⟨_, rfl⟩
    replace H : (impl_TreeOk.l0 kj1 l0 y269 (y269.length : Int) 0) = some r := by first | (rw [hy269]; with_reducible exact H) | (have H2_ := (Option.bind_some _ _).symm.trans H; rw [hy269]; with_reducible exact H2_) | (have H2_ := (Option.bind_some _ _).symm.trans H; with_reducible exact H2_) | with_reducible exact H | (rw [hy269]; exact H) | exact H
    have Ny269 := Aside0.mk hy269
    clear hy269
    have H' := Aside0.mk H
    clear H
    have q10 : (1 : Int) ≤ ((l0.length : Int) : Int) := of_decide_eq_true ab4
    obtain ⟨i010, hi010, _, hsz10, _⟩ := info_parts info90
    have hroom10 : l0.length ≤ c0 := HC0.out
    have hC10 : Kd.C k90 _ A0 l0.length l0 := HR0.out
    have hcut10 := cut_from (P := Tryd.prog) 46 90 .i64 Tryd.underlying46 hi010 7 hsz10 A0 l0.length c0 1 (by omega) q10
    have hr10 := Kd.C_drop (m := (1 : Int).toNat) (c := c0) hC10 (by omega) hroom10
    obtain ⟨A10, hA10⟩ : ∃ A1, A1 = (if c0 = (1 : Int).toNat then A0 else (A0 : Option Addr).map (·.add ((1 : Int).toNat * 7))) := ⟨_, rfl⟩
    obtain ⟨c10, hc10⟩ : ∃ c1, c1 = c0 - (1 : Int).toNat := ⟨_, rfl⟩
    have hy10 : y269.length = l0.length - (1 : Int).toNat := (by rw [Ny269.out, List.length_drop] <;> omega)
    rw [show (l0).drop (1 : Int).toNat = y269 from Ny269.out.symm] at hr10
    replace hr10 : Kd.C k90 _ A10 y269.length y269 := (by rw [hA10]; exact hr10)
    rw [← hy10, ← hA10, ← hc10] at hcut10
    have HR272 := Aside0.mk hr10
    have HC272 := Aside0.mk (show y269.length ≤ c10 from by rw [hy10, hc10]; exact Nat.sub_le_sub_right hroom10 _)
    clear hr10 hC10 hroom10 hi010 hsz10 hc10
    have KY10 := Aside0.mk hy10
    have KA10 := Aside0.mk hA10
    clear hy10 hA10
    replace q10 := eq_true q10
    go_wp2
    go_loopg [19] kj1 (fun kq v19 w' => ∃ (x19_2 : Int), v19 = .int .i64 x19_2 ∧ Aside0 (impl_TreeOk.l0 kq l0 y269 (y269.length : Int) x19_2 = some r) ∧ Aside0 (kq ≤ kj1) ∧ Aside0 (Below w.heap.size w w'))
    case atStart => exact ⟨(0), ab6, H', ⟨Nat.le_refl _⟩, ⟨ab1⟩⟩
    case round =>
     clear H'
     (try clear c1); (try clear q1); (try clear c2); (try clear p2); (try clear q2); (try clear hx2); (try clear qi2); (try clear c3); (try clear c4); (try clear c5); (try clear c5b0); (try clear c5b1); (try clear c7); (try clear c8); (try clear c9); (try clear c9b0); (try clear c9b1); (try clear c10); (try clear q10); (try clear hx267_0); (try clear hx267_1); (try clear hx267_2); (try clear hx267_3); (try clear hx267_4); (try clear hx267_5); (try clear hx267_6); (try clear p2); (try clear p267); (try clear q10); (try clear q2); (try clear q267)
     obtain ⟨x19_2, rfl, HA, HK2, HB⟩ := hrel
     cases gk with
     | zero => exact absurd HA.out (by simp [impl_TreeOk.l0])
     | succ k2 =>
      have H := HA.out
      clear HA
      simp only [impl_TreeOk.l0] at H
      by_cases c11 : x19_2 < (y269.length : Int)
      ·rw [if_pos c11] at H
       have c11b0 := decide_eq_true c11
       clear c11
       by_cases c12 : 0 ≤ x19_2
       case neg => rw [if_neg c12] at H; exact absurd H (by simp)
       rw [if_pos c12] at H
       have c12b0 := decide_eq_true c12
       clear c12
       by_cases c13 : x19_2 < (y269.length : Int)
       case neg => rw [if_neg c13] at H; exact absurd H (by simp)
       rw [if_pos c13] at H
       have c13b0 := decide_eq_true c13
       clear c13
       replace H := Option.bind_eq_some_iff.mp H
       obtain ⟨t279, A140, H⟩ := H
       try dsimp only at H
       have A14 := Aside0.mk A140
       clear A140
       by_cases c15 : t279 = true
       ·subst c15
        rw [if_pos rfl] at H
        replace H := Option.bind_eq_some_iff.mp H
        obtain ⟨t280, A160, H⟩ := H
        try dsimp only at H
        have A16 := Aside0.mk A160
        clear A160
        by_cases c17 : t280 = true
        ·subst c17
         rw [if_pos rfl] at H
         by_cases c18 : 0 ≤ ((rd_T90 y269 x19_2).f5)
         case neg => rw [if_neg c18] at H; exact absurd H (by simp)
         rw [if_pos c18] at H
         have c18b0 := decide_eq_true c18
         clear c18
         by_cases c19 : ((rd_T90 y269 x19_2).f5) < (l0.length : Int)
         case neg => rw [if_neg c19] at H; exact absurd H (by simp)
         rw [if_pos c19] at H
         have c19b0 := decide_eq_true c19
         clear c19
         replace H := Option.bind_eq_some_iff.mp H
         obtain ⟨t282, A200, H⟩ := H
         try dsimp only at H
         have A20 := Aside0.mk A200
         clear A200
         by_cases c21 : t282 = true
         ·subst c21
          rw [if_pos rfl] at H
          have H' := Aside0.mk H
          clear H
          have p277 : 0 ≤ (x19_2 : Int) := of_decide_eq_true ab4
          have q277 : x19_2 < (y269.length : Int) := of_decide_eq_true ab4
          obtain ⟨ad277, A277_3, c277_3, A277_6, c277_6, e277, hx277_0, hx277_1, hx277_2, hx277_3, hx277_4, hx277_5, hx277_6, hl277_3, hi277_3, hl277_6, hi277_6⟩ := at_T90 HR272.out x19_2 p277 q277
          cases e277
          replace hx277_0 := pw_cell_below HB.out hx277_0
          replace hx277_1 := pw_cell_below HB.out hx277_1
          replace hx277_2 := pw_cell_below HB.out hx277_2
          replace hx277_3 := pw_cell_below HB.out hx277_3
          replace hx277_4 := pw_cell_below HB.out hx277_4
          replace hx277_5 := pw_cell_below HB.out hx277_5
          replace hx277_6 := pw_cell_below HB.out hx277_6
          have HR277_3 := Aside0.mk hi277_3
          have HC277_3 := Aside0.mk hl277_3
          clear hi277_3 hl277_3
          have HR277_6 := Aside0.mk hi277_6
          have HC277_6 := Aside0.mk hl277_6
          clear hi277_6 hl277_6
          replace p277 := eq_true p277
          replace q277 := eq_true q277
          go_wp2_with (first | ((with_reducible refine gate_dst (N := 4) rfl ?_); (try (refine gate_guard (by rfl) ?_; dsimp only)); refine box_event ?hg (N := 4) ?hd (cs := #[.int .i64 0, .int .i64 0, .string (⟨#[]⟩ : ByteArray), .slice none 0 0, .string (⟨#[]⟩ : ByteArray), .int .i64 0, .slice none 0 0]) (t := 90) ?hr ?_; (case hd => rfl); (case hg => rfl); (case hr => first | (go_simp; done) | (go_simp; rfl)); intro gb278 hg w22 hbox hb; have n0_ := Aside0.mk (below_step ab1 hb); have n1_ := Aside0.mk (hbox); have n2_ := Aside0.mk ((by rw [hg]; exact (below_size ab1) : w.heap.size ≤ gb278)); have n3_ := Aside0.mk ((by rw [hg]; exact (below_size ab1) : w.heap.size ≤ gb278)); clear HB; have HB := n0_; have BK278 := n1_; have GW278 := n2_; have GE278 := n3_; clear n0_ n1_ n2_ n3_; clear hb hbox hg; obtain ⟨⟨hcz23_0, hcz23_1, hcz23_2, hcz23_3, hcz23_4, hcz23_5, hcz23_6⟩, hfz23_0, hfz23_1, hfz23_2, hfz23_3, hfz23_4, hfz23_5, hfz23_6⟩ := Op.cells7 BK278.out) | ((with_reducible refine gate_callee (f := 110) rfl ?_); refine goesL_ (some 24) rfl rfl Tryd.func110 (by kernel_rfl) rfl #[.agg #[.int .i64 ((rd_T90 y269 x19_2).f0), .int .i64 ((rd_T90 y269 x19_2).f1), .string ((rd_T90 y269 x19_2).f2), .slice A277_3 ((rd_T90 y269 x19_2).f3).length c277_3, .string ((rd_T90 y269 x19_2).f4), .int .i64 ((rd_T90 y269 x19_2).f5), .slice A277_6 ((rd_T90 y269 x19_2).f6).length c277_6]] rfl ab5 ?_; (with_reducible refine (impl_itemOk.calls k2 ((rd_T90 y269 x19_2).f0) ((rd_T90 y269 x19_2).f1) ((rd_T90 y269 x19_2).f2) _ _ ((rd_T90 y269 x19_2).f3) ((rd_T90 y269 x19_2).f4) ((rd_T90 y269 x19_2).f5) _ _ ((rd_T90 y269 x19_2).f6) true _ ?side1 ?side2 ?side3 ?side4 A14.out).mono ?_); (case side1 => exact Kd.C_below HR277_3.out (ab2 GE278)); (case side2 => exact HC277_3.out); (case side3 => exact Kd.C_below HR277_6.out (ab2 GE278)); (case side4 => exact HC277_6.out); rintro e w24 ⟨rfl, hb⟩; refine ⟨_, rfl, ?_⟩; have n0_ := Aside0.mk (blk_below (g := gb278) (o := .cells #[.int .i64 ((rd_T90 y269 x19_2).f0), .int .i64 ((rd_T90 y269 x19_2).f1), .string ((rd_T90 y269 x19_2).f2), .slice A277_3 ((rd_T90 y269 x19_2).f3).length c277_3, .string ((rd_T90 y269 x19_2).f4), .int .i64 ((rd_T90 y269 x19_2).f5), .slice A277_6 ((rd_T90 y269 x19_2).f6).length c277_6] 90 (0, 0)) (by (with_reducible repeat (first | refine blk_drewN ?_ _ | refine blk_drew ?_ | refine blk_alloc ?_ _)); refine blk_put (cs := #[.int .i64 ((rd_T90 y269 x19_2).f0), .int .i64 ((rd_T90 y269 x19_2).f1), .string ((rd_T90 y269 x19_2).f2), .slice A277_3 ((rd_T90 y269 x19_2).f3).length c277_3, .string ((rd_T90 y269 x19_2).f4), .int .i64 ((rd_T90 y269 x19_2).f5), .slice none 0 0]) ?_ 6 _ rfl; (with_reducible repeat (first | refine blk_drewN ?_ _ | refine blk_drew ?_ | refine blk_alloc ?_ _)); refine blk_put (cs := #[.int .i64 ((rd_T90 y269 x19_2).f0), .int .i64 ((rd_T90 y269 x19_2).f1), .string ((rd_T90 y269 x19_2).f2), .slice A277_3 ((rd_T90 y269 x19_2).f3).length c277_3, .string ((rd_T90 y269 x19_2).f4), .int .i64 0, .slice none 0 0]) ?_ 5 _ rfl; (with_reducible repeat (first | refine blk_drewN ?_ _ | refine blk_drew ?_ | refine blk_alloc ?_ _)); refine blk_put (cs := #[.int .i64 ((rd_T90 y269 x19_2).f0), .int .i64 ((rd_T90 y269 x19_2).f1), .string ((rd_T90 y269 x19_2).f2), .slice A277_3 ((rd_T90 y269 x19_2).f3).length c277_3, .string (⟨#[]⟩ : ByteArray), .int .i64 0, .slice none 0 0]) ?_ 4 _ rfl; (with_reducible repeat (first | refine blk_drewN ?_ _ | refine blk_drew ?_ | refine blk_alloc ?_ _)); refine blk_put (cs := #[.int .i64 ((rd_T90 y269 x19_2).f0), .int .i64 ((rd_T90 y269 x19_2).f1), .string ((rd_T90 y269 x19_2).f2), .slice none 0 0, .string (⟨#[]⟩ : ByteArray), .int .i64 0, .slice none 0 0]) ?_ 3 _ rfl; (with_reducible repeat (first | refine blk_drewN ?_ _ | refine blk_drew ?_ | refine blk_alloc ?_ _)); refine blk_put (cs := #[.int .i64 ((rd_T90 y269 x19_2).f0), .int .i64 ((rd_T90 y269 x19_2).f1), .string (⟨#[]⟩ : ByteArray), .slice none 0 0, .string (⟨#[]⟩ : ByteArray), .int .i64 0, .slice none 0 0]) ?_ 2 _ rfl; (with_reducible repeat (first | refine blk_drewN ?_ _ | refine blk_drew ?_ | refine blk_alloc ?_ _)); refine blk_put (cs := #[.int .i64 ((rd_T90 y269 x19_2).f0), .int .i64 0, .string (⟨#[]⟩ : ByteArray), .slice none 0 0, .string (⟨#[]⟩ : ByteArray), .int .i64 0, .slice none 0 0]) ?_ 1 _ rfl; (with_reducible repeat (first | refine blk_drewN ?_ _ | refine blk_drew ?_ | refine blk_alloc ?_ _)); refine blk_put (cs := #[.int .i64 0, .int .i64 0, .string (⟨#[]⟩ : ByteArray), .slice none 0 0, .string (⟨#[]⟩ : ByteArray), .int .i64 0, .slice none 0 0]) ?_ 0 _ rfl; (with_reducible repeat (first | refine blk_drewN ?_ _ | refine blk_drew ?_ | refine blk_alloc ?_ _)); exact BK278.out) hb); have n1_ := Aside0.mk (below_step (ab2 GE278) hb); clear BK278; clear HB; have BK278 := n0_; have HB := n1_; clear n0_ n1_; (try clear hb); (try clear hb2); (try clear hk); (try clear hi); obtain ⟨⟨hcz25_0, hcz25_1, hcz25_2, hcz25_3, hcz25_4, hcz25_5, hcz25_6⟩, hfz25_0, hfz25_1, hfz25_2, hfz25_3, hfz25_4, hfz25_5, hfz25_6⟩ := Op.cells7 BK278.out) | (go_at_call 38; (with_reducible refine (impl_inRange.calls ((rd_T90 y269 x19_2).f5) 0 (wrap64 ((l0.length : Int) - 1)) true _ A16.out).mono ?_); rintro e w' ⟨rfl, ⟨nd, rfl⟩⟩; have p281 : 0 ≤ (((rd_T90 y269 x19_2).f5) : Int) := of_decide_eq_true ab4; have q281 : ((rd_T90 y269 x19_2).f5) < (l0.length : Int) := of_decide_eq_true ab4; obtain ⟨ad281, A281_3, c281_3, A281_6, c281_6, e281, hx281_0, hx281_1, hx281_2, hx281_3, hx281_4, hx281_5, hx281_6, hl281_3, hi281_3, hl281_6, hi281_6⟩ := at_T90 HR0.out ((rd_T90 y269 x19_2).f5) p281 q281; cases e281; replace hx281_0 := pw_cell_below HB.out hx281_0; replace hx281_1 := pw_cell_below HB.out hx281_1; replace hx281_2 := pw_cell_below HB.out hx281_2; replace hx281_3 := pw_cell_below HB.out hx281_3; replace hx281_4 := pw_cell_below HB.out hx281_4; replace hx281_5 := pw_cell_below HB.out hx281_5; replace hx281_6 := pw_cell_below HB.out hx281_6; have HR281_3 := Aside0.mk hi281_3; have HC281_3 := Aside0.mk hl281_3; clear hi281_3 hl281_3; have HR281_6 := Aside0.mk hi281_6; have HC281_6 := Aside0.mk hl281_6; clear hi281_6 hl281_6; replace p281 := eq_true p281; replace q281 := eq_true q281) | (go_at_call 111; (with_reducible refine (impl_hasKids.calls ((rd_T90 l0 ((rd_T90 y269 x19_2).f5)).f0) true _ A20.out).mono ?_); rintro e w' ⟨rfl, ⟨nd, rfl⟩⟩))
          go_roundg k2
          case measure => have := HJ1.out; have := HK2.out; omega
          case rel => exact ⟨(wrap64 (x19_2 + 1)), ab6, H', ⟨by have := HJ1.out; have := HK2.out; omega⟩, ⟨ab2 GE278⟩⟩
         ·replace c21 := Bool.eq_false_iff.mpr c21
          subst c21
          rw [if_neg (show ¬ (false = true) by decide)] at H
          obtain rfl := Option.some.inj H
          have p277 : 0 ≤ (x19_2 : Int) := of_decide_eq_true ab4
          have q277 : x19_2 < (y269.length : Int) := of_decide_eq_true ab4
          obtain ⟨ad277, A277_3, c277_3, A277_6, c277_6, e277, hx277_0, hx277_1, hx277_2, hx277_3, hx277_4, hx277_5, hx277_6, hl277_3, hi277_3, hl277_6, hi277_6⟩ := at_T90 HR272.out x19_2 p277 q277
          cases e277
          replace hx277_0 := pw_cell_below HB.out hx277_0
          replace hx277_1 := pw_cell_below HB.out hx277_1
          replace hx277_2 := pw_cell_below HB.out hx277_2
          replace hx277_3 := pw_cell_below HB.out hx277_3
          replace hx277_4 := pw_cell_below HB.out hx277_4
          replace hx277_5 := pw_cell_below HB.out hx277_5
          replace hx277_6 := pw_cell_below HB.out hx277_6
          have HR277_3 := Aside0.mk hi277_3
          have HC277_3 := Aside0.mk hl277_3
          clear hi277_3 hl277_3
          have HR277_6 := Aside0.mk hi277_6
          have HC277_6 := Aside0.mk hl277_6
          clear hi277_6 hl277_6
          replace p277 := eq_true p277
          replace q277 := eq_true q277
          go_wp2_with (first | ((with_reducible refine gate_dst (N := 4) rfl ?_); (try (refine gate_guard (by rfl) ?_; dsimp only)); refine box_event ?hg (N := 4) ?hd (cs := #[.int .i64 0, .int .i64 0, .string (⟨#[]⟩ : ByteArray), .slice none 0 0, .string (⟨#[]⟩ : ByteArray), .int .i64 0, .slice none 0 0]) (t := 90) ?hr ?_; (case hd => rfl); (case hg => rfl); (case hr => first | (go_simp; done) | (go_simp; rfl)); intro gb278 hg w26 hbox hb; have n0_ := Aside0.mk (below_step ab1 hb); have n1_ := Aside0.mk (hbox); have n2_ := Aside0.mk ((by rw [hg]; exact (below_size ab1) : w.heap.size ≤ gb278)); have n3_ := Aside0.mk ((by rw [hg]; exact (below_size ab1) : w.heap.size ≤ gb278)); clear HB; have HB := n0_; have BK278 := n1_; have GW278 := n2_; have GE278 := n3_; clear n0_ n1_ n2_ n3_; clear hb hbox hg; obtain ⟨⟨hcz27_0, hcz27_1, hcz27_2, hcz27_3, hcz27_4, hcz27_5, hcz27_6⟩, hfz27_0, hfz27_1, hfz27_2, hfz27_3, hfz27_4, hfz27_5, hfz27_6⟩ := Op.cells7 BK278.out) | ((with_reducible refine gate_callee (f := 110) rfl ?_); refine goesL_ (some 24) rfl rfl Tryd.func110 (by kernel_rfl) rfl #[.agg #[.int .i64 ((rd_T90 y269 x19_2).f0), .int .i64 ((rd_T90 y269 x19_2).f1), .string ((rd_T90 y269 x19_2).f2), .slice A277_3 ((rd_T90 y269 x19_2).f3).length c277_3, .string ((rd_T90 y269 x19_2).f4), .int .i64 ((rd_T90 y269 x19_2).f5), .slice A277_6 ((rd_T90 y269 x19_2).f6).length c277_6]] rfl ab5 ?_; (with_reducible refine (impl_itemOk.calls k2 ((rd_T90 y269 x19_2).f0) ((rd_T90 y269 x19_2).f1) ((rd_T90 y269 x19_2).f2) _ _ ((rd_T90 y269 x19_2).f3) ((rd_T90 y269 x19_2).f4) ((rd_T90 y269 x19_2).f5) _ _ ((rd_T90 y269 x19_2).f6) true _ ?side1 ?side2 ?side3 ?side4 A14.out).mono ?_); (case side1 => exact Kd.C_below HR277_3.out (ab2 GE278)); (case side2 => exact HC277_3.out); (case side3 => exact Kd.C_below HR277_6.out (ab2 GE278)); (case side4 => exact HC277_6.out); rintro e w28 ⟨rfl, hb⟩; refine ⟨_, rfl, ?_⟩; have n0_ := Aside0.mk (blk_below (g := gb278) (o := .cells #[.int .i64 ((rd_T90 y269 x19_2).f0), .int .i64 ((rd_T90 y269 x19_2).f1), .string ((rd_T90 y269 x19_2).f2), .slice A277_3 ((rd_T90 y269 x19_2).f3).length c277_3, .string ((rd_T90 y269 x19_2).f4), .int .i64 ((rd_T90 y269 x19_2).f5), .slice A277_6 ((rd_T90 y269 x19_2).f6).length c277_6] 90 (0, 0)) (by (with_reducible repeat (first | refine blk_drewN ?_ _ | refine blk_drew ?_ | refine blk_alloc ?_ _)); refine blk_put (cs := #[.int .i64 ((rd_T90 y269 x19_2).f0), .int .i64 ((rd_T90 y269 x19_2).f1), .string ((rd_T90 y269 x19_2).f2), .slice A277_3 ((rd_T90 y269 x19_2).f3).length c277_3, .string ((rd_T90 y269 x19_2).f4), .int .i64 ((rd_T90 y269 x19_2).f5), .slice none 0 0]) ?_ 6 _ rfl; (with_reducible repeat (first | refine blk_drewN ?_ _ | refine blk_drew ?_ | refine blk_alloc ?_ _)); refine blk_put (cs := #[.int .i64 ((rd_T90 y269 x19_2).f0), .int .i64 ((rd_T90 y269 x19_2).f1), .string ((rd_T90 y269 x19_2).f2), .slice A277_3 ((rd_T90 y269 x19_2).f3).length c277_3, .string ((rd_T90 y269 x19_2).f4), .int .i64 0, .slice none 0 0]) ?_ 5 _ rfl; (with_reducible repeat (first | refine blk_drewN ?_ _ | refine blk_drew ?_ | refine blk_alloc ?_ _)); refine blk_put (cs := #[.int .i64 ((rd_T90 y269 x19_2).f0), .int .i64 ((rd_T90 y269 x19_2).f1), .string ((rd_T90 y269 x19_2).f2), .slice A277_3 ((rd_T90 y269 x19_2).f3).length c277_3, .string (⟨#[]⟩ : ByteArray), .int .i64 0, .slice none 0 0]) ?_ 4 _ rfl; (with_reducible repeat (first | refine blk_drewN ?_ _ | refine blk_drew ?_ | refine blk_alloc ?_ _)); refine blk_put (cs := #[.int .i64 ((rd_T90 y269 x19_2).f0), .int .i64 ((rd_T90 y269 x19_2).f1), .string ((rd_T90 y269 x19_2).f2), .slice none 0 0, .string (⟨#[]⟩ : ByteArray), .int .i64 0, .slice none 0 0]) ?_ 3 _ rfl; (with_reducible repeat (first | refine blk_drewN ?_ _ | refine blk_drew ?_ | refine blk_alloc ?_ _)); refine blk_put (cs := #[.int .i64 ((rd_T90 y269 x19_2).f0), .int .i64 ((rd_T90 y269 x19_2).f1), .string (⟨#[]⟩ : ByteArray), .slice none 0 0, .string (⟨#[]⟩ : ByteArray), .int .i64 0, .slice none 0 0]) ?_ 2 _ rfl; (with_reducible repeat (first | refine blk_drewN ?_ _ | refine blk_drew ?_ | refine blk_alloc ?_ _)); refine blk_put (cs := #[.int .i64 ((rd_T90 y269 x19_2).f0), .int .i64 0, .string (⟨#[]⟩ : ByteArray), .slice none 0 0, .string (⟨#[]⟩ : ByteArray), .int .i64 0, .slice none 0 0]) ?_ 1 _ rfl; (with_reducible repeat (first | refine blk_drewN ?_ _ | refine blk_drew ?_ | refine blk_alloc ?_ _)); refine blk_put (cs := #[.int .i64 0, .int .i64 0, .string (⟨#[]⟩ : ByteArray), .slice none 0 0, .string (⟨#[]⟩ : ByteArray), .int .i64 0, .slice none 0 0]) ?_ 0 _ rfl; (with_reducible repeat (first | refine blk_drewN ?_ _ | refine blk_drew ?_ | refine blk_alloc ?_ _)); exact BK278.out) hb); have n1_ := Aside0.mk (below_step (ab2 GE278) hb); clear BK278; clear HB; have BK278 := n0_; have HB := n1_; clear n0_ n1_; (try clear hb); (try clear hb2); (try clear hk); (try clear hi); obtain ⟨⟨hcz29_0, hcz29_1, hcz29_2, hcz29_3, hcz29_4, hcz29_5, hcz29_6⟩, hfz29_0, hfz29_1, hfz29_2, hfz29_3, hfz29_4, hfz29_5, hfz29_6⟩ := Op.cells7 BK278.out) | (go_at_call 38; (with_reducible refine (impl_inRange.calls ((rd_T90 y269 x19_2).f5) 0 (wrap64 ((l0.length : Int) - 1)) true _ A16.out).mono ?_); rintro e w' ⟨rfl, ⟨nd, rfl⟩⟩; have p281 : 0 ≤ (((rd_T90 y269 x19_2).f5) : Int) := of_decide_eq_true ab4; have q281 : ((rd_T90 y269 x19_2).f5) < (l0.length : Int) := of_decide_eq_true ab4; obtain ⟨ad281, A281_3, c281_3, A281_6, c281_6, e281, hx281_0, hx281_1, hx281_2, hx281_3, hx281_4, hx281_5, hx281_6, hl281_3, hi281_3, hl281_6, hi281_6⟩ := at_T90 HR0.out ((rd_T90 y269 x19_2).f5) p281 q281; cases e281; replace hx281_0 := pw_cell_below HB.out hx281_0; replace hx281_1 := pw_cell_below HB.out hx281_1; replace hx281_2 := pw_cell_below HB.out hx281_2; replace hx281_3 := pw_cell_below HB.out hx281_3; replace hx281_4 := pw_cell_below HB.out hx281_4; replace hx281_5 := pw_cell_below HB.out hx281_5; replace hx281_6 := pw_cell_below HB.out hx281_6; have HR281_3 := Aside0.mk hi281_3; have HC281_3 := Aside0.mk hl281_3; clear hi281_3 hl281_3; have HR281_6 := Aside0.mk hi281_6; have HC281_6 := Aside0.mk hl281_6; clear hi281_6 hl281_6; replace p281 := eq_true p281; replace q281 := eq_true q281) | (go_at_call 111; (with_reducible refine (impl_hasKids.calls ((rd_T90 l0 ((rd_T90 y269 x19_2).f5)).f0) false _ A20.out).mono ?_); rintro e w' ⟨rfl, ⟨nd, rfl⟩⟩))
          go_ret
          exact ⟨ab7, ab2 GE278⟩
        ·replace c17 := Bool.eq_false_iff.mpr c17
         subst c17
         rw [if_neg (show ¬ (false = true) by decide)] at H
         obtain rfl := Option.some.inj H
         have p277 : 0 ≤ (x19_2 : Int) := of_decide_eq_true ab4
         have q277 : x19_2 < (y269.length : Int) := of_decide_eq_true ab4
         obtain ⟨ad277, A277_3, c277_3, A277_6, c277_6, e277, hx277_0, hx277_1, hx277_2, hx277_3, hx277_4, hx277_5, hx277_6, hl277_3, hi277_3, hl277_6, hi277_6⟩ := at_T90 HR272.out x19_2 p277 q277
         cases e277
         replace hx277_0 := pw_cell_below HB.out hx277_0
         replace hx277_1 := pw_cell_below HB.out hx277_1
         replace hx277_2 := pw_cell_below HB.out hx277_2
         replace hx277_3 := pw_cell_below HB.out hx277_3
         replace hx277_4 := pw_cell_below HB.out hx277_4
         replace hx277_5 := pw_cell_below HB.out hx277_5
         replace hx277_6 := pw_cell_below HB.out hx277_6
         have HR277_3 := Aside0.mk hi277_3
         have HC277_3 := Aside0.mk hl277_3
         clear hi277_3 hl277_3
         have HR277_6 := Aside0.mk hi277_6
         have HC277_6 := Aside0.mk hl277_6
         clear hi277_6 hl277_6
         replace p277 := eq_true p277
         replace q277 := eq_true q277
         go_wp2_with (first | ((with_reducible refine gate_dst (N := 4) rfl ?_); (try (refine gate_guard (by rfl) ?_; dsimp only)); refine box_event ?hg (N := 4) ?hd (cs := #[.int .i64 0, .int .i64 0, .string (⟨#[]⟩ : ByteArray), .slice none 0 0, .string (⟨#[]⟩ : ByteArray), .int .i64 0, .slice none 0 0]) (t := 90) ?hr ?_; (case hd => rfl); (case hg => rfl); (case hr => first | (go_simp; done) | (go_simp; rfl)); intro gb278 hg w30 hbox hb; have n0_ := Aside0.mk (below_step ab1 hb); have n1_ := Aside0.mk (hbox); have n2_ := Aside0.mk ((by rw [hg]; exact (below_size ab1) : w.heap.size ≤ gb278)); have n3_ := Aside0.mk ((by rw [hg]; exact (below_size ab1) : w.heap.size ≤ gb278)); clear HB; have HB := n0_; have BK278 := n1_; have GW278 := n2_; have GE278 := n3_; clear n0_ n1_ n2_ n3_; clear hb hbox hg; obtain ⟨⟨hcz31_0, hcz31_1, hcz31_2, hcz31_3, hcz31_4, hcz31_5, hcz31_6⟩, hfz31_0, hfz31_1, hfz31_2, hfz31_3, hfz31_4, hfz31_5, hfz31_6⟩ := Op.cells7 BK278.out) | ((with_reducible refine gate_callee (f := 110) rfl ?_); refine goesL_ (some 24) rfl rfl Tryd.func110 (by kernel_rfl) rfl #[.agg #[.int .i64 ((rd_T90 y269 x19_2).f0), .int .i64 ((rd_T90 y269 x19_2).f1), .string ((rd_T90 y269 x19_2).f2), .slice A277_3 ((rd_T90 y269 x19_2).f3).length c277_3, .string ((rd_T90 y269 x19_2).f4), .int .i64 ((rd_T90 y269 x19_2).f5), .slice A277_6 ((rd_T90 y269 x19_2).f6).length c277_6]] rfl ab5 ?_; (with_reducible refine (impl_itemOk.calls k2 ((rd_T90 y269 x19_2).f0) ((rd_T90 y269 x19_2).f1) ((rd_T90 y269 x19_2).f2) _ _ ((rd_T90 y269 x19_2).f3) ((rd_T90 y269 x19_2).f4) ((rd_T90 y269 x19_2).f5) _ _ ((rd_T90 y269 x19_2).f6) true _ ?side1 ?side2 ?side3 ?side4 A14.out).mono ?_); (case side1 => exact Kd.C_below HR277_3.out (ab2 GE278)); (case side2 => exact HC277_3.out); (case side3 => exact Kd.C_below HR277_6.out (ab2 GE278)); (case side4 => exact HC277_6.out); rintro e w32 ⟨rfl, hb⟩; refine ⟨_, rfl, ?_⟩; have n0_ := Aside0.mk (blk_below (g := gb278) (o := .cells #[.int .i64 ((rd_T90 y269 x19_2).f0), .int .i64 ((rd_T90 y269 x19_2).f1), .string ((rd_T90 y269 x19_2).f2), .slice A277_3 ((rd_T90 y269 x19_2).f3).length c277_3, .string ((rd_T90 y269 x19_2).f4), .int .i64 ((rd_T90 y269 x19_2).f5), .slice A277_6 ((rd_T90 y269 x19_2).f6).length c277_6] 90 (0, 0)) (by (with_reducible repeat (first | refine blk_drewN ?_ _ | refine blk_drew ?_ | refine blk_alloc ?_ _)); refine blk_put (cs := #[.int .i64 ((rd_T90 y269 x19_2).f0), .int .i64 ((rd_T90 y269 x19_2).f1), .string ((rd_T90 y269 x19_2).f2), .slice A277_3 ((rd_T90 y269 x19_2).f3).length c277_3, .string ((rd_T90 y269 x19_2).f4), .int .i64 ((rd_T90 y269 x19_2).f5), .slice none 0 0]) ?_ 6 _ rfl; (with_reducible repeat (first | refine blk_drewN ?_ _ | refine blk_drew ?_ | refine blk_alloc ?_ _)); refine blk_put (cs := #[.int .i64 ((rd_T90 y269 x19_2).f0), .int .i64 ((rd_T90 y269 x19_2).f1), .string ((rd_T90 y269 x19_2).f2), .slice A277_3 ((rd_T90 y269 x19_2).f3).length c277_3, .string ((rd_T90 y269 x19_2).f4), .int .i64 0, .slice none 0 0]) ?_ 5 _ rfl; (with_reducible repeat (first | refine blk_drewN ?_ _ | refine blk_drew ?_ | refine blk_alloc ?_ _)); refine blk_put (cs := #[.int .i64 ((rd_T90 y269 x19_2).f0), .int .i64 ((rd_T90 y269 x19_2).f1), .string ((rd_T90 y269 x19_2).f2), .slice A277_3 ((rd_T90 y269 x19_2).f3).length c277_3, .string (⟨#[]⟩ : ByteArray), .int .i64 0, .slice none 0 0]) ?_ 4 _ rfl; (with_reducible repeat (first | refine blk_drewN ?_ _ | refine blk_drew ?_ | refine blk_alloc ?_ _)); refine blk_put (cs := #[.int .i64 ((rd_T90 y269 x19_2).f0), .int .i64 ((rd_T90 y269 x19_2).f1), .string ((rd_T90 y269 x19_2).f2), .slice none 0 0, .string (⟨#[]⟩ : ByteArray), .int .i64 0, .slice none 0 0]) ?_ 3 _ rfl; (with_reducible repeat (first | refine blk_drewN ?_ _ | refine blk_drew ?_ | refine blk_alloc ?_ _)); refine blk_put (cs := #[.int .i64 ((rd_T90 y269 x19_2).f0), .int .i64 ((rd_T90 y269 x19_2).f1), .string (⟨#[]⟩ : ByteArray), .slice none 0 0, .string (⟨#[]⟩ : ByteArray), .int .i64 0, .slice none 0 0]) ?_ 2 _ rfl; (with_reducible repeat (first | refine blk_drewN ?_ _ | refine blk_drew ?_ | refine blk_alloc ?_ _)); refine blk_put (cs := #[.int .i64 ((rd_T90 y269 x19_2).f0), .int .i64 0, .string (⟨#[]⟩ : ByteArray), .slice none 0 0, .string (⟨#[]⟩ : ByteArray), .int .i64 0, .slice none 0 0]) ?_ 1 _ rfl; (with_reducible repeat (first | refine blk_drewN ?_ _ | refine blk_drew ?_ | refine blk_alloc ?_ _)); refine blk_put (cs := #[.int .i64 0, .int .i64 0, .string (⟨#[]⟩ : ByteArray), .slice none 0 0, .string (⟨#[]⟩ : ByteArray), .int .i64 0, .slice none 0 0]) ?_ 0 _ rfl; (with_reducible repeat (first | refine blk_drewN ?_ _ | refine blk_drew ?_ | refine blk_alloc ?_ _)); exact BK278.out) hb); have n1_ := Aside0.mk (below_step (ab2 GE278) hb); clear BK278; clear HB; have BK278 := n0_; have HB := n1_; clear n0_ n1_; (try clear hb); (try clear hb2); (try clear hk); (try clear hi); obtain ⟨⟨hcz33_0, hcz33_1, hcz33_2, hcz33_3, hcz33_4, hcz33_5, hcz33_6⟩, hfz33_0, hfz33_1, hfz33_2, hfz33_3, hfz33_4, hfz33_5, hfz33_6⟩ := Op.cells7 BK278.out) | (go_at_call 38; (with_reducible refine (impl_inRange.calls ((rd_T90 y269 x19_2).f5) 0 (wrap64 ((l0.length : Int) - 1)) false _ A16.out).mono ?_); rintro e w' ⟨rfl, ⟨nd, rfl⟩⟩))
         go_ret
         exact ⟨ab7, ab2 GE278⟩
       ·replace c15 := Bool.eq_false_iff.mpr c15
        subst c15
        rw [if_neg (show ¬ (false = true) by decide)] at H
        obtain rfl := Option.some.inj H
        have p277 : 0 ≤ (x19_2 : Int) := of_decide_eq_true ab4
        have q277 : x19_2 < (y269.length : Int) := of_decide_eq_true ab4
        obtain ⟨ad277, A277_3, c277_3, A277_6, c277_6, e277, hx277_0, hx277_1, hx277_2, hx277_3, hx277_4, hx277_5, hx277_6, hl277_3, hi277_3, hl277_6, hi277_6⟩ := at_T90 HR272.out x19_2 p277 q277
        cases e277
        replace hx277_0 := pw_cell_below HB.out hx277_0
        replace hx277_1 := pw_cell_below HB.out hx277_1
        replace hx277_2 := pw_cell_below HB.out hx277_2
        replace hx277_3 := pw_cell_below HB.out hx277_3
        replace hx277_4 := pw_cell_below HB.out hx277_4
        replace hx277_5 := pw_cell_below HB.out hx277_5
        replace hx277_6 := pw_cell_below HB.out hx277_6
        have HR277_3 := Aside0.mk hi277_3
        have HC277_3 := Aside0.mk hl277_3
        clear hi277_3 hl277_3
        have HR277_6 := Aside0.mk hi277_6
        have HC277_6 := Aside0.mk hl277_6
        clear hi277_6 hl277_6
        replace p277 := eq_true p277
        replace q277 := eq_true q277
        go_wp2_with (first | ((with_reducible refine gate_dst (N := 4) rfl ?_); (try (refine gate_guard (by rfl) ?_; dsimp only)); refine box_event ?hg (N := 4) ?hd (cs := #[.int .i64 0, .int .i64 0, .string (⟨#[]⟩ : ByteArray), .slice none 0 0, .string (⟨#[]⟩ : ByteArray), .int .i64 0, .slice none 0 0]) (t := 90) ?hr ?_; (case hd => rfl); (case hg => rfl); (case hr => first | (go_simp; done) | (go_simp; rfl)); intro gb278 hg w34 hbox hb; have n0_ := Aside0.mk (below_step ab1 hb); have n1_ := Aside0.mk (hbox); have n2_ := Aside0.mk ((by rw [hg]; exact (below_size ab1) : w.heap.size ≤ gb278)); have n3_ := Aside0.mk ((by rw [hg]; exact (below_size ab1) : w.heap.size ≤ gb278)); clear HB; have HB := n0_; have BK278 := n1_; have GW278 := n2_; have GE278 := n3_; clear n0_ n1_ n2_ n3_; clear hb hbox hg; obtain ⟨⟨hcz35_0, hcz35_1, hcz35_2, hcz35_3, hcz35_4, hcz35_5, hcz35_6⟩, hfz35_0, hfz35_1, hfz35_2, hfz35_3, hfz35_4, hfz35_5, hfz35_6⟩ := Op.cells7 BK278.out) | ((with_reducible refine gate_callee (f := 110) rfl ?_); refine goesL_ (some 24) rfl rfl Tryd.func110 (by kernel_rfl) rfl #[.agg #[.int .i64 ((rd_T90 y269 x19_2).f0), .int .i64 ((rd_T90 y269 x19_2).f1), .string ((rd_T90 y269 x19_2).f2), .slice A277_3 ((rd_T90 y269 x19_2).f3).length c277_3, .string ((rd_T90 y269 x19_2).f4), .int .i64 ((rd_T90 y269 x19_2).f5), .slice A277_6 ((rd_T90 y269 x19_2).f6).length c277_6]] rfl ab5 ?_; (with_reducible refine (impl_itemOk.calls k2 ((rd_T90 y269 x19_2).f0) ((rd_T90 y269 x19_2).f1) ((rd_T90 y269 x19_2).f2) _ _ ((rd_T90 y269 x19_2).f3) ((rd_T90 y269 x19_2).f4) ((rd_T90 y269 x19_2).f5) _ _ ((rd_T90 y269 x19_2).f6) false _ ?side1 ?side2 ?side3 ?side4 A14.out).mono ?_); (case side1 => exact Kd.C_below HR277_3.out (ab2 GE278)); (case side2 => exact HC277_3.out); (case side3 => exact Kd.C_below HR277_6.out (ab2 GE278)); (case side4 => exact HC277_6.out); rintro e w36 ⟨rfl, hb⟩; refine ⟨_, rfl, ?_⟩; have n0_ := Aside0.mk (blk_below (g := gb278) (o := .cells #[.int .i64 ((rd_T90 y269 x19_2).f0), .int .i64 ((rd_T90 y269 x19_2).f1), .string ((rd_T90 y269 x19_2).f2), .slice A277_3 ((rd_T90 y269 x19_2).f3).length c277_3, .string ((rd_T90 y269 x19_2).f4), .int .i64 ((rd_T90 y269 x19_2).f5), .slice A277_6 ((rd_T90 y269 x19_2).f6).length c277_6] 90 (0, 0)) (by (with_reducible repeat (first | refine blk_drewN ?_ _ | refine blk_drew ?_ | refine blk_alloc ?_ _)); refine blk_put (cs := #[.int .i64 ((rd_T90 y269 x19_2).f0), .int .i64 ((rd_T90 y269 x19_2).f1), .string ((rd_T90 y269 x19_2).f2), .slice A277_3 ((rd_T90 y269 x19_2).f3).length c277_3, .string ((rd_T90 y269 x19_2).f4), .int .i64 ((rd_T90 y269 x19_2).f5), .slice none 0 0]) ?_ 6 _ rfl; (with_reducible repeat (first | refine blk_drewN ?_ _ | refine blk_drew ?_ | refine blk_alloc ?_ _)); refine blk_put (cs := #[.int .i64 ((rd_T90 y269 x19_2).f0), .int .i64 ((rd_T90 y269 x19_2).f1), .string ((rd_T90 y269 x19_2).f2), .slice A277_3 ((rd_T90 y269 x19_2).f3).length c277_3, .string ((rd_T90 y269 x19_2).f4), .int .i64 0, .slice none 0 0]) ?_ 5 _ rfl; (with_reducible repeat (first | refine blk_drewN ?_ _ | refine blk_drew ?_ | refine blk_alloc ?_ _)); refine blk_put (cs := #[.int .i64 ((rd_T90 y269 x19_2).f0), .int .i64 ((rd_T90 y269 x19_2).f1), .string ((rd_T90 y269 x19_2).f2), .slice A277_3 ((rd_T90 y269 x19_2).f3).length c277_3, .string (⟨#[]⟩ : ByteArray), .int .i64 0, .slice none 0 0]) ?_ 4 _ rfl; (with_reducible repeat (first | refine blk_drewN ?_ _ | refine blk_drew ?_ | refine blk_alloc ?_ _)); refine blk_put (cs := #[.int .i64 ((rd_T90 y269 x19_2).f0), .int .i64 ((rd_T90 y269 x19_2).f1), .string ((rd_T90 y269 x19_2).f2), .slice none 0 0, .string (⟨#[]⟩ : ByteArray), .int .i64 0, .slice none 0 0]) ?_ 3 _ rfl; (with_reducible repeat (first | refine blk_drewN ?_ _ | refine blk_drew ?_ | refine blk_alloc ?_ _)); refine blk_put (cs := #[.int .i64 ((rd_T90 y269 x19_2).f0), .int .i64 ((rd_T90 y269 x19_2).f1), .string (⟨#[]⟩ : ByteArray), .slice none 0 0, .string (⟨#[]⟩ : ByteArray), .int .i64 0, .slice none 0 0]) ?_ 2 _ rfl; (with_reducible repeat (first | refine blk_drewN ?_ _ | refine blk_drew ?_ | refine blk_alloc ?_ _)); refine blk_put (cs := #[.int .i64 ((rd_T90 y269 x19_2).f0), .int .i64 0, .string (⟨#[]⟩ : ByteArray), .slice none 0 0, .string (⟨#[]⟩ : ByteArray), .int .i64 0, .slice none 0 0]) ?_ 1 _ rfl; (with_reducible repeat (first | refine blk_drewN ?_ _ | refine blk_drew ?_ | refine blk_alloc ?_ _)); refine blk_put (cs := #[.int .i64 0, .int .i64 0, .string (⟨#[]⟩ : ByteArray), .slice none 0 0, .string (⟨#[]⟩ : ByteArray), .int .i64 0, .slice none 0 0]) ?_ 0 _ rfl; (with_reducible repeat (first | refine blk_drewN ?_ _ | refine blk_drew ?_ | refine blk_alloc ?_ _)); exact BK278.out) hb); have n1_ := Aside0.mk (below_step (ab2 GE278) hb); clear BK278; clear HB; have BK278 := n0_; have HB := n1_; clear n0_ n1_; (try clear hb); (try clear hb2); (try clear hk); (try clear hi)))
        go_ret
        exact ⟨ab7, ab2 GE278⟩
      ·rw [if_neg c11] at H
       have c11b0 := decide_eq_false c11
       clear c11
       replace H := Option.bind_eq_some_iff.mp H
       obtain ⟨t273, A370, H⟩ := H
       try dsimp only at H
       have A37 := Aside0.mk A370
       clear A370
       by_cases c38 : t273 = true
       ·subst c38
        rw [if_pos rfl] at H
        replace H := Option.bind_eq_some_iff.mp H
        obtain ⟨t274, A390, H⟩ := H
        try dsimp only at H
        have A39 := Aside0.mk A390
        clear A390
        obtain rfl := Option.some.inj H
        go_wp2_with (first | ((with_reducible refine gate_callee (f := 112) rfl ?_); refine goesL_ (some 47) rfl rfl Tryd.func112 (by kernel_rfl) rfl #[.slice A0 l0.length c0] rfl ab5 ?_; (with_reducible refine (impl_kidsOk.calls k2 _ _ l0 true _ ?side1 ?side2 A37.out).mono ?_); (case side1 => repeat (first | exact (Kd.C_below HR0.out HB.out) | (with_reducible refine Kd.C_alloc ?_ _) | (with_reducible refine Kd.C_drewN ?_ _) | (with_reducible refine Kd.C_drew ?_))); (case side2 => exact HC0.out); rintro e w40 ⟨rfl, hb⟩; refine ⟨_, rfl, ?_⟩; have n0_ := Aside0.mk (below_step ab1 hb); clear HB; have HB := n0_; clear n0_; (try clear hb); (try clear hb2); (try clear hk); (try clear hi)) | (go_at_call 113; (with_reducible refine (impl_order.calls k2 _ _ l0 t274 _ ?side1 ?side2 A39.out).mono ?_); (case side1 => repeat (first | exact (Kd.C_below HR0.out HB.out) | (with_reducible refine Kd.C_alloc ?_ _) | (with_reducible refine Kd.C_drewN ?_ _) | (with_reducible refine Kd.C_drew ?_))); (case side2 => exact HC0.out); rintro e w41 ⟨v275, rfl, ho0, hb⟩; have n0_ := Aside0.mk (Kd.R_lower ho0 (below_size ab1)); have n1_ := Aside0.mk (below_step ab1 hb); clear HB; have HO276 := n0_; have HB := n1_; clear n0_ n1_; (try clear hb); (try clear hb2); (try clear hk); (try clear hi); (try clear ho0); obtain ⟨Ao42, co42, eo42⟩ := Kd.R_slice HO276.out; subst eo42))
        go_ret
        exact ⟨ab7, ab1⟩
       ·replace c38 := Bool.eq_false_iff.mpr c38
        subst c38
        rw [if_neg (show ¬ (false = true) by decide)] at H
        obtain rfl := Option.some.inj H
        go_wp2_with (first | ((with_reducible refine gate_callee (f := 112) rfl ?_); refine goesL_ (some 47) rfl rfl Tryd.func112 (by kernel_rfl) rfl #[.slice A0 l0.length c0] rfl ab5 ?_; (with_reducible refine (impl_kidsOk.calls k2 _ _ l0 false _ ?side1 ?side2 A37.out).mono ?_); (case side1 => repeat (first | exact (Kd.C_below HR0.out HB.out) | (with_reducible refine Kd.C_alloc ?_ _) | (with_reducible refine Kd.C_drewN ?_ _) | (with_reducible refine Kd.C_drew ?_))); (case side2 => exact HC0.out); rintro e w43 ⟨rfl, hb⟩; refine ⟨_, rfl, ?_⟩; have n0_ := Aside0.mk (below_step ab1 hb); clear HB; have HB := n0_; clear n0_; (try clear hb); (try clear hb2); (try clear hk); (try clear hi)))
        go_ret
        exact ⟨ab7, ab1⟩

end Go.Proofs.YtgljgbkbjlondaaDoor.P
