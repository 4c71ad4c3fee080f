-- WRITTEN BY hprint.py, this session's own program, over the kit's printer: not typed by hand; Lean checks it
import Derived.Test.YtfjheckgigppiaaPg0
import Derived.Test.YtfjheckgigppiaaPg7
import Derived.Test.YtfjheckgigppiaaPg9
import Derived.Test.YtfjheckgigppiaaPg10
namespace Go.Proofs.Ytfjheckgigppiaa.P
open Go.RowKit Go.Proofs.YtfjheckgigppiaaW.PrintWords Go.Proofs.YtfjheckgigppiaaW.PrintLast Go.Proofs.YtfjheckgigppiaaW.PrintMore
attribute [local go_sem] max2_int min2_int max_two min_two max_three min_three max_four min_four   -- for this text's walks alone
set_option linter.unusedVariables false
set_option linter.unusedSimpArgs false

/-! ### impl_TreeOk: function 62 -/
mutual
def impl_TreeOk.j0 : Nat → List (S70) → Bool → Option (Bool)
 | 0, _, _ => none
 | k + 1, x0, x15 => if x15 = true then (some false) else (if 1 ≤ (x0.length : Int) then ((some (x0.drop 1 : List (S70))).bind fun y271 => (impl_TreeOk.l0 k x0 y271 (y271.length : Int) 0)) else (none))
def impl_TreeOk.l0 : Nat → List (S70) → List (S70) → Int → Int → Option (Bool)
 | 0, _, _, _, _ => none
 | k + 1, x0, x17, x18, x19 => if x19 < x18 then (if 0 ≤ x19 then (if x19 < (x17.length : Int) then ((impl_itemOk.f k ((rd_T70 x17 x19).f0) ((rd_T70 x17 x19).f1) ((rd_T70 x17 x19).f2) ((rd_T70 x17 x19).f3) ((rd_T70 x17 x19).f4) ((rd_T70 x17 x19).f5) ((rd_T70 x17 x19).f6)).bind fun t281 => (if t281 = true then ((impl_inRange.f ((rd_T70 x17 x19).f5) 0 (wrap64 ((x0.length : Int) - 1))).bind fun t282 => (if t282 = true then (if 0 ≤ ((rd_T70 x17 x19).f5) then (if ((rd_T70 x17 x19).f5) < (x0.length : Int) then ((impl_hasKids.f ((rd_T70 x0 ((rd_T70 x17 x19).f5)).f0)).bind fun t284 => (if t284 = true then (impl_TreeOk.l0 k x0 x17 x18 (wrap64 (x19 + 1))) else (some false))) else (none)) else (none)) else (some false))) else (some false))) else (none)) else (none)) else ((impl_kidsOk.f k x0).bind fun t275 => (if t275 = true then ((impl_order.f k x0).bind fun t276 => (some ((t276.length : Int) == (x0.length : Int)))) else (some false)))
end
def impl_TreeOk.f (k : Nat) (l0 : List (S70)) : Option (Bool) := (impl_inRange.f (l0.length : Int) 1 3000).bind fun t268 => (if t268 = true then (if 0 < (l0.length : Int) then ((impl_pageOk.f ((rd_T70 l0 0).f0) ((rd_T70 l0 0).f1) ((rd_T70 l0 0).f2) ((rd_T70 l0 0).f3) ((rd_T70 l0 0).f4) ((rd_T70 l0 0).f5) ((rd_T70 l0 0).f6)).bind fun t270 => (impl_TreeOk.j0 k l0 (!t270))) else (none)) else (impl_TreeOk.j0 k l0 true))
theorem impl_TreeOk.mono_l : ∀ k, (∀ y0 y1, LeO (impl_TreeOk.j0 k y0 y1) (impl_TreeOk.j0 (k + 1) y0 y1)) ∧ (∀ y0 y1 y2 y3, LeO (impl_TreeOk.l0 k y0 y1 y2 y3) (impl_TreeOk.l0 (k + 1) y0 y1 y2 y3))
 | 0 => ⟨fun _ _ r h => by simp [impl_TreeOk.j0] at h, fun _ _ _ _ r h => by simp [impl_TreeOk.l0] at h⟩
 | k + 1 => by
  obtain ⟨ih0, ih1⟩ := impl_TreeOk.mono_l k
  refine ⟨?_, ?_⟩
  ·intro y0 y1
   unfold impl_TreeOk.j0
   repeat' first
   | (with_reducible exact ih0 _ _)
   | (with_reducible exact ih1 _ _ _ _)
   | (with_reducible exact impl_itemOk.mono _ _ _ _ _ _ _ _)
   | (with_reducible exact impl_kidsOk.mono _ _)
   | (with_reducible exact impl_order.mono _ _)
   | (with_reducible exact LeO.refl _)
   | (with_reducible exact LeO.none _)
   | (with_reducible refine LeO.ite ?_ ?_)
   | (with_reducible refine LeO.bind ?_ (fun _ => ?_))
  ·intro y0 y1 y2 y3
   unfold impl_TreeOk.l0
   repeat' first
   | (with_reducible exact ih0 _ _)
   | (with_reducible exact ih1 _ _ _ _)
   | (with_reducible exact impl_itemOk.mono _ _ _ _ _ _ _ _)
   | (with_reducible exact impl_kidsOk.mono _ _)
   | (with_reducible exact impl_order.mono _ _)
   | (with_reducible exact LeO.refl _)
   | (with_reducible exact LeO.none _)
   | (with_reducible refine LeO.ite ?_ ?_)
   | (with_reducible refine LeO.bind ?_ (fun _ => ?_))
theorem impl_TreeOk.mono : ∀ a0 k, LeO (impl_TreeOk.f k a0) (impl_TreeOk.f (k + 1) a0) := by
 intro a0 k
 obtain ⟨ih0, ih1⟩ := impl_TreeOk.mono_l k
 unfold impl_TreeOk.f
 repeat' first
   | (with_reducible exact ih0 _ _)
   | (with_reducible exact ih1 _ _ _ _)
   | (with_reducible exact impl_itemOk.mono _ _ _ _ _ _ _ _)
   | (with_reducible exact impl_kidsOk.mono _ _)
   | (with_reducible exact impl_order.mono _ _)
   | (with_reducible exact LeO.refl _)
   | (with_reducible exact LeO.none _)
   | (with_reducible refine LeO.ite ?_ ?_)
   | (with_reducible refine LeO.bind ?_ (fun _ => ?_))
set_option maxHeartbeats 8000000 in
set_option maxRecDepth 100000 in
theorem impl_TreeOk.calls (k : Nat) (A0 : Option Addr) (c0 : Nat) (l0 : List (S70)) (r : Bool) (w : World) (hr0 : Kd.C k70 w A0 l0.length l0) (hc0 : l0.length ≤ c0) (h : impl_TreeOk.f k l0 = some r) :
  Calls Try.prog 62 #[.slice A0 l0.length c0] w fun e w' => e = .returned (.bool r) ∧ Below w.heap.size w w' := by
 have hu70 := Try.underlying70
 have HR0 := Aside0.mk hr0
 have HC0 := Aside0.mk hc0
 clear hr0 hc0
 have HB := Aside0.mk (Below.refl w.heap.size w)
 have H : ((impl_inRange.f (l0.length : Int) 1 3000).bind fun t268 => (if t268 = true then (if 0 < (l0.length : Int) then ((impl_pageOk.f ((rd_T70 l0 0).f0) ((rd_T70 l0 0).f1) ((rd_T70 l0 0).f2) ((rd_T70 l0 0).f3) ((rd_T70 l0 0).f4) ((rd_T70 l0 0).f5) ((rd_T70 l0 0).f6)).bind fun t270 => (impl_TreeOk.j0 k l0 (!t270))) else (none)) else (impl_TreeOk.j0 k l0 true))) = some r := h
 clear h
 have HC2 := Aside0.mk H
 clear H
 go_enter Try.func62, Try.ntmps62
 go_upto_region 1 with (fail)
 go_cut [15] (fun v15 wc => ∃ (kq : Nat) (x15_1 : Bool), v15 = .bool x15_1 ∧ Aside0 (impl_TreeOk.j0 kq l0 x15_1 = some r) ∧ Aside0 (kq ≤ k) ∧ Aside0 (Below w.heap.size w wc))
 case first =>
  have H := HC2.out
  clear HC2
  replace H := Option.bind_eq_some_iff.mp H
  obtain ⟨t268, A30, H⟩ := H
  try dsimp only at H
  have A3 := Aside0.mk A30
  clear A30
  by_cases c4 : t268 = true
  ·subst c4
   rw [if_pos rfl] at H
   by_cases c5 : 0 < (l0.length : Int)
   case neg => rw [if_neg c5] at H; exact absurd H (by simp)
   rw [if_pos c5] at H
   have c5b0 := decide_eq_true c5
   have c5b1 : decide (0 < l0.length) = true := decide_eq_true (by omega)
   clear c5
   (first | rw [c5b0] | (simp only [i64_w, i32_w]; rw [c5b0]) | skip)
   (try (generalize hgzc5 : decide (0 < (l0.length : Int)) = bqc5 at *; subst c5b0; have c5b0 := hgzc5; clear hgzc5))
   replace H := Option.bind_eq_some_iff.mp H
   obtain ⟨t270, A60, H⟩ := H
   replace H : (impl_TreeOk.j0 k l0 (!t270)) = some r := by first | exact H | (rw [c5b0]; exact H)
   have A6 := Aside0.mk A60
   clear A60
   have H' := Aside0.mk H
   clear H
   go_wp2_with (first | ((with_reducible refine gate_callee (f := 67) rfl ?_); refine goesL_ (some 7) rfl rfl Try.func67 (by kernel_rfl) rfl #[.int .i64 (l0.length : Int), .int .i64 1, .int .i64 3000] rfl ab5 ?_; (with_reducible refine (impl_inRange.calls (l0.length : Int) 1 3000 true _ A3.out).mono ?_); rintro e w' ⟨rfl, ⟨nd, rfl⟩⟩; refine ⟨_, rfl, ?_⟩; have p269 : 0 ≤ (0 : Int) := (by omega); have q269 : 0 < (l0.length : Int) := of_decide_eq_true ab4; obtain ⟨ad269, A269_3, c269_3, A269_6, c269_6, e269, hx269_0, hx269_1, hx269_2, hx269_3, hx269_4, hx269_5, hx269_6, hl269_3, hi269_3, hl269_6, hi269_6⟩ := at_T70 HR0.out 0 p269 q269; cases e269; have qi269 : (0 < l0.length) = True := eq_true (by omega); (try rw [show ((0 : Int)).toNat = 0 from rfl] at hx269_0); (try rw [show 0 * 7 = 0 from rfl] at hx269_0); (try rw [Addr.add_zero'] at hx269_0); (try rw [show ((0 : Int)).toNat = 0 from rfl] at hx269_1); (try rw [show 0 * 7 = 0 from rfl] at hx269_1); (try rw [Addr.add_zero'] at hx269_1); (try rw [show ((0 : Int)).toNat = 0 from rfl] at hx269_2); (try rw [show 0 * 7 = 0 from rfl] at hx269_2); (try rw [Addr.add_zero'] at hx269_2); (try rw [show ((0 : Int)).toNat = 0 from rfl] at hx269_3); (try rw [show 0 * 7 = 0 from rfl] at hx269_3); (try rw [Addr.add_zero'] at hx269_3); (try rw [show ((0 : Int)).toNat = 0 from rfl] at hx269_4); (try rw [show 0 * 7 = 0 from rfl] at hx269_4); (try rw [Addr.add_zero'] at hx269_4); (try rw [show ((0 : Int)).toNat = 0 from rfl] at hx269_5); (try rw [show 0 * 7 = 0 from rfl] at hx269_5); (try rw [Addr.add_zero'] at hx269_5); (try rw [show ((0 : Int)).toNat = 0 from rfl] at hx269_6); (try rw [show 0 * 7 = 0 from rfl] at hx269_6); (try rw [Addr.add_zero'] at hx269_6); replace hx269_0 := pw_cell_below HB.out hx269_0; replace hx269_1 := pw_cell_below HB.out hx269_1; replace hx269_2 := pw_cell_below HB.out hx269_2; replace hx269_3 := pw_cell_below HB.out hx269_3; replace hx269_4 := pw_cell_below HB.out hx269_4; replace hx269_5 := pw_cell_below HB.out hx269_5; replace hx269_6 := pw_cell_below HB.out hx269_6; have HR269_3 := Aside0.mk hi269_3; have HC269_3 := Aside0.mk hl269_3; clear hi269_3 hl269_3; have HR269_6 := Aside0.mk hi269_6; have HC269_6 := Aside0.mk hl269_6; clear hi269_6 hl269_6; replace p269 := eq_true p269; replace q269 := eq_true q269) | (go_at_call 104; (with_reducible refine (impl_pageOk.calls ((rd_T70 l0 0).f0) ((rd_T70 l0 0).f1) ((rd_T70 l0 0).f2) _ _ ((rd_T70 l0 0).f3) ((rd_T70 l0 0).f4) ((rd_T70 l0 0).f5) _ _ ((rd_T70 l0 0).f6) t270 _ ?side1 ?side2 ?side3 ?side4 A6.out).mono ?_); (case side1 => repeat (first | exact (Kd.C_below HR269_3.out ab1) | (with_reducible refine Kd.C_alloc ?_ _) | (with_reducible refine Kd.C_drewN ?_ _) | (with_reducible refine Kd.C_drew ?_))); (case side2 => exact HC269_3.out); (case side3 => repeat (first | exact (Kd.C_below HR269_6.out ab1) | (with_reducible refine Kd.C_alloc ?_ _) | (with_reducible refine Kd.C_drewN ?_ _) | (with_reducible refine Kd.C_drew ?_))); (case side4 => exact HC269_6.out); rintro e w7 ⟨rfl, hb⟩; have n0_ := Aside0.mk (below_step ab1 hb); clear HB; have HB := n0_; clear n0_; (try clear hb); (try clear hb2); (try clear hk); (try clear hi)))
   go_meet
   case rel => exact ⟨_, (!t270), ab6, (by first | exact H' | (have h_ := H'.out; rw [c5b0] at h_; exact ⟨h_⟩)), ⟨by first | omega | exact Nat.le_refl _⟩, ⟨ab1⟩⟩
  ·replace c4 := Bool.eq_false_iff.mpr c4
   subst c4
   rw [if_neg (show ¬ (false = true) by decide)] at H
   have H' := Aside0.mk H
   clear H
   go_wp2_with (first | ((with_reducible refine gate_callee (f := 67) rfl ?_); refine goesL_ (some 7) rfl rfl Try.func67 (by kernel_rfl) rfl #[.int .i64 (l0.length : Int), .int .i64 1, .int .i64 3000] rfl ab5 ?_; (with_reducible refine (impl_inRange.calls (l0.length : Int) 1 3000 false _ A3.out).mono ?_); rintro e w' ⟨rfl, ⟨nd, rfl⟩⟩; refine ⟨_, rfl, ?_⟩))
   go_meet
   case rel => exact ⟨_, (true), ab6, H', ⟨by first | omega | exact Nat.le_refl _⟩, ⟨ab1⟩⟩
 case rest =>
  clear HC2
  (try clear c2); (try clear p2); (try clear q2); (try clear hx2); (try clear qi2); (try clear c4); (try clear c5); (try clear c5b0); (try clear c5b1); (try clear c6); (try clear hx269_0); (try clear hx269_1); (try clear hx269_2); (try clear hx269_3); (try clear hx269_4); (try clear hx269_5); (try clear hx269_6); (try clear p269); (try clear q269)
  obtain ⟨kq, x15_1, rfl, HA, HJ1, HB⟩ := hcut
  cases kq with
  | zero => exact absurd HA.out (by simp [impl_TreeOk.j0])
  | succ kj1 =>
   have H := HA.out
   clear HA
   simp only [impl_TreeOk.j0] at H
   by_cases c8 : x15_1 = true
   ·subst c8
    rw [if_pos rfl] at H
    obtain rfl := Option.some.inj H
    go_wp2
    go_ret
    exact ⟨ab7, ab1⟩
   ·replace c8 := Bool.eq_false_iff.mpr c8
    subst c8
    rw [if_neg (show ¬ (false = true) by decide)] at H
    by_cases c9 : 1 ≤ (l0.length : Int)
    case neg => rw [if_neg c9] at H; exact absurd H (by simp)
    rw [if_pos c9] at H
    have c9b0 := eq_true c9
    have c9b1 := decide_eq_true c9
    clear c9
    obtain ⟨y271, hy271⟩ : ∃ y_ : List (S70), y_ = (l0.drop 1) := ⟨_, rfl⟩
    replace H : (impl_TreeOk.l0 kj1 l0 y271 (y271.length : Int) 0) = some r := by first | (rw [hy271]; with_reducible exact H) | (have H2_ := (Option.bind_some _ _).symm.trans H; rw [hy271]; with_reducible exact H2_) | (have H2_ := (Option.bind_some _ _).symm.trans H; with_reducible exact H2_) | with_reducible exact H | (rw [hy271]; exact H) | exact H
    have Ny271 := Aside0.mk hy271
    clear hy271
    have H' := Aside0.mk H
    clear H
    have q10 : (1 : Int) ≤ ((l0.length : Int) : Int) := of_decide_eq_true ab4
    obtain ⟨i010, hi010, _, hsz10, _⟩ := info_parts info70
    have hroom10 : l0.length ≤ c0 := HC0.out
    have hC10 : Kd.C k70 _ A0 l0.length l0 := HR0.out
    have hcut10 := cut_from (P := Try.prog) 30 70 .i64 Try.underlying30 hi010 7 hsz10 A0 l0.length c0 1 (by omega) q10
    have hr10 := Kd.C_drop (m := (1 : Int).toNat) (c := c0) hC10 (by omega) hroom10
    obtain ⟨A10, hA10⟩ : ∃ A1, A1 = (if c0 = (1 : Int).toNat then A0 else (A0 : Option Addr).map (·.add ((1 : Int).toNat * 7))) := ⟨_, rfl⟩
    obtain ⟨c10, hc10⟩ : ∃ c1, c1 = c0 - (1 : Int).toNat := ⟨_, rfl⟩
    have hy10 : y271.length = l0.length - (1 : Int).toNat := (by rw [Ny271.out, List.length_drop] <;> omega)
    rw [show (l0).drop (1 : Int).toNat = y271 from Ny271.out.symm] at hr10
    replace hr10 : Kd.C k70 _ A10 y271.length y271 := (by rw [hA10]; exact hr10)
    rw [← hy10, ← hA10, ← hc10] at hcut10
    have HR274 := Aside0.mk hr10
    have HC274 := Aside0.mk (show y271.length ≤ c10 from by rw [hy10, hc10]; exact Nat.sub_le_sub_right hroom10 _)
    clear hr10 hC10 hroom10 hi010 hsz10 hc10
    have KY10 := Aside0.mk hy10
    have KA10 := Aside0.mk hA10
    clear hy10 hA10
    replace q10 := eq_true q10
    go_wp2
    go_loopg [19] kj1 (fun kq v19 w' => ∃ (x19_2 : Int), v19 = .int .i64 x19_2 ∧ Aside0 (impl_TreeOk.l0 kq l0 y271 (y271.length : Int) x19_2 = some r) ∧ Aside0 (kq ≤ kj1) ∧ Aside0 (Below w.heap.size w w'))
    case atStart => exact ⟨(0), ab6, H', ⟨Nat.le_refl _⟩, ⟨ab1⟩⟩
    case round =>
     clear H'
     (try clear c1); (try clear q1); (try clear c2); (try clear p2); (try clear q2); (try clear hx2); (try clear qi2); (try clear c4); (try clear c5); (try clear c5b0); (try clear c5b1); (try clear c6); (try clear c8); (try clear c9); (try clear c9b0); (try clear c9b1); (try clear c10); (try clear q10); (try clear hx269_0); (try clear hx269_1); (try clear hx269_2); (try clear hx269_3); (try clear hx269_4); (try clear hx269_5); (try clear hx269_6); (try clear p2); (try clear p269); (try clear q10); (try clear q2); (try clear q269)
     obtain ⟨x19_2, rfl, HA, HK2, HB⟩ := hrel
     cases gk with
     | zero => exact absurd HA.out (by simp [impl_TreeOk.l0])
     | succ k2 =>
      have H := HA.out
      clear HA
      simp only [impl_TreeOk.l0] at H
      by_cases c11 : x19_2 < (y271.length : Int)
      ·rw [if_pos c11] at H
       have c11b0 := decide_eq_true c11
       clear c11
       by_cases c12 : 0 ≤ x19_2
       case neg => rw [if_neg c12] at H; exact absurd H (by simp)
       rw [if_pos c12] at H
       have c12b0 := decide_eq_true c12
       clear c12
       by_cases c13 : x19_2 < (y271.length : Int)
       case neg => rw [if_neg c13] at H; exact absurd H (by simp)
       rw [if_pos c13] at H
       have c13b0 := decide_eq_true c13
       clear c13
       replace H := Option.bind_eq_some_iff.mp H
       obtain ⟨t281, A140, H⟩ := H
       try dsimp only at H
       have A14 := Aside0.mk A140
       clear A140
       by_cases c15 : t281 = true
       ·subst c15
        rw [if_pos rfl] at H
        replace H := Option.bind_eq_some_iff.mp H
        obtain ⟨t282, A160, H⟩ := H
        try dsimp only at H
        have A16 := Aside0.mk A160
        clear A160
        by_cases c17 : t282 = true
        ·subst c17
         rw [if_pos rfl] at H
         by_cases c18 : 0 ≤ ((rd_T70 y271 x19_2).f5)
         case neg => rw [if_neg c18] at H; exact absurd H (by simp)
         rw [if_pos c18] at H
         have c18b0 := decide_eq_true c18
         clear c18
         by_cases c19 : ((rd_T70 y271 x19_2).f5) < (l0.length : Int)
         case neg => rw [if_neg c19] at H; exact absurd H (by simp)
         rw [if_pos c19] at H
         have c19b0 := decide_eq_true c19
         clear c19
         replace H := Option.bind_eq_some_iff.mp H
         obtain ⟨t284, A200, H⟩ := H
         try dsimp only at H
         have A20 := Aside0.mk A200
         clear A200
         by_cases c21 : t284 = true
         ·subst c21
          rw [if_pos rfl] at H
          have H' := Aside0.mk H
          clear H
          have p279 : 0 ≤ (x19_2 : Int) := of_decide_eq_true ab4
          have q279 : x19_2 < (y271.length : Int) := of_decide_eq_true ab4
          obtain ⟨ad279, A279_3, c279_3, A279_6, c279_6, e279, hx279_0, hx279_1, hx279_2, hx279_3, hx279_4, hx279_5, hx279_6, hl279_3, hi279_3, hl279_6, hi279_6⟩ := at_T70 HR274.out x19_2 p279 q279
          cases e279
          replace hx279_0 := pw_cell_below HB.out hx279_0
          replace hx279_1 := pw_cell_below HB.out hx279_1
          replace hx279_2 := pw_cell_below HB.out hx279_2
          replace hx279_3 := pw_cell_below HB.out hx279_3
          replace hx279_4 := pw_cell_below HB.out hx279_4
          replace hx279_5 := pw_cell_below HB.out hx279_5
          replace hx279_6 := pw_cell_below HB.out hx279_6
          have HR279_3 := Aside0.mk hi279_3
          have HC279_3 := Aside0.mk hl279_3
          clear hi279_3 hl279_3
          have HR279_6 := Aside0.mk hi279_6
          have HC279_6 := Aside0.mk hl279_6
          clear hi279_6 hl279_6
          replace p279 := eq_true p279
          replace q279 := eq_true q279
          go_wp2_with (first | ((with_reducible refine gate_dst (N := 4) rfl ?_); (try (refine gate_guard (by rfl) ?_; dsimp only)); refine box_event ?hg (N := 4) ?hd (cs := #[.int .i64 0, .int .i64 0, .string (⟨#[]⟩ : ByteArray), .slice none 0 0, .string (⟨#[]⟩ : ByteArray), .int .i64 0, .slice none 0 0]) (t := 70) ?hr ?_; (case hd => rfl); (case hg => rfl); (case hr => first | (go_simp; done) | (go_simp; rfl)); intro gb280 hg w22 hbox hb; have n0_ := Aside0.mk (below_step ab1 hb); have n1_ := Aside0.mk (hbox); have n2_ := Aside0.mk ((by rw [hg]; exact (below_size ab1) : w.heap.size ≤ gb280)); have n3_ := Aside0.mk ((by rw [hg]; exact (below_size ab1) : w.heap.size ≤ gb280)); clear HB; have HB := n0_; have BK280 := n1_; have GW280 := n2_; have GE280 := n3_; clear n0_ n1_ n2_ n3_; clear hb hbox hg; obtain ⟨⟨hcz23_0, hcz23_1, hcz23_2, hcz23_3, hcz23_4, hcz23_5, hcz23_6⟩, hfz23_0, hfz23_1, hfz23_2, hfz23_3, hfz23_4, hfz23_5, hfz23_6⟩ := Op.cells7 BK280.out) | ((with_reducible refine gate_callee (f := 105) rfl ?_); refine goesL_ (some 24) rfl rfl Try.func105 (by kernel_rfl) rfl #[.agg #[.int .i64 ((rd_T70 y271 x19_2).f0), .int .i64 ((rd_T70 y271 x19_2).f1), .string ((rd_T70 y271 x19_2).f2), .slice A279_3 ((rd_T70 y271 x19_2).f3).length c279_3, .string ((rd_T70 y271 x19_2).f4), .int .i64 ((rd_T70 y271 x19_2).f5), .slice A279_6 ((rd_T70 y271 x19_2).f6).length c279_6]] rfl ab5 ?_; (with_reducible refine (impl_itemOk.calls k2 ((rd_T70 y271 x19_2).f0) ((rd_T70 y271 x19_2).f1) ((rd_T70 y271 x19_2).f2) _ _ ((rd_T70 y271 x19_2).f3) ((rd_T70 y271 x19_2).f4) ((rd_T70 y271 x19_2).f5) _ _ ((rd_T70 y271 x19_2).f6) true _ ?side1 ?side2 ?side3 ?side4 A14.out).mono ?_); (case side1 => exact Kd.C_below HR279_3.out (ab2 GE280)); (case side2 => exact HC279_3.out); (case side3 => exact Kd.C_below HR279_6.out (ab2 GE280)); (case side4 => exact HC279_6.out); rintro e w24 ⟨rfl, hb⟩; refine ⟨_, rfl, ?_⟩; have n0_ := Aside0.mk (blk_below (g := gb280) (o := .cells #[.int .i64 ((rd_T70 y271 x19_2).f0), .int .i64 ((rd_T70 y271 x19_2).f1), .string ((rd_T70 y271 x19_2).f2), .slice A279_3 ((rd_T70 y271 x19_2).f3).length c279_3, .string ((rd_T70 y271 x19_2).f4), .int .i64 ((rd_T70 y271 x19_2).f5), .slice A279_6 ((rd_T70 y271 x19_2).f6).length c279_6] 70 (0, 0)) (by (with_reducible repeat (first | refine blk_drewN ?_ _ | refine blk_drew ?_ | refine blk_alloc ?_ _)); refine blk_put (cs := #[.int .i64 ((rd_T70 y271 x19_2).f0), .int .i64 ((rd_T70 y271 x19_2).f1), .string ((rd_T70 y271 x19_2).f2), .slice A279_3 ((rd_T70 y271 x19_2).f3).length c279_3, .string ((rd_T70 y271 x19_2).f4), .int .i64 ((rd_T70 y271 x19_2).f5), .slice none 0 0]) ?_ 6 _ rfl; (with_reducible repeat (first | refine blk_drewN ?_ _ | refine blk_drew ?_ | refine blk_alloc ?_ _)); refine blk_put (cs := #[.int .i64 ((rd_T70 y271 x19_2).f0), .int .i64 ((rd_T70 y271 x19_2).f1), .string ((rd_T70 y271 x19_2).f2), .slice A279_3 ((rd_T70 y271 x19_2).f3).length c279_3, .string ((rd_T70 y271 x19_2).f4), .int .i64 0, .slice none 0 0]) ?_ 5 _ rfl; (with_reducible repeat (first | refine blk_drewN ?_ _ | refine blk_drew ?_ | refine blk_alloc ?_ _)); refine blk_put (cs := #[.int .i64 ((rd_T70 y271 x19_2).f0), .int .i64 ((rd_T70 y271 x19_2).f1), .string ((rd_T70 y271 x19_2).f2), .slice A279_3 ((rd_T70 y271 x19_2).f3).length c279_3, .string (⟨#[]⟩ : ByteArray), .int .i64 0, .slice none 0 0]) ?_ 4 _ rfl; (with_reducible repeat (first | refine blk_drewN ?_ _ | refine blk_drew ?_ | refine blk_alloc ?_ _)); refine blk_put (cs := #[.int .i64 ((rd_T70 y271 x19_2).f0), .int .i64 ((rd_T70 y271 x19_2).f1), .string ((rd_T70 y271 x19_2).f2), .slice none 0 0, .string (⟨#[]⟩ : ByteArray), .int .i64 0, .slice none 0 0]) ?_ 3 _ rfl; (with_reducible repeat (first | refine blk_drewN ?_ _ | refine blk_drew ?_ | refine blk_alloc ?_ _)); refine blk_put (cs := #[.int .i64 ((rd_T70 y271 x19_2).f0), .int .i64 ((rd_T70 y271 x19_2).f1), .string (⟨#[]⟩ : ByteArray), .slice none 0 0, .string (⟨#[]⟩ : ByteArray), .int .i64 0, .slice none 0 0]) ?_ 2 _ rfl; (with_reducible repeat (first | refine blk_drewN ?_ _ | refine blk_drew ?_ | refine blk_alloc ?_ _)); refine blk_put (cs := #[.int .i64 ((rd_T70 y271 x19_2).f0), .int .i64 0, .string (⟨#[]⟩ : ByteArray), .slice none 0 0, .string (⟨#[]⟩ : ByteArray), .int .i64 0, .slice none 0 0]) ?_ 1 _ rfl; (with_reducible repeat (first | refine blk_drewN ?_ _ | refine blk_drew ?_ | refine blk_alloc ?_ _)); refine blk_put (cs := #[.int .i64 0, .int .i64 0, .string (⟨#[]⟩ : ByteArray), .slice none 0 0, .string (⟨#[]⟩ : ByteArray), .int .i64 0, .slice none 0 0]) ?_ 0 _ rfl; (with_reducible repeat (first | refine blk_drewN ?_ _ | refine blk_drew ?_ | refine blk_alloc ?_ _)); exact BK280.out) hb); have n1_ := Aside0.mk (below_step (ab2 GE280) hb); clear BK280; clear HB; have BK280 := n0_; have HB := n1_; clear n0_ n1_; (try clear hb); (try clear hb2); (try clear hk); (try clear hi); obtain ⟨⟨hcz25_0, hcz25_1, hcz25_2, hcz25_3, hcz25_4, hcz25_5, hcz25_6⟩, hfz25_0, hfz25_1, hfz25_2, hfz25_3, hfz25_4, hfz25_5, hfz25_6⟩ := Op.cells7 BK280.out) | (go_at_call 67; (with_reducible refine (impl_inRange.calls ((rd_T70 y271 x19_2).f5) 0 (wrap64 ((l0.length : Int) - 1)) true _ A16.out).mono ?_); rintro e w' ⟨rfl, ⟨nd, rfl⟩⟩; have p283 : 0 ≤ (((rd_T70 y271 x19_2).f5) : Int) := of_decide_eq_true ab4; have q283 : ((rd_T70 y271 x19_2).f5) < (l0.length : Int) := of_decide_eq_true ab4; obtain ⟨ad283, A283_3, c283_3, A283_6, c283_6, e283, hx283_0, hx283_1, hx283_2, hx283_3, hx283_4, hx283_5, hx283_6, hl283_3, hi283_3, hl283_6, hi283_6⟩ := at_T70 HR0.out ((rd_T70 y271 x19_2).f5) p283 q283; cases e283; replace hx283_0 := pw_cell_below HB.out hx283_0; replace hx283_1 := pw_cell_below HB.out hx283_1; replace hx283_2 := pw_cell_below HB.out hx283_2; replace hx283_3 := pw_cell_below HB.out hx283_3; replace hx283_4 := pw_cell_below HB.out hx283_4; replace hx283_5 := pw_cell_below HB.out hx283_5; replace hx283_6 := pw_cell_below HB.out hx283_6; have HR283_3 := Aside0.mk hi283_3; have HC283_3 := Aside0.mk hl283_3; clear hi283_3 hl283_3; have HR283_6 := Aside0.mk hi283_6; have HC283_6 := Aside0.mk hl283_6; clear hi283_6 hl283_6; replace p283 := eq_true p283; replace q283 := eq_true q283) | (go_at_call 106; (with_reducible refine (impl_hasKids.calls ((rd_T70 l0 ((rd_T70 y271 x19_2).f5)).f0) true _ A20.out).mono ?_); rintro e w' ⟨rfl, ⟨nd, rfl⟩⟩))
          go_roundg k2
          case measure => have := HJ1.out; have := HK2.out; omega
          case rel => exact ⟨(wrap64 (x19_2 + 1)), ab6, H', ⟨by have := HJ1.out; have := HK2.out; omega⟩, ⟨ab2 GE280⟩⟩
         ·replace c21 := Bool.eq_false_iff.mpr c21
          subst c21
          rw [if_neg (show ¬ (false = true) by decide)] at H
          obtain rfl := Option.some.inj H
          have p279 : 0 ≤ (x19_2 : Int) := of_decide_eq_true ab4
          have q279 : x19_2 < (y271.length : Int) := of_decide_eq_true ab4
          obtain ⟨ad279, A279_3, c279_3, A279_6, c279_6, e279, hx279_0, hx279_1, hx279_2, hx279_3, hx279_4, hx279_5, hx279_6, hl279_3, hi279_3, hl279_6, hi279_6⟩ := at_T70 HR274.out x19_2 p279 q279
          cases e279
          replace hx279_0 := pw_cell_below HB.out hx279_0
          replace hx279_1 := pw_cell_below HB.out hx279_1
          replace hx279_2 := pw_cell_below HB.out hx279_2
          replace hx279_3 := pw_cell_below HB.out hx279_3
          replace hx279_4 := pw_cell_below HB.out hx279_4
          replace hx279_5 := pw_cell_below HB.out hx279_5
          replace hx279_6 := pw_cell_below HB.out hx279_6
          have HR279_3 := Aside0.mk hi279_3
          have HC279_3 := Aside0.mk hl279_3
          clear hi279_3 hl279_3
          have HR279_6 := Aside0.mk hi279_6
          have HC279_6 := Aside0.mk hl279_6
          clear hi279_6 hl279_6
          replace p279 := eq_true p279
          replace q279 := eq_true q279
          go_wp2_with (first | ((with_reducible refine gate_dst (N := 4) rfl ?_); (try (refine gate_guard (by rfl) ?_; dsimp only)); refine box_event ?hg (N := 4) ?hd (cs := #[.int .i64 0, .int .i64 0, .string (⟨#[]⟩ : ByteArray), .slice none 0 0, .string (⟨#[]⟩ : ByteArray), .int .i64 0, .slice none 0 0]) (t := 70) ?hr ?_; (case hd => rfl); (case hg => rfl); (case hr => first | (go_simp; done) | (go_simp; rfl)); intro gb280 hg w26 hbox hb; have n0_ := Aside0.mk (below_step ab1 hb); have n1_ := Aside0.mk (hbox); have n2_ := Aside0.mk ((by rw [hg]; exact (below_size ab1) : w.heap.size ≤ gb280)); have n3_ := Aside0.mk ((by rw [hg]; exact (below_size ab1) : w.heap.size ≤ gb280)); clear HB; have HB := n0_; have BK280 := n1_; have GW280 := n2_; have GE280 := n3_; clear n0_ n1_ n2_ n3_; clear hb hbox hg; obtain ⟨⟨hcz27_0, hcz27_1, hcz27_2, hcz27_3, hcz27_4, hcz27_5, hcz27_6⟩, hfz27_0, hfz27_1, hfz27_2, hfz27_3, hfz27_4, hfz27_5, hfz27_6⟩ := Op.cells7 BK280.out) | ((with_reducible refine gate_callee (f := 105) rfl ?_); refine goesL_ (some 24) rfl rfl Try.func105 (by kernel_rfl) rfl #[.agg #[.int .i64 ((rd_T70 y271 x19_2).f0), .int .i64 ((rd_T70 y271 x19_2).f1), .string ((rd_T70 y271 x19_2).f2), .slice A279_3 ((rd_T70 y271 x19_2).f3).length c279_3, .string ((rd_T70 y271 x19_2).f4), .int .i64 ((rd_T70 y271 x19_2).f5), .slice A279_6 ((rd_T70 y271 x19_2).f6).length c279_6]] rfl ab5 ?_; (with_reducible refine (impl_itemOk.calls k2 ((rd_T70 y271 x19_2).f0) ((rd_T70 y271 x19_2).f1) ((rd_T70 y271 x19_2).f2) _ _ ((rd_T70 y271 x19_2).f3) ((rd_T70 y271 x19_2).f4) ((rd_T70 y271 x19_2).f5) _ _ ((rd_T70 y271 x19_2).f6) true _ ?side1 ?side2 ?side3 ?side4 A14.out).mono ?_); (case side1 => exact Kd.C_below HR279_3.out (ab2 GE280)); (case side2 => exact HC279_3.out); (case side3 => exact Kd.C_below HR279_6.out (ab2 GE280)); (case side4 => exact HC279_6.out); rintro e w28 ⟨rfl, hb⟩; refine ⟨_, rfl, ?_⟩; have n0_ := Aside0.mk (blk_below (g := gb280) (o := .cells #[.int .i64 ((rd_T70 y271 x19_2).f0), .int .i64 ((rd_T70 y271 x19_2).f1), .string ((rd_T70 y271 x19_2).f2), .slice A279_3 ((rd_T70 y271 x19_2).f3).length c279_3, .string ((rd_T70 y271 x19_2).f4), .int .i64 ((rd_T70 y271 x19_2).f5), .slice A279_6 ((rd_T70 y271 x19_2).f6).length c279_6] 70 (0, 0)) (by (with_reducible repeat (first | refine blk_drewN ?_ _ | refine blk_drew ?_ | refine blk_alloc ?_ _)); refine blk_put (cs := #[.int .i64 ((rd_T70 y271 x19_2).f0), .int .i64 ((rd_T70 y271 x19_2).f1), .string ((rd_T70 y271 x19_2).f2), .slice A279_3 ((rd_T70 y271 x19_2).f3).length c279_3, .string ((rd_T70 y271 x19_2).f4), .int .i64 ((rd_T70 y271 x19_2).f5), .slice none 0 0]) ?_ 6 _ rfl; (with_reducible repeat (first | refine blk_drewN ?_ _ | refine blk_drew ?_ | refine blk_alloc ?_ _)); refine blk_put (cs := #[.int .i64 ((rd_T70 y271 x19_2).f0), .int .i64 ((rd_T70 y271 x19_2).f1), .string ((rd_T70 y271 x19_2).f2), .slice A279_3 ((rd_T70 y271 x19_2).f3).length c279_3, .string ((rd_T70 y271 x19_2).f4), .int .i64 0, .slice none 0 0]) ?_ 5 _ rfl; (with_reducible repeat (first | refine blk_drewN ?_ _ | refine blk_drew ?_ | refine blk_alloc ?_ _)); refine blk_put (cs := #[.int .i64 ((rd_T70 y271 x19_2).f0), .int .i64 ((rd_T70 y271 x19_2).f1), .string ((rd_T70 y271 x19_2).f2), .slice A279_3 ((rd_T70 y271 x19_2).f3).length c279_3, .string (⟨#[]⟩ : ByteArray), .int .i64 0, .slice none 0 0]) ?_ 4 _ rfl; (with_reducible repeat (first | refine blk_drewN ?_ _ | refine blk_drew ?_ | refine blk_alloc ?_ _)); refine blk_put (cs := #[.int .i64 ((rd_T70 y271 x19_2).f0), .int .i64 ((rd_T70 y271 x19_2).f1), .string ((rd_T70 y271 x19_2).f2), .slice none 0 0, .string (⟨#[]⟩ : ByteArray), .int .i64 0, .slice none 0 0]) ?_ 3 _ rfl; (with_reducible repeat (first | refine blk_drewN ?_ _ | refine blk_drew ?_ | refine blk_alloc ?_ _)); refine blk_put (cs := #[.int .i64 ((rd_T70 y271 x19_2).f0), .int .i64 ((rd_T70 y271 x19_2).f1), .string (⟨#[]⟩ : ByteArray), .slice none 0 0, .string (⟨#[]⟩ : ByteArray), .int .i64 0, .slice none 0 0]) ?_ 2 _ rfl; (with_reducible repeat (first | refine blk_drewN ?_ _ | refine blk_drew ?_ | refine blk_alloc ?_ _)); refine blk_put (cs := #[.int .i64 ((rd_T70 y271 x19_2).f0), .int .i64 0, .string (⟨#[]⟩ : ByteArray), .slice none 0 0, .string (⟨#[]⟩ : ByteArray), .int .i64 0, .slice none 0 0]) ?_ 1 _ rfl; (with_reducible repeat (first | refine blk_drewN ?_ _ | refine blk_drew ?_ | refine blk_alloc ?_ _)); refine blk_put (cs := #[.int .i64 0, .int .i64 0, .string (⟨#[]⟩ : ByteArray), .slice none 0 0, .string (⟨#[]⟩ : ByteArray), .int .i64 0, .slice none 0 0]) ?_ 0 _ rfl; (with_reducible repeat (first | refine blk_drewN ?_ _ | refine blk_drew ?_ | refine blk_alloc ?_ _)); exact BK280.out) hb); have n1_ := Aside0.mk (below_step (ab2 GE280) hb); clear BK280; clear HB; have BK280 := n0_; have HB := n1_; clear n0_ n1_; (try clear hb); (try clear hb2); (try clear hk); (try clear hi); obtain ⟨⟨hcz29_0, hcz29_1, hcz29_2, hcz29_3, hcz29_4, hcz29_5, hcz29_6⟩, hfz29_0, hfz29_1, hfz29_2, hfz29_3, hfz29_4, hfz29_5, hfz29_6⟩ := Op.cells7 BK280.out) | (go_at_call 67; (with_reducible refine (impl_inRange.calls ((rd_T70 y271 x19_2).f5) 0 (wrap64 ((l0.length : Int) - 1)) true _ A16.out).mono ?_); rintro e w' ⟨rfl, ⟨nd, rfl⟩⟩; have p283 : 0 ≤ (((rd_T70 y271 x19_2).f5) : Int) := of_decide_eq_true ab4; have q283 : ((rd_T70 y271 x19_2).f5) < (l0.length : Int) := of_decide_eq_true ab4; obtain ⟨ad283, A283_3, c283_3, A283_6, c283_6, e283, hx283_0, hx283_1, hx283_2, hx283_3, hx283_4, hx283_5, hx283_6, hl283_3, hi283_3, hl283_6, hi283_6⟩ := at_T70 HR0.out ((rd_T70 y271 x19_2).f5) p283 q283; cases e283; replace hx283_0 := pw_cell_below HB.out hx283_0; replace hx283_1 := pw_cell_below HB.out hx283_1; replace hx283_2 := pw_cell_below HB.out hx283_2; replace hx283_3 := pw_cell_below HB.out hx283_3; replace hx283_4 := pw_cell_below HB.out hx283_4; replace hx283_5 := pw_cell_below HB.out hx283_5; replace hx283_6 := pw_cell_below HB.out hx283_6; have HR283_3 := Aside0.mk hi283_3; have HC283_3 := Aside0.mk hl283_3; clear hi283_3 hl283_3; have HR283_6 := Aside0.mk hi283_6; have HC283_6 := Aside0.mk hl283_6; clear hi283_6 hl283_6; replace p283 := eq_true p283; replace q283 := eq_true q283) | (go_at_call 106; (with_reducible refine (impl_hasKids.calls ((rd_T70 l0 ((rd_T70 y271 x19_2).f5)).f0) false _ A20.out).mono ?_); rintro e w' ⟨rfl, ⟨nd, rfl⟩⟩))
          go_ret
          exact ⟨ab7, ab2 GE280⟩
        ·replace c17 := Bool.eq_false_iff.mpr c17
         subst c17
         rw [if_neg (show ¬ (false = true) by decide)] at H
         obtain rfl := Option.some.inj H
         have p279 : 0 ≤ (x19_2 : Int) := of_decide_eq_true ab4
         have q279 : x19_2 < (y271.length : Int) := of_decide_eq_true ab4
         obtain ⟨ad279, A279_3, c279_3, A279_6, c279_6, e279, hx279_0, hx279_1, hx279_2, hx279_3, hx279_4, hx279_5, hx279_6, hl279_3, hi279_3, hl279_6, hi279_6⟩ := at_T70 HR274.out x19_2 p279 q279
         cases e279
         replace hx279_0 := pw_cell_below HB.out hx279_0
         replace hx279_1 := pw_cell_below HB.out hx279_1
         replace hx279_2 := pw_cell_below HB.out hx279_2
         replace hx279_3 := pw_cell_below HB.out hx279_3
         replace hx279_4 := pw_cell_below HB.out hx279_4
         replace hx279_5 := pw_cell_below HB.out hx279_5
         replace hx279_6 := pw_cell_below HB.out hx279_6
         have HR279_3 := Aside0.mk hi279_3
         have HC279_3 := Aside0.mk hl279_3
         clear hi279_3 hl279_3
         have HR279_6 := Aside0.mk hi279_6
         have HC279_6 := Aside0.mk hl279_6
         clear hi279_6 hl279_6
         replace p279 := eq_true p279
         replace q279 := eq_true q279
         go_wp2_with (first | ((with_reducible refine gate_dst (N := 4) rfl ?_); (try (refine gate_guard (by rfl) ?_; dsimp only)); refine box_event ?hg (N := 4) ?hd (cs := #[.int .i64 0, .int .i64 0, .string (⟨#[]⟩ : ByteArray), .slice none 0 0, .string (⟨#[]⟩ : ByteArray), .int .i64 0, .slice none 0 0]) (t := 70) ?hr ?_; (case hd => rfl); (case hg => rfl); (case hr => first | (go_simp; done) | (go_simp; rfl)); intro gb280 hg w30 hbox hb; have n0_ := Aside0.mk (below_step ab1 hb); have n1_ := Aside0.mk (hbox); have n2_ := Aside0.mk ((by rw [hg]; exact (below_size ab1) : w.heap.size ≤ gb280)); have n3_ := Aside0.mk ((by rw [hg]; exact (below_size ab1) : w.heap.size ≤ gb280)); clear HB; have HB := n0_; have BK280 := n1_; have GW280 := n2_; have GE280 := n3_; clear n0_ n1_ n2_ n3_; clear hb hbox hg; obtain ⟨⟨hcz31_0, hcz31_1, hcz31_2, hcz31_3, hcz31_4, hcz31_5, hcz31_6⟩, hfz31_0, hfz31_1, hfz31_2, hfz31_3, hfz31_4, hfz31_5, hfz31_6⟩ := Op.cells7 BK280.out) | ((with_reducible refine gate_callee (f := 105) rfl ?_); refine goesL_ (some 24) rfl rfl Try.func105 (by kernel_rfl) rfl #[.agg #[.int .i64 ((rd_T70 y271 x19_2).f0), .int .i64 ((rd_T70 y271 x19_2).f1), .string ((rd_T70 y271 x19_2).f2), .slice A279_3 ((rd_T70 y271 x19_2).f3).length c279_3, .string ((rd_T70 y271 x19_2).f4), .int .i64 ((rd_T70 y271 x19_2).f5), .slice A279_6 ((rd_T70 y271 x19_2).f6).length c279_6]] rfl ab5 ?_; (with_reducible refine (impl_itemOk.calls k2 ((rd_T70 y271 x19_2).f0) ((rd_T70 y271 x19_2).f1) ((rd_T70 y271 x19_2).f2) _ _ ((rd_T70 y271 x19_2).f3) ((rd_T70 y271 x19_2).f4) ((rd_T70 y271 x19_2).f5) _ _ ((rd_T70 y271 x19_2).f6) true _ ?side1 ?side2 ?side3 ?side4 A14.out).mono ?_); (case side1 => exact Kd.C_below HR279_3.out (ab2 GE280)); (case side2 => exact HC279_3.out); (case side3 => exact Kd.C_below HR279_6.out (ab2 GE280)); (case side4 => exact HC279_6.out); rintro e w32 ⟨rfl, hb⟩; refine ⟨_, rfl, ?_⟩; have n0_ := Aside0.mk (blk_below (g := gb280) (o := .cells #[.int .i64 ((rd_T70 y271 x19_2).f0), .int .i64 ((rd_T70 y271 x19_2).f1), .string ((rd_T70 y271 x19_2).f2), .slice A279_3 ((rd_T70 y271 x19_2).f3).length c279_3, .string ((rd_T70 y271 x19_2).f4), .int .i64 ((rd_T70 y271 x19_2).f5), .slice A279_6 ((rd_T70 y271 x19_2).f6).length c279_6] 70 (0, 0)) (by (with_reducible repeat (first | refine blk_drewN ?_ _ | refine blk_drew ?_ | refine blk_alloc ?_ _)); refine blk_put (cs := #[.int .i64 ((rd_T70 y271 x19_2).f0), .int .i64 ((rd_T70 y271 x19_2).f1), .string ((rd_T70 y271 x19_2).f2), .slice A279_3 ((rd_T70 y271 x19_2).f3).length c279_3, .string ((rd_T70 y271 x19_2).f4), .int .i64 ((rd_T70 y271 x19_2).f5), .slice none 0 0]) ?_ 6 _ rfl; (with_reducible repeat (first | refine blk_drewN ?_ _ | refine blk_drew ?_ | refine blk_alloc ?_ _)); refine blk_put (cs := #[.int .i64 ((rd_T70 y271 x19_2).f0), .int .i64 ((rd_T70 y271 x19_2).f1), .string ((rd_T70 y271 x19_2).f2), .slice A279_3 ((rd_T70 y271 x19_2).f3).length c279_3, .string ((rd_T70 y271 x19_2).f4), .int .i64 0, .slice none 0 0]) ?_ 5 _ rfl; (with_reducible repeat (first | refine blk_drewN ?_ _ | refine blk_drew ?_ | refine blk_alloc ?_ _)); refine blk_put (cs := #[.int .i64 ((rd_T70 y271 x19_2).f0), .int .i64 ((rd_T70 y271 x19_2).f1), .string ((rd_T70 y271 x19_2).f2), .slice A279_3 ((rd_T70 y271 x19_2).f3).length c279_3, .string (⟨#[]⟩ : ByteArray), .int .i64 0, .slice none 0 0]) ?_ 4 _ rfl; (with_reducible repeat (first | refine blk_drewN ?_ _ | refine blk_drew ?_ | refine blk_alloc ?_ _)); refine blk_put (cs := #[.int .i64 ((rd_T70 y271 x19_2).f0), .int .i64 ((rd_T70 y271 x19_2).f1), .string ((rd_T70 y271 x19_2).f2), .slice none 0 0, .string (⟨#[]⟩ : ByteArray), .int .i64 0, .slice none 0 0]) ?_ 3 _ rfl; (with_reducible repeat (first | refine blk_drewN ?_ _ | refine blk_drew ?_ | refine blk_alloc ?_ _)); refine blk_put (cs := #[.int .i64 ((rd_T70 y271 x19_2).f0), .int .i64 ((rd_T70 y271 x19_2).f1), .string (⟨#[]⟩ : ByteArray), .slice none 0 0, .string (⟨#[]⟩ : ByteArray), .int .i64 0, .slice none 0 0]) ?_ 2 _ rfl; (with_reducible repeat (first | refine blk_drewN ?_ _ | refine blk_drew ?_ | refine blk_alloc ?_ _)); refine blk_put (cs := #[.int .i64 ((rd_T70 y271 x19_2).f0), .int .i64 0, .string (⟨#[]⟩ : ByteArray), .slice none 0 0, .string (⟨#[]⟩ : ByteArray), .int .i64 0, .slice none 0 0]) ?_ 1 _ rfl; (with_reducible repeat (first | refine blk_drewN ?_ _ | refine blk_drew ?_ | refine blk_alloc ?_ _)); refine blk_put (cs := #[.int .i64 0, .int .i64 0, .string (⟨#[]⟩ : ByteArray), .slice none 0 0, .string (⟨#[]⟩ : ByteArray), .int .i64 0, .slice none 0 0]) ?_ 0 _ rfl; (with_reducible repeat (first | refine blk_drewN ?_ _ | refine blk_drew ?_ | refine blk_alloc ?_ _)); exact BK280.out) hb); have n1_ := Aside0.mk (below_step (ab2 GE280) hb); clear BK280; clear HB; have BK280 := n0_; have HB := n1_; clear n0_ n1_; (try clear hb); (try clear hb2); (try clear hk); (try clear hi); obtain ⟨⟨hcz33_0, hcz33_1, hcz33_2, hcz33_3, hcz33_4, hcz33_5, hcz33_6⟩, hfz33_0, hfz33_1, hfz33_2, hfz33_3, hfz33_4, hfz33_5, hfz33_6⟩ := Op.cells7 BK280.out) | (go_at_call 67; (with_reducible refine (impl_inRange.calls ((rd_T70 y271 x19_2).f5) 0 (wrap64 ((l0.length : Int) - 1)) false _ A16.out).mono ?_); rintro e w' ⟨rfl, ⟨nd, rfl⟩⟩))
         go_ret
         exact ⟨ab7, ab2 GE280⟩
       ·replace c15 := Bool.eq_false_iff.mpr c15
        subst c15
        rw [if_neg (show ¬ (false = true) by decide)] at H
        obtain rfl := Option.some.inj H
        have p279 : 0 ≤ (x19_2 : Int) := of_decide_eq_true ab4
        have q279 : x19_2 < (y271.length : Int) := of_decide_eq_true ab4
        obtain ⟨ad279, A279_3, c279_3, A279_6, c279_6, e279, hx279_0, hx279_1, hx279_2, hx279_3, hx279_4, hx279_5, hx279_6, hl279_3, hi279_3, hl279_6, hi279_6⟩ := at_T70 HR274.out x19_2 p279 q279
        cases e279
        replace hx279_0 := pw_cell_below HB.out hx279_0
        replace hx279_1 := pw_cell_below HB.out hx279_1
        replace hx279_2 := pw_cell_below HB.out hx279_2
        replace hx279_3 := pw_cell_below HB.out hx279_3
        replace hx279_4 := pw_cell_below HB.out hx279_4
        replace hx279_5 := pw_cell_below HB.out hx279_5
        replace hx279_6 := pw_cell_below HB.out hx279_6
        have HR279_3 := Aside0.mk hi279_3
        have HC279_3 := Aside0.mk hl279_3
        clear hi279_3 hl279_3
        have HR279_6 := Aside0.mk hi279_6
        have HC279_6 := Aside0.mk hl279_6
        clear hi279_6 hl279_6
        replace p279 := eq_true p279
        replace q279 := eq_true q279
        go_wp2_with (first | ((with_reducible refine gate_dst (N := 4) rfl ?_); (try (refine gate_guard (by rfl) ?_; dsimp only)); refine box_event ?hg (N := 4) ?hd (cs := #[.int .i64 0, .int .i64 0, .string (⟨#[]⟩ : ByteArray), .slice none 0 0, .string (⟨#[]⟩ : ByteArray), .int .i64 0, .slice none 0 0]) (t := 70) ?hr ?_; (case hd => rfl); (case hg => rfl); (case hr => first | (go_simp; done) | (go_simp; rfl)); intro gb280 hg w34 hbox hb; have n0_ := Aside0.mk (below_step ab1 hb); have n1_ := Aside0.mk (hbox); have n2_ := Aside0.mk ((by rw [hg]; exact (below_size ab1) : w.heap.size ≤ gb280)); have n3_ := Aside0.mk ((by rw [hg]; exact (below_size ab1) : w.heap.size ≤ gb280)); clear HB; have HB := n0_; have BK280 := n1_; have GW280 := n2_; have GE280 := n3_; clear n0_ n1_ n2_ n3_; clear hb hbox hg; obtain ⟨⟨hcz35_0, hcz35_1, hcz35_2, hcz35_3, hcz35_4, hcz35_5, hcz35_6⟩, hfz35_0, hfz35_1, hfz35_2, hfz35_3, hfz35_4, hfz35_5, hfz35_6⟩ := Op.cells7 BK280.out) | ((with_reducible refine gate_callee (f := 105) rfl ?_); refine goesL_ (some 24) rfl rfl Try.func105 (by kernel_rfl) rfl #[.agg #[.int .i64 ((rd_T70 y271 x19_2).f0), .int .i64 ((rd_T70 y271 x19_2).f1), .string ((rd_T70 y271 x19_2).f2), .slice A279_3 ((rd_T70 y271 x19_2).f3).length c279_3, .string ((rd_T70 y271 x19_2).f4), .int .i64 ((rd_T70 y271 x19_2).f5), .slice A279_6 ((rd_T70 y271 x19_2).f6).length c279_6]] rfl ab5 ?_; (with_reducible refine (impl_itemOk.calls k2 ((rd_T70 y271 x19_2).f0) ((rd_T70 y271 x19_2).f1) ((rd_T70 y271 x19_2).f2) _ _ ((rd_T70 y271 x19_2).f3) ((rd_T70 y271 x19_2).f4) ((rd_T70 y271 x19_2).f5) _ _ ((rd_T70 y271 x19_2).f6) false _ ?side1 ?side2 ?side3 ?side4 A14.out).mono ?_); (case side1 => exact Kd.C_below HR279_3.out (ab2 GE280)); (case side2 => exact HC279_3.out); (case side3 => exact Kd.C_below HR279_6.out (ab2 GE280)); (case side4 => exact HC279_6.out); rintro e w36 ⟨rfl, hb⟩; refine ⟨_, rfl, ?_⟩; have n0_ := Aside0.mk (blk_below (g := gb280) (o := .cells #[.int .i64 ((rd_T70 y271 x19_2).f0), .int .i64 ((rd_T70 y271 x19_2).f1), .string ((rd_T70 y271 x19_2).f2), .slice A279_3 ((rd_T70 y271 x19_2).f3).length c279_3, .string ((rd_T70 y271 x19_2).f4), .int .i64 ((rd_T70 y271 x19_2).f5), .slice A279_6 ((rd_T70 y271 x19_2).f6).length c279_6] 70 (0, 0)) (by (with_reducible repeat (first | refine blk_drewN ?_ _ | refine blk_drew ?_ | refine blk_alloc ?_ _)); refine blk_put (cs := #[.int .i64 ((rd_T70 y271 x19_2).f0), .int .i64 ((rd_T70 y271 x19_2).f1), .string ((rd_T70 y271 x19_2).f2), .slice A279_3 ((rd_T70 y271 x19_2).f3).length c279_3, .string ((rd_T70 y271 x19_2).f4), .int .i64 ((rd_T70 y271 x19_2).f5), .slice none 0 0]) ?_ 6 _ rfl; (with_reducible repeat (first | refine blk_drewN ?_ _ | refine blk_drew ?_ | refine blk_alloc ?_ _)); refine blk_put (cs := #[.int .i64 ((rd_T70 y271 x19_2).f0), .int .i64 ((rd_T70 y271 x19_2).f1), .string ((rd_T70 y271 x19_2).f2), .slice A279_3 ((rd_T70 y271 x19_2).f3).length c279_3, .string ((rd_T70 y271 x19_2).f4), .int .i64 0, .slice none 0 0]) ?_ 5 _ rfl; (with_reducible repeat (first | refine blk_drewN ?_ _ | refine blk_drew ?_ | refine blk_alloc ?_ _)); refine blk_put (cs := #[.int .i64 ((rd_T70 y271 x19_2).f0), .int .i64 ((rd_T70 y271 x19_2).f1), .string ((rd_T70 y271 x19_2).f2), .slice A279_3 ((rd_T70 y271 x19_2).f3).length c279_3, .string (⟨#[]⟩ : ByteArray), .int .i64 0, .slice none 0 0]) ?_ 4 _ rfl; (with_reducible repeat (first | refine blk_drewN ?_ _ | refine blk_drew ?_ | refine blk_alloc ?_ _)); refine blk_put (cs := #[.int .i64 ((rd_T70 y271 x19_2).f0), .int .i64 ((rd_T70 y271 x19_2).f1), .string ((rd_T70 y271 x19_2).f2), .slice none 0 0, .string (⟨#[]⟩ : ByteArray), .int .i64 0, .slice none 0 0]) ?_ 3 _ rfl; (with_reducible repeat (first | refine blk_drewN ?_ _ | refine blk_drew ?_ | refine blk_alloc ?_ _)); refine blk_put (cs := #[.int .i64 ((rd_T70 y271 x19_2).f0), .int .i64 ((rd_T70 y271 x19_2).f1), .string (⟨#[]⟩ : ByteArray), .slice none 0 0, .string (⟨#[]⟩ : ByteArray), .int .i64 0, .slice none 0 0]) ?_ 2 _ rfl; (with_reducible repeat (first | refine blk_drewN ?_ _ | refine blk_drew ?_ | refine blk_alloc ?_ _)); refine blk_put (cs := #[.int .i64 ((rd_T70 y271 x19_2).f0), .int .i64 0, .string (⟨#[]⟩ : ByteArray), .slice none 0 0, .string (⟨#[]⟩ : ByteArray), .int .i64 0, .slice none 0 0]) ?_ 1 _ rfl; (with_reducible repeat (first | refine blk_drewN ?_ _ | refine blk_drew ?_ | refine blk_alloc ?_ _)); refine blk_put (cs := #[.int .i64 0, .int .i64 0, .string (⟨#[]⟩ : ByteArray), .slice none 0 0, .string (⟨#[]⟩ : ByteArray), .int .i64 0, .slice none 0 0]) ?_ 0 _ rfl; (with_reducible repeat (first | refine blk_drewN ?_ _ | refine blk_drew ?_ | refine blk_alloc ?_ _)); exact BK280.out) hb); have n1_ := Aside0.mk (below_step (ab2 GE280) hb); clear BK280; clear HB; have BK280 := n0_; have HB := n1_; clear n0_ n1_; (try clear hb); (try clear hb2); (try clear hk); (try clear hi)))
        go_ret
        exact ⟨ab7, ab2 GE280⟩
      ·rw [if_neg c11] at H
       have c11b0 := decide_eq_false c11
       clear c11
       replace H := Option.bind_eq_some_iff.mp H
       obtain ⟨t275, A370, H⟩ := H
       try dsimp only at H
       have A37 := Aside0.mk A370
       clear A370
       by_cases c38 : t275 = true
       ·subst c38
        rw [if_pos rfl] at H
        replace H := Option.bind_eq_some_iff.mp H
        obtain ⟨t276, A390, H⟩ := H
        try dsimp only at H
        have A39 := Aside0.mk A390
        clear A390
        obtain rfl := Option.some.inj H
        go_wp2_with (first | ((with_reducible refine gate_callee (f := 107) rfl ?_); refine goesL_ (some 47) rfl rfl Try.func107 (by kernel_rfl) rfl #[.slice A0 l0.length c0] rfl ab5 ?_; (with_reducible refine (impl_kidsOk.calls k2 _ _ l0 true _ ?side1 ?side2 A37.out).mono ?_); (case side1 => repeat (first | exact (Kd.C_below HR0.out HB.out) | (with_reducible refine Kd.C_alloc ?_ _) | (with_reducible refine Kd.C_drewN ?_ _) | (with_reducible refine Kd.C_drew ?_))); (case side2 => exact HC0.out); rintro e w40 ⟨rfl, hb⟩; refine ⟨_, rfl, ?_⟩; have n0_ := Aside0.mk (below_step ab1 hb); clear HB; have HB := n0_; clear n0_; (try clear hb); (try clear hb2); (try clear hk); (try clear hi)) | (go_at_call 108; (with_reducible refine (impl_order.calls k2 _ _ l0 t276 _ ?side1 ?side2 A39.out).mono ?_); (case side1 => repeat (first | exact (Kd.C_below HR0.out HB.out) | (with_reducible refine Kd.C_alloc ?_ _) | (with_reducible refine Kd.C_drewN ?_ _) | (with_reducible refine Kd.C_drew ?_))); (case side2 => exact HC0.out); rintro e w41 ⟨v277, rfl, ho0, hb⟩; have n0_ := Aside0.mk (Kd.R_lower ho0 (below_size ab1)); have n1_ := Aside0.mk (below_step ab1 hb); clear HB; have HO278 := n0_; have HB := n1_; clear n0_ n1_; (try clear hb); (try clear hb2); (try clear hk); (try clear hi); (try clear ho0); obtain ⟨Ao42, co42, eo42⟩ := Kd.R_slice HO278.out; subst eo42))
        go_ret
        exact ⟨ab7, ab1⟩
       ·replace c38 := Bool.eq_false_iff.mpr c38
        subst c38
        rw [if_neg (show ¬ (false = true) by decide)] at H
        obtain rfl := Option.some.inj H
        go_wp2_with (first | ((with_reducible refine gate_callee (f := 107) rfl ?_); refine goesL_ (some 47) rfl rfl Try.func107 (by kernel_rfl) rfl #[.slice A0 l0.length c0] rfl ab5 ?_; (with_reducible refine (impl_kidsOk.calls k2 _ _ l0 false _ ?side1 ?side2 A37.out).mono ?_); (case side1 => repeat (first | exact (Kd.C_below HR0.out HB.out) | (with_reducible refine Kd.C_alloc ?_ _) | (with_reducible refine Kd.C_drewN ?_ _) | (with_reducible refine Kd.C_drew ?_))); (case side2 => exact HC0.out); rintro e w43 ⟨rfl, hb⟩; refine ⟨_, rfl, ?_⟩; have n0_ := Aside0.mk (below_step ab1 hb); clear HB; have HB := n0_; clear n0_; (try clear hb); (try clear hb2); (try clear hk); (try clear hi)))
        go_ret
        exact ⟨ab7, ab1⟩

/-! ### impl_Order: function 70 -/
def impl_Order.f (k : Nat) (l0 : List (S70)) : Option (List Int) := (impl_TreeOk.f k l0).bind fun t285 => (if t285 = true then ((impl_order.f k l0).bind fun t286 => (some t286)) else (some ([] : List Int)))
theorem impl_Order.mono : ∀ a0 k, LeO (impl_Order.f k a0) (impl_Order.f (k + 1) a0) := by
 intro a0 k
 unfold impl_Order.f
 repeat' first
   | (with_reducible exact impl_TreeOk.mono _ _)
   | (with_reducible exact impl_order.mono _ _)
   | (with_reducible exact LeO.refl _)
   | (with_reducible exact LeO.none _)
   | (with_reducible refine LeO.ite ?_ ?_)
   | (with_reducible refine LeO.bind ?_ (fun _ => ?_))
set_option maxHeartbeats 8000000 in
set_option maxRecDepth 100000 in
theorem impl_Order.calls (k : Nat) (A0 : Option Addr) (c0 : Nat) (l0 : List (S70)) (r : List Int) (w : World) (hr0 : Kd.C k70 w A0 l0.length l0) (hc0 : l0.length ≤ c0) (h : impl_Order.f k l0 = some r) :
  Calls Try.prog 70 #[.slice A0 l0.length c0] w fun e w' => ∃ v0_ : Value, e = .returned (v0_) ∧ Kd.R (Kd.int .i64) 3 w' w.heap.size (fun _ => True) v0_ r ∧ Below w.heap.size w w' := by
 have HR0 := Aside0.mk hr0
 have HC0 := Aside0.mk hc0
 clear hr0 hc0
 have HB := Aside0.mk (Below.refl w.heap.size w)
 have H : ((impl_TreeOk.f k l0).bind fun t285 => (if t285 = true then ((impl_order.f k l0).bind fun t286 => (some t286)) else (some ([] : List Int)))) = some r := h
 clear h
 replace H := Option.bind_eq_some_iff.mp H
 obtain ⟨t285, A20, H⟩ := H
 try dsimp only at H
 have A2 := Aside0.mk A20
 clear A20
 by_cases c3 : t285 = true
 ·subst c3
  rw [if_pos rfl] at H
  replace H := Option.bind_eq_some_iff.mp H
  obtain ⟨t286, A40, H⟩ := H
  try dsimp only at H
  have A4 := Aside0.mk A40
  clear A40
  obtain rfl := Option.some.inj H
  go_enter Try.func70, Try.ntmps70
  go_wp2_with (first | ((with_reducible refine gate_callee (f := 62) rfl ?_); refine goesL_ (some 4) rfl rfl Try.func62 (by kernel_rfl) rfl #[.slice A0 l0.length c0] rfl ab5 ?_; (with_reducible refine (impl_TreeOk.calls k _ _ l0 true _ ?side1 ?side2 A2.out).mono ?_); (case side1 => repeat (first | exact HR0.out | (with_reducible refine Kd.C_alloc ?_ _) | (with_reducible refine Kd.C_drewN ?_ _) | (with_reducible refine Kd.C_drew ?_))); (case side2 => exact HC0.out); rintro e w5 ⟨rfl, hb⟩; refine ⟨_, rfl, ?_⟩; have n0_ := Aside0.mk (below_step ab1 hb); clear HB; have HB := n0_; clear n0_; (try clear hb); (try clear hb2); (try clear hk); (try clear hi)) | ((with_reducible refine gate_callee (f := 108) rfl ?_); refine goesL_ (some 7) rfl rfl Try.func108 (by kernel_rfl) rfl #[.slice A0 l0.length c0] rfl ab5 ?_; (with_reducible refine (impl_order.calls k _ _ l0 t286 _ ?side1 ?side2 A4.out).mono ?_); (case side1 => repeat (first | exact (Kd.C_below HR0.out HB.out) | (with_reducible refine Kd.C_alloc ?_ _) | (with_reducible refine Kd.C_drewN ?_ _) | (with_reducible refine Kd.C_drew ?_))); (case side2 => exact HC0.out); rintro e w6 ⟨v287, rfl, ho0, hb⟩; refine ⟨_, rfl, ?_⟩; have n0_ := Aside0.mk (Kd.R_lower ho0 (below_size ab1)); have n1_ := Aside0.mk (below_step ab1 hb); clear HB; have HO288 := n0_; have HB := n1_; clear n0_ n1_; (try clear hb); (try clear hb2); (try clear hk); (try clear hi); (try clear ho0)))
  go_ret
  exact ⟨_, ab7, ab8 HO288, ab1⟩
 ·replace c3 := Bool.eq_false_iff.mpr c3
  subst c3
  rw [if_neg (show ¬ (false = true) by decide)] at H
  obtain rfl := Option.some.inj H
  go_enter Try.func70, Try.ntmps70
  go_wp2_with (first | ((with_reducible refine gate_callee (f := 62) rfl ?_); refine goesL_ (some 4) rfl rfl Try.func62 (by kernel_rfl) rfl #[.slice A0 l0.length c0] rfl ab5 ?_; (with_reducible refine (impl_TreeOk.calls k _ _ l0 false _ ?side1 ?side2 A2.out).mono ?_); (case side1 => repeat (first | exact HR0.out | (with_reducible refine Kd.C_alloc ?_ _) | (with_reducible refine Kd.C_drewN ?_ _) | (with_reducible refine Kd.C_drew ?_))); (case side2 => exact HC0.out); rintro e w7 ⟨rfl, hb⟩; refine ⟨_, rfl, ?_⟩; have n0_ := Aside0.mk (below_step ab1 hb); clear HB; have HB := n0_; clear n0_; (try clear hb); (try clear hb2); (try clear hk); (try clear hi)))
  go_ret
  exact ⟨_, ab7, by first | exact Kd.R_nil _ _ _ _ _ | exact Kd.N_nil _ _ _ _ _ | exact Kd.V_nil _ _ _ _ _ | exact Kd.Q_nil _ _ _ _ _ | exact Kd.S_nil _ _ _ _ _, ab1⟩

/-! ### impl_Tags: function 27 -/
def impl_Tags.l0 : Nat → List (S70) → ByteArray → List Int → List Int → Int → Int → Option (List Int)
 | 0, _, _, _, _, _, _ => none
 | k + 1, x0, x1, x5, x9, x10, x11 => if x11 < x10 then (if 0 ≤ x11 then (if x11 < (x9.length : Int) then (if 0 ≤ (rd x9 x11) then (if (rd x9 x11) < (x0.length : Int) then (if ((rd_T70 x0 (rd x9 x11)).f0) = 2 then (if ((rd_T70 x0 (rd x9 x11)).f2).toList = x1.toList then (if x5.length < 17592186044416 then (impl_Tags.l0 k x0 x1 (x5 ++ [rd x9 x11]) x9 x10 (wrap64 (x11 + 1))) else (none)) else (impl_Tags.l0 k x0 x1 x5 x9 x10 (wrap64 (x11 + 1)))) else (impl_Tags.l0 k x0 x1 x5 x9 x10 (wrap64 (x11 + 1)))) else (none)) else (none)) else (none)) else (none)) else (some x5)
def impl_Tags.f (k : Nat) (l0 : List (S70)) (a1 : ByteArray) : Option (List Int) := (impl_Order.f k l0).bind fun t289 => (impl_Tags.l0 k l0 a1 ([] : List Int) t289 (t289.length : Int) 0)
theorem impl_Tags.mono_l : ∀ k, (∀ y0 y1 y2 y3 y4 y5, LeO (impl_Tags.l0 k y0 y1 y2 y3 y4 y5) (impl_Tags.l0 (k + 1) y0 y1 y2 y3 y4 y5))
 | 0 => fun _ _ _ _ _ _ r h => by simp [impl_Tags.l0] at h
 | k + 1 => by
  have ih0 := impl_Tags.mono_l k
  ·intro y0 y1 y2 y3 y4 y5
   unfold impl_Tags.l0
   repeat' first
   | (with_reducible exact ih0 _ _ _ _ _ _)
   | (with_reducible exact impl_Order.mono _ _)
   | (with_reducible exact LeO.refl _)
   | (with_reducible exact LeO.none _)
   | (with_reducible refine LeO.ite ?_ ?_)
   | (with_reducible refine LeO.bind ?_ (fun _ => ?_))
theorem impl_Tags.mono : ∀ a0 a1 k, LeO (impl_Tags.f k a0 a1) (impl_Tags.f (k + 1) a0 a1) := by
 intro a0 a1 k
 have ih0 := impl_Tags.mono_l k
 unfold impl_Tags.f
 repeat' first
   | (with_reducible exact ih0 _ _ _ _ _ _)
   | (with_reducible exact impl_Order.mono _ _)
   | (with_reducible exact LeO.refl _)
   | (with_reducible exact LeO.none _)
   | (with_reducible refine LeO.ite ?_ ?_)
   | (with_reducible refine LeO.bind ?_ (fun _ => ?_))
set_option maxHeartbeats 8000000 in
set_option maxRecDepth 100000 in
theorem impl_Tags.calls (k : Nat) (A0 : Option Addr) (c0 : Nat) (l0 : List (S70)) (a1 : ByteArray) (r : List Int) (w : World) (hr0 : Kd.C k70 w A0 l0.length l0) (hc0 : l0.length ≤ c0) (h : impl_Tags.f k l0 a1 = some r) :
  Calls Try.prog 27 #[.slice A0 l0.length c0, .string a1] w fun e w' => ∃ v0_ : Value, e = .returned (v0_) ∧ Kd.R (Kd.int .i64) 3 w' w.heap.size (fun _ => True) v0_ r ∧ Below w.heap.size w w' := by
 have HR0 := Aside0.mk hr0
 have HC0 := Aside0.mk hc0
 clear hr0 hc0
 have HB := Aside0.mk (Below.refl w.heap.size w)
 have H : ((impl_Order.f k l0).bind fun t289 => (impl_Tags.l0 k l0 a1 ([] : List Int) t289 (t289.length : Int) 0)) = some r := h
 clear h
 replace H := Option.bind_eq_some_iff.mp H
 obtain ⟨t289, A30, H⟩ := H
 try dsimp only at H
 have A3 := Aside0.mk A30
 clear A30
 have H' := Aside0.mk H
 clear H
 go_enter Try.func27, Try.ntmps27
 go_wp2_with (first | ((with_reducible refine gate_callee (f := 70) rfl ?_); refine goesL_ (some 9) rfl rfl Try.func70 (by kernel_rfl) rfl #[.slice A0 l0.length c0] rfl ab5 ?_; (with_reducible refine (impl_Order.calls k _ _ l0 t289 _ ?side1 ?side2 A3.out).mono ?_); (case side1 => repeat (first | exact HR0.out | (with_reducible refine Kd.C_alloc ?_ _) | (with_reducible refine Kd.C_drewN ?_ _) | (with_reducible refine Kd.C_drew ?_))); (case side2 => exact HC0.out); rintro e w4 ⟨v290, rfl, ho0, hb⟩; refine ⟨_, rfl, ?_⟩; have n0_ := Aside0.mk (Kd.R_lower ho0 (below_size ab1)); have n1_ := Aside0.mk (below_step ab1 hb); clear HB; have HO291 := n0_; have HB := n1_; clear n0_ n1_; (try clear hb); (try clear hb2); (try clear hk); (try clear hi); (try clear ho0); obtain ⟨Ao5, co5, eo5⟩ := Kd.R_slice HO291.out; subst eo5))
 go_loopg [5, 11] k (fun kq v5 v11 w' => ∃ (x5_1 : List Int) (x11_1 : Int), v11 = .int .i64 x11_1 ∧ Aside0 (impl_Tags.l0 kq l0 a1 x5_1 t289 (t289.length : Int) x11_1 = some r) ∧ Aside0 (kq ≤ k) ∧ Aside0 (Kd.R (Kd.int .i64) 3 w' w.heap.size (fun k_ => some k_ ≠ ((.slice Ao5 t289.length co5) : Value).ownBlock) v5 x5_1) ∧ Aside0 (Kd.R (Kd.int .i64) 3 w' w.heap.size (fun k_ => some k_ ≠ (v5 : Value).ownBlock) (.slice Ao5 t289.length co5) t289) ∧ Aside0 (Below w.heap.size w w'))
 case atStart => exact ⟨(([] : List Int)), (0), ab6, H', ⟨Nat.le_refl _⟩, ⟨by first | exact Kd.R_nil _ _ _ _ _ | exact Kd.N_nil _ _ _ _ _ | exact Kd.V_nil _ _ _ _ _ | exact Kd.Q_nil _ _ _ _ _ | exact Kd.S_nil _ _ _ _ _⟩, ⟨by (with_reducible repeat (first | apply Kd.R_alloc | apply Kd.R_drewN | apply Kd.R_drew)); exact Kd.R_mono HO291.out (fun _ hk => (by simp [Value.ownBlock]))⟩, ⟨ab1⟩⟩
 case round =>
  clear H'
  (try clear c2); (try clear p2)
  obtain ⟨x5_1, x11_1, rfl, HA, HK1, HO_5, HO_9, HB⟩ := hrel
  cases gk with
  | zero => exact absurd HA.out (by simp [impl_Tags.l0])
  | succ k1 =>
   have H := HA.out
   clear HA
   simp only [impl_Tags.l0] at H
   by_cases c6 : x11_1 < (t289.length : Int)
   ·rw [if_pos c6] at H
    have c6b0 := decide_eq_true c6
    clear c6
    by_cases c7 : 0 ≤ x11_1
    case neg => rw [if_neg c7] at H; exact absurd H (by simp)
    rw [if_pos c7] at H
    have c7b0 := decide_eq_true c7
    clear c7
    by_cases c8 : x11_1 < (t289.length : Int)
    case neg => rw [if_neg c8] at H; exact absurd H (by simp)
    rw [if_pos c8] at H
    have c8b0 := decide_eq_true c8
    clear c8
    by_cases c9 : 0 ≤ (rd t289 x11_1)
    case neg => rw [if_neg c9] at H; exact absurd H (by simp)
    rw [if_pos c9] at H
    have c9b0 := decide_eq_true c9
    clear c9
    by_cases c10 : (rd t289 x11_1) < (l0.length : Int)
    case neg => rw [if_neg c10] at H; exact absurd H (by simp)
    rw [if_pos c10] at H
    have c10b0 := decide_eq_true c10
    clear c10
    by_cases c11 : ((rd_T70 l0 (rd t289 x11_1)).f0) = 2
    ·rw [if_pos c11] at H
     have c11b0 : (((rd_T70 l0 (rd t289 x11_1)).f0) == 2) = true := beq_iff_eq.mpr c11
     have c11b1 : (((rd_T70 l0 (rd t289 x11_1)).f0) != 2) = false := bne_eq_false_iff_eq.mpr c11
     clear c11
     by_cases c12 : ((rd_T70 l0 (rd t289 x11_1)).f2).toList = a1.toList
     ·rw [if_pos c12] at H
      have c12b0 : (((rd_T70 l0 (rd t289 x11_1)).f2).toList == a1.toList) = true := beq_iff_eq.mpr c12
      have c12b1 : (((rd_T70 l0 (rd t289 x11_1)).f2).toList != a1.toList) = false := bne_eq_false_iff_eq.mpr c12
      clear c12
      by_cases c13 : x5_1.length < 17592186044416
      case neg => rw [if_neg c13] at H; exact absurd H (by simp)
      rw [if_pos c13] at H
      have LMc13 := Aside0.mk c13
      clear c13
      obtain ⟨y295, hy295⟩ : ∃ y_ : List Int, y_ = (x5_1 ++ [rd t289 x11_1]) := ⟨_, rfl⟩
      replace H : (impl_Tags.l0 k1 l0 a1 y295 t289 (t289.length : Int) (wrap64 (x11_1 + 1))) = some r := by first | (rw [hy295]; with_reducible exact H) | (have H2_ := (Option.bind_some _ _).symm.trans H; rw [hy295]; with_reducible exact H2_) | (have H2_ := (Option.bind_some _ _).symm.trans H; with_reducible exact H2_) | with_reducible exact H | (rw [hy295]; exact H) | exact H
      have Ny295 := Aside0.mk hy295
      clear hy295
      have H' := Aside0.mk H
      clear H
      have p292 : 0 ≤ (x11_1 : Int) := of_decide_eq_true ab4
      have q292 : x11_1 < (t289.length : Int) := of_decide_eq_true ab4
      obtain ⟨ad292, e292, hx292_0⟩ := Kd.at_int (Kd.R_reads' HO_9.out).2.2 x11_1 p292 q292
      cases e292
      replace p292 := eq_true p292
      replace q292 := eq_true q292
      have p293 : 0 ≤ ((rd t289 x11_1) : Int) := of_decide_eq_true ab4
      have q293 : (rd t289 x11_1) < (l0.length : Int) := of_decide_eq_true ab4
      obtain ⟨ad293, A293_3, c293_3, A293_6, c293_6, e293, hx293_0, hx293_1, hx293_2, hx293_3, hx293_4, hx293_5, hx293_6, hl293_3, hi293_3, hl293_6, hi293_6⟩ := at_T70 HR0.out (rd t289 x11_1) p293 q293
      cases e293
      replace hx293_0 := pw_cell_below HB.out hx293_0
      replace hx293_1 := pw_cell_below HB.out hx293_1
      replace hx293_2 := pw_cell_below HB.out hx293_2
      replace hx293_3 := pw_cell_below HB.out hx293_3
      replace hx293_4 := pw_cell_below HB.out hx293_4
      replace hx293_5 := pw_cell_below HB.out hx293_5
      replace hx293_6 := pw_cell_below HB.out hx293_6
      have HR293_3 := Aside0.mk hi293_3
      have HC293_3 := Aside0.mk hl293_3
      clear hi293_3 hl293_3
      have HR293_6 := Aside0.mk hi293_6
      have HC293_6 := Aside0.mk hl293_6
      clear hi293_6 hl293_6
      replace p293 := eq_true p293
      replace q293 := eq_true q293
      have p294 : 0 ≤ ((rd t289 x11_1) : Int) := of_decide_eq_true ab4
      have q294 : (rd t289 x11_1) < (l0.length : Int) := of_decide_eq_true ab4
      obtain ⟨ad294, A294_3, c294_3, A294_6, c294_6, e294, hx294_0, hx294_1, hx294_2, hx294_3, hx294_4, hx294_5, hx294_6, hl294_3, hi294_3, hl294_6, hi294_6⟩ := at_T70 HR0.out (rd t289 x11_1) p294 q294
      obtain rfl : ad293 = ad294 := (by injection e294)
      replace hx294_0 := pw_cell_below HB.out hx294_0
      replace hx294_1 := pw_cell_below HB.out hx294_1
      replace hx294_2 := pw_cell_below HB.out hx294_2
      replace hx294_3 := pw_cell_below HB.out hx294_3
      replace hx294_4 := pw_cell_below HB.out hx294_4
      replace hx294_5 := pw_cell_below HB.out hx294_5
      replace hx294_6 := pw_cell_below HB.out hx294_6
      have HR294_3 := Aside0.mk hi294_3
      have HC294_3 := Aside0.mk hl294_3
      clear hi294_3 hl294_3
      have HR294_6 := Aside0.mk hi294_6
      have HC294_6 := Aside0.mk hl294_6
      clear hi294_6 hl294_6
      replace p294 := eq_true p294
      replace q294 := eq_true q294
      have ea_ := Option.some.inj (hx293_3.symm.trans hx294_3)
      injection ea_ with ea_ en_ ec_
      subst ea_
      subst ec_
      clear en_
      have ea_ := Option.some.inj (hx293_6.symm.trans hx294_6)
      injection ea_ with ea_ en_ ec_
      subst ea_
      subst ec_
      clear en_
      go_wp2_with (first | ((with_reducible refine gate_builtin (b := .append) (xs := #[.tmp 30, .tmp 32]) rfl ?_); at_builtin; refine Kd.R_append (Kd.int .i64) (w0 := w) w.heap.size rfl (.tmp 30) (.tmp 32) 36 3 (.int .i64 0) 8 rfl Try.underlying36 info3 rfl (by decide) (by omega) u5 x5_1 (rd t289 x11_1) [.int .i64 (rd t289 x11_1)] (fun k_ => some k_ ≠ (.slice (some ad292) t289.length co5 : Value).ownBlock) (fun _ => False) rfl rfl ?aP (fun _ hk => hk.elim) ?aF ?aO ?aB ?aS ?aL ?_; (case aP => exact rfl); (case aB => exact ab1); (case aF => exact (fun k_ hk => Kd.fresh' (Kd.R_lt (ab8 HO_9)) k_ hk)); (case aO => exact (ab8 HO_5)); (case aS => exact (below_size ab1)); (case aL => have := LMc13.out; omega); intro v296 w14 ho hb hg hat; rw [← Ny295.out] at ho; have n0_ := Aside0.mk (Kd.R_after (ok := (fun _ => True)) (by (with_reducible repeat (first | apply Kd.R_alloc | apply Kd.R_drewN | apply Kd.R_drew)); exact Kd.R_mono HO_9.out (fun _ hk => ⟨trivial, hk⟩)) hg hat); have n1_ := Aside0.mk (hb); have n2_ := Aside0.mk (ho); clear HO_9; clear HB; clear HO_5; have HO_9 := n0_; have HB := n1_; have HO297 := n2_; clear n0_ n1_ n2_; clear ho hb hg hat))
      go_roundg k1
      case measure => have := HK1.out; omega
      case rel => exact ⟨(y295), (wrap64 (x11_1 + 1)), ab6, H', ⟨by have := HK1.out; omega⟩, ⟨ab8 HO297⟩, ⟨by (with_reducible repeat (first | apply Kd.R_alloc | apply Kd.R_drewN | apply Kd.R_drew)); exact Kd.R_mono HO_9.out (fun _ hk => hk.2)⟩, ⟨ab1⟩⟩
     ·rw [if_neg c12] at H
      have c12b0 : (((rd_T70 l0 (rd t289 x11_1)).f2).toList == a1.toList) = false := beq_eq_false_iff_ne.mpr c12
      have c12b1 : (((rd_T70 l0 (rd t289 x11_1)).f2).toList != a1.toList) = true := bne_iff_ne.mpr c12
      have H' := Aside0.mk H
      clear H
      have p292 : 0 ≤ (x11_1 : Int) := of_decide_eq_true ab4
      have q292 : x11_1 < (t289.length : Int) := of_decide_eq_true ab4
      obtain ⟨ad292, e292, hx292_0⟩ := Kd.at_int (Kd.R_reads' HO_9.out).2.2 x11_1 p292 q292
      cases e292
      replace p292 := eq_true p292
      replace q292 := eq_true q292
      have p293 : 0 ≤ ((rd t289 x11_1) : Int) := of_decide_eq_true ab4
      have q293 : (rd t289 x11_1) < (l0.length : Int) := of_decide_eq_true ab4
      obtain ⟨ad293, A293_3, c293_3, A293_6, c293_6, e293, hx293_0, hx293_1, hx293_2, hx293_3, hx293_4, hx293_5, hx293_6, hl293_3, hi293_3, hl293_6, hi293_6⟩ := at_T70 HR0.out (rd t289 x11_1) p293 q293
      cases e293
      replace hx293_0 := pw_cell_below HB.out hx293_0
      replace hx293_1 := pw_cell_below HB.out hx293_1
      replace hx293_2 := pw_cell_below HB.out hx293_2
      replace hx293_3 := pw_cell_below HB.out hx293_3
      replace hx293_4 := pw_cell_below HB.out hx293_4
      replace hx293_5 := pw_cell_below HB.out hx293_5
      replace hx293_6 := pw_cell_below HB.out hx293_6
      have HR293_3 := Aside0.mk hi293_3
      have HC293_3 := Aside0.mk hl293_3
      clear hi293_3 hl293_3
      have HR293_6 := Aside0.mk hi293_6
      have HC293_6 := Aside0.mk hl293_6
      clear hi293_6 hl293_6
      replace p293 := eq_true p293
      replace q293 := eq_true q293
      have p294 : 0 ≤ ((rd t289 x11_1) : Int) := of_decide_eq_true ab4
      have q294 : (rd t289 x11_1) < (l0.length : Int) := of_decide_eq_true ab4
      obtain ⟨ad294, A294_3, c294_3, A294_6, c294_6, e294, hx294_0, hx294_1, hx294_2, hx294_3, hx294_4, hx294_5, hx294_6, hl294_3, hi294_3, hl294_6, hi294_6⟩ := at_T70 HR0.out (rd t289 x11_1) p294 q294
      obtain rfl : ad293 = ad294 := (by injection e294)
      replace hx294_0 := pw_cell_below HB.out hx294_0
      replace hx294_1 := pw_cell_below HB.out hx294_1
      replace hx294_2 := pw_cell_below HB.out hx294_2
      replace hx294_3 := pw_cell_below HB.out hx294_3
      replace hx294_4 := pw_cell_below HB.out hx294_4
      replace hx294_5 := pw_cell_below HB.out hx294_5
      replace hx294_6 := pw_cell_below HB.out hx294_6
      have HR294_3 := Aside0.mk hi294_3
      have HC294_3 := Aside0.mk hl294_3
      clear hi294_3 hl294_3
      have HR294_6 := Aside0.mk hi294_6
      have HC294_6 := Aside0.mk hl294_6
      clear hi294_6 hl294_6
      replace p294 := eq_true p294
      replace q294 := eq_true q294
      have ea_ := Option.some.inj (hx293_3.symm.trans hx294_3)
      injection ea_ with ea_ en_ ec_
      subst ea_
      subst ec_
      clear en_
      have ea_ := Option.some.inj (hx293_6.symm.trans hx294_6)
      injection ea_ with ea_ en_ ec_
      subst ea_
      subst ec_
      clear en_
      go_wp2
      go_roundg k1
      case measure => have := HK1.out; omega
      case rel => exact ⟨(x5_1), (wrap64 (x11_1 + 1)), ab6, H', ⟨by have := HK1.out; omega⟩, ⟨ab8 HO_5⟩, ⟨ab8 HO_9⟩, ⟨ab1⟩⟩
    ·rw [if_neg c11] at H
     have c11b0 : (((rd_T70 l0 (rd t289 x11_1)).f0) == 2) = false := beq_eq_false_iff_ne.mpr c11
     have c11b1 : (((rd_T70 l0 (rd t289 x11_1)).f0) != 2) = true := bne_iff_ne.mpr c11
     have H' := Aside0.mk H
     clear H
     have p292 : 0 ≤ (x11_1 : Int) := of_decide_eq_true ab4
     have q292 : x11_1 < (t289.length : Int) := of_decide_eq_true ab4
     obtain ⟨ad292, e292, hx292_0⟩ := Kd.at_int (Kd.R_reads' HO_9.out).2.2 x11_1 p292 q292
     cases e292
     replace p292 := eq_true p292
     replace q292 := eq_true q292
     have p293 : 0 ≤ ((rd t289 x11_1) : Int) := of_decide_eq_true ab4
     have q293 : (rd t289 x11_1) < (l0.length : Int) := of_decide_eq_true ab4
     obtain ⟨ad293, A293_3, c293_3, A293_6, c293_6, e293, hx293_0, hx293_1, hx293_2, hx293_3, hx293_4, hx293_5, hx293_6, hl293_3, hi293_3, hl293_6, hi293_6⟩ := at_T70 HR0.out (rd t289 x11_1) p293 q293
     cases e293
     replace hx293_0 := pw_cell_below HB.out hx293_0
     replace hx293_1 := pw_cell_below HB.out hx293_1
     replace hx293_2 := pw_cell_below HB.out hx293_2
     replace hx293_3 := pw_cell_below HB.out hx293_3
     replace hx293_4 := pw_cell_below HB.out hx293_4
     replace hx293_5 := pw_cell_below HB.out hx293_5
     replace hx293_6 := pw_cell_below HB.out hx293_6
     have HR293_3 := Aside0.mk hi293_3
     have HC293_3 := Aside0.mk hl293_3
     clear hi293_3 hl293_3
     have HR293_6 := Aside0.mk hi293_6
     have HC293_6 := Aside0.mk hl293_6
     clear hi293_6 hl293_6
     replace p293 := eq_true p293
     replace q293 := eq_true q293
     go_wp2
     go_roundg k1
     case measure => have := HK1.out; omega
     case rel => exact ⟨(x5_1), (wrap64 (x11_1 + 1)), ab6, H', ⟨by have := HK1.out; omega⟩, ⟨ab8 HO_5⟩, ⟨ab8 HO_9⟩, ⟨ab1⟩⟩
   ·rw [if_neg c6] at H
    have c6b0 := decide_eq_false c6
    clear c6
    obtain rfl := Option.some.inj H
    go_wp2
    go_ret
    exact ⟨_, ab7, by (with_reducible repeat (first | apply Kd.R_alloc | apply Kd.R_drewN | apply Kd.R_drew)); exact Kd.R_mono HO_5.out (fun _ hk => trivial), ab1⟩

end Go.Proofs.Ytfjheckgigppiaa.P
