-- WRITTEN BY hprint.py, this session's own program, over the kit's printer: not typed by hand; Lean checks it
import Derived.Test.YtfjheckgigppiaaPi0
import Derived.Test.YtfjheckgigppiaaPi9
import Derived.Test.YtfjheckgigppiaaPi11
import Derived.Test.YtfjheckgigppiaaPi12
namespace Go.Proofs.Ytfjheckgigppiaa.P
open Go.RowKit Go.Proofs.YtfjheckgigppiaaW.PrintWords Go.Proofs.YtfjheckgigppiaaW.PrintLast Go.Proofs.YtfjheckgigppiaaW.PrintMore
attribute [local go_sem] max2_int min2_int max_two min_two max_three min_three max_four min_four   -- for this text's walks alone
set_option linter.unusedVariables false
set_option linter.unusedSimpArgs false

/-! ### impl_TreeOk: function 62 -/
mutual
def impl_TreeOk.j0 : Nat → List (S70) → Bool → Option (Bool)
 | 0, _, _ => none
 | k + 1, x0, x15 => if x15 = true then (some false) else (if 1 ≤ (x0.length : Int) then ((some (x0.drop 1 : List (S70))).bind fun y257 => (impl_TreeOk.l0 k x0 y257 (y257.length : Int) 0)) else (none))
def impl_TreeOk.l0 : Nat → List (S70) → List (S70) → Int → Int → Option (Bool)
 | 0, _, _, _, _ => none
 | k + 1, x0, x17, x18, x19 => if x19 < x18 then (if 0 ≤ x19 then (if x19 < (x17.length : Int) then ((impl_itemOk.f k ((rd_T70 x17 x19).f0) ((rd_T70 x17 x19).f1) ((rd_T70 x17 x19).f2) ((rd_T70 x17 x19).f3) ((rd_T70 x17 x19).f4) ((rd_T70 x17 x19).f5) ((rd_T70 x17 x19).f6)).bind fun t267 => (if t267 = true then ((impl_inRange.f ((rd_T70 x17 x19).f5) 0 (wrap64 ((x0.length : Int) - 1))).bind fun t268 => (if t268 = true then (if 0 ≤ ((rd_T70 x17 x19).f5) then (if ((rd_T70 x17 x19).f5) < (x0.length : Int) then ((impl_hasKids.f ((rd_T70 x0 ((rd_T70 x17 x19).f5)).f0)).bind fun t270 => (if t270 = true then (impl_TreeOk.l0 k x0 x17 x18 (wrap64 (x19 + 1))) else (some false))) else (none)) else (none)) else (some false))) else (some false))) else (none)) else (none)) else ((impl_kidsOk.f k x0).bind fun t261 => (if t261 = true then ((impl_order.f k x0).bind fun t262 => (some ((t262.length : Int) == (x0.length : Int)))) else (some false)))
end
def impl_TreeOk.f (k : Nat) (l0 : List (S70)) : Option (Bool) := (impl_inRange.f (l0.length : Int) 1 3000).bind fun t254 => (if t254 = true then (if 0 < (l0.length : Int) then ((impl_pageOk.f ((rd_T70 l0 0).f0) ((rd_T70 l0 0).f1) ((rd_T70 l0 0).f2) ((rd_T70 l0 0).f3) ((rd_T70 l0 0).f4) ((rd_T70 l0 0).f5) ((rd_T70 l0 0).f6)).bind fun t256 => (impl_TreeOk.j0 k l0 (!t256))) else (none)) else (impl_TreeOk.j0 k l0 true))
theorem impl_TreeOk.mono_l : ∀ k, (∀ y0 y1, LeO (impl_TreeOk.j0 k y0 y1) (impl_TreeOk.j0 (k + 1) y0 y1)) ∧ (∀ y0 y1 y2 y3, LeO (impl_TreeOk.l0 k y0 y1 y2 y3) (impl_TreeOk.l0 (k + 1) y0 y1 y2 y3))
 | 0 => ⟨fun _ _ r h => by simp [impl_TreeOk.j0] at h, fun _ _ _ _ r h => by simp [impl_TreeOk.l0] at h⟩
 | k + 1 => by
  obtain ⟨ih0, ih1⟩ := impl_TreeOk.mono_l k
  refine ⟨?_, ?_⟩
  ·intro y0 y1
   unfold impl_TreeOk.j0
   repeat' first
   | (with_reducible exact ih0 _ _)
   | (with_reducible exact ih1 _ _ _ _)
   | (with_reducible exact impl_itemOk.mono _ _ _ _ _ _ _ _)
   | (with_reducible exact impl_kidsOk.mono _ _)
   | (with_reducible exact impl_order.mono _ _)
   | (with_reducible exact LeO.refl _)
   | (with_reducible exact LeO.none _)
   | (with_reducible refine LeO.ite ?_ ?_)
   | (with_reducible refine LeO.bind ?_ (fun _ => ?_))
   | exact ih0 _ _
   | exact ih1 _ _ _ _
   | exact impl_itemOk.mono _ _ _ _ _ _ _ _
   | exact impl_kidsOk.mono _ _
   | exact impl_order.mono _ _
   | exact LeO.none _
   | refine LeO.ite ?_ ?_
   | refine LeO.bind ?_ (fun _ => ?_)
  ·intro y0 y1 y2 y3
   unfold impl_TreeOk.l0
   repeat' first
   | (with_reducible exact ih0 _ _)
   | (with_reducible exact ih1 _ _ _ _)
   | (with_reducible exact impl_itemOk.mono _ _ _ _ _ _ _ _)
   | (with_reducible exact impl_kidsOk.mono _ _)
   | (with_reducible exact impl_order.mono _ _)
   | (with_reducible exact LeO.refl _)
   | (with_reducible exact LeO.none _)
   | (with_reducible refine LeO.ite ?_ ?_)
   | (with_reducible refine LeO.bind ?_ (fun _ => ?_))
   | exact ih0 _ _
   | exact ih1 _ _ _ _
   | exact impl_itemOk.mono _ _ _ _ _ _ _ _
   | exact impl_kidsOk.mono _ _
   | exact impl_order.mono _ _
   | exact LeO.none _
   | refine LeO.ite ?_ ?_
   | refine LeO.bind ?_ (fun _ => ?_)
theorem impl_TreeOk.mono : ∀ a0 k, LeO (impl_TreeOk.f k a0) (impl_TreeOk.f (k + 1) a0) := by
 intro a0 k
 obtain ⟨ih0, ih1⟩ := impl_TreeOk.mono_l k
 unfold impl_TreeOk.f
 repeat' first
   | (with_reducible exact ih0 _ _)
   | (with_reducible exact ih1 _ _ _ _)
   | (with_reducible exact impl_itemOk.mono _ _ _ _ _ _ _ _)
   | (with_reducible exact impl_kidsOk.mono _ _)
   | (with_reducible exact impl_order.mono _ _)
   | (with_reducible exact LeO.refl _)
   | (with_reducible exact LeO.none _)
   | (with_reducible refine LeO.ite ?_ ?_)
   | (with_reducible refine LeO.bind ?_ (fun _ => ?_))
   | exact ih0 _ _
   | exact ih1 _ _ _ _
   | exact impl_itemOk.mono _ _ _ _ _ _ _ _
   | exact impl_kidsOk.mono _ _
   | exact impl_order.mono _ _
   | exact LeO.none _
   | refine LeO.ite ?_ ?_
   | refine LeO.bind ?_ (fun _ => ?_)
set_option maxHeartbeats 8000000 in
set_option maxRecDepth 100000 in
theorem impl_TreeOk.calls (k : Nat) (A0 : Option Addr) (c0 : Nat) (l0 : List (S70)) (r : Bool) (w : World) (hr0 : Kd.C k70 w A0 l0.length l0) (hc0 : l0.length ≤ c0) (h : impl_TreeOk.f k l0 = some r) :
  Calls Try.prog 62 #[.slice A0 l0.length c0] w fun e w' => e = .returned (.bool r) ∧ Below w.heap.size w w' := by
 have hu70 := Try.underlying70
 have HR0 := Aside0.mk hr0
 have HC0 := Aside0.mk hc0
 clear hr0 hc0
 have HB := Aside0.mk (Below.refl w.heap.size w)
 have H : ((impl_inRange.f (l0.length : Int) 1 3000).bind fun t254 => (if t254 = true then (if 0 < (l0.length : Int) then ((impl_pageOk.f ((rd_T70 l0 0).f0) ((rd_T70 l0 0).f1) ((rd_T70 l0 0).f2) ((rd_T70 l0 0).f3) ((rd_T70 l0 0).f4) ((rd_T70 l0 0).f5) ((rd_T70 l0 0).f6)).bind fun t256 => (impl_TreeOk.j0 k l0 (!t256))) else (none)) else (impl_TreeOk.j0 k l0 true))) = some r := h
 clear h
 have HC2 := Aside0.mk H
 clear H
 go_enter Try.func62, Try.ntmps62
 go_upto_region 1 with (fail)
 go_cut [15] (fun v15 wc => ∃ (kq : Nat) (x15_1 : Bool), v15 = .bool x15_1 ∧ Aside0 (impl_TreeOk.j0 kq l0 x15_1 = some r) ∧ Aside0 (kq ≤ k) ∧ Aside0 (Below w.heap.size w wc))
 case first =>
  have H := HC2.out
  clear HC2
  replace H := Option.bind_eq_some_iff.mp H
  obtain ⟨t254, A30, H⟩ := H
  replace H : (if t254 = true then (if 0 < (l0.length : Int) then ((impl_pageOk.f ((rd_T70 l0 0).f0) ((rd_T70 l0 0).f1) ((rd_T70 l0 0).f2) ((rd_T70 l0 0).f3) ((rd_T70 l0 0).f4) ((rd_T70 l0 0).f5) ((rd_T70 l0 0).f6)).bind fun t256 => (impl_TreeOk.j0 k l0 (!t256))) else (none)) else (impl_TreeOk.j0 k l0 true)) = some r := H
  have A3 := Aside0.mk A30
  clear A30
  by_cases c4 : t254 = true
  ·subst c4
   have H1 : (if 0 < (l0.length : Int) then ((impl_pageOk.f ((rd_T70 l0 0).f0) ((rd_T70 l0 0).f1) ((rd_T70 l0 0).f2) ((rd_T70 l0 0).f3) ((rd_T70 l0 0).f4) ((rd_T70 l0 0).f5) ((rd_T70 l0 0).f6)).bind fun t256 => (impl_TreeOk.j0 k l0 (!t256))) else (none)) = some r := by rw [if_pos rfl] at H; exact H
   clear H
   have H := H1
   clear H1
   by_cases c5 : 0 < (l0.length : Int)
   ·rw [if_pos c5] at H
    have c5b0 := decide_eq_true c5
    have c5b1 : decide (0 < l0.length) = true := decide_eq_true (by omega)
    clear c5
    (first | rw [c5b0] | (simp only [i64_w, i32_w]; rw [c5b0]) | skip)
    (try (generalize hgzc5 : decide (0 < (l0.length : Int)) = bqc5 at *; subst c5b0; have c5b0 := hgzc5; clear hgzc5))
    replace H := Option.bind_eq_some_iff.mp H
    obtain ⟨t256, A60, H⟩ := H
    replace H : (impl_TreeOk.j0 k l0 (!t256)) = some r := by first | exact H | (rw [c5b0]; exact H)
    have A6 := Aside0.mk A60
    clear A60
    have H' := Aside0.mk H
    clear H
    go_wp2_with (first | ((with_reducible refine gate_callee (f := 67) rfl ?_); refine goesL_ (some 7) rfl rfl Try.func67 (by kernel_rfl) rfl #[.int .i64 (l0.length : Int), .int .i64 1, .int .i64 3000] rfl (by (try simp only [List.map_toArray, List.map_cons, List.map_nil]); first | done | rfl | (simp only [List.length_drop, List.length_take]; rfl)) ?_; (with_reducible refine (impl_inRange.calls (l0.length : Int) 1 3000 true _ A3.out).mono ?_); rintro e w' ⟨rfl, ⟨nd, rfl⟩⟩; refine ⟨_, rfl, ?_⟩; have p255 : 0 ≤ (0 : Int) := (by omega); have q255 : 0 < (l0.length : Int) := of_decide_eq_true (by first | (with_reducible assumption) | assumption); obtain ⟨ad255, A255_3, c255_3, A255_6, c255_6, e255, hx255_0, hx255_1, hx255_2, hx255_3, hx255_4, hx255_5, hx255_6, hl255_3, hi255_3, hl255_6, hi255_6⟩ := at_T70 HR0.out 0 p255 q255; cases e255; have qi255 : (0 < l0.length) = True := eq_true (by omega); (try rw [show ((0 : Int)).toNat = 0 from rfl] at hx255_0); (try rw [show 0 * 7 = 0 from rfl] at hx255_0); (try rw [Addr.add_zero'] at hx255_0); (try rw [show ((0 : Int)).toNat = 0 from rfl] at hx255_1); (try rw [show 0 * 7 = 0 from rfl] at hx255_1); (try rw [Addr.add_zero'] at hx255_1); (try rw [show ((0 : Int)).toNat = 0 from rfl] at hx255_2); (try rw [show 0 * 7 = 0 from rfl] at hx255_2); (try rw [Addr.add_zero'] at hx255_2); (try rw [show ((0 : Int)).toNat = 0 from rfl] at hx255_3); (try rw [show 0 * 7 = 0 from rfl] at hx255_3); (try rw [Addr.add_zero'] at hx255_3); (try rw [show ((0 : Int)).toNat = 0 from rfl] at hx255_4); (try rw [show 0 * 7 = 0 from rfl] at hx255_4); (try rw [Addr.add_zero'] at hx255_4); (try rw [show ((0 : Int)).toNat = 0 from rfl] at hx255_5); (try rw [show 0 * 7 = 0 from rfl] at hx255_5); (try rw [Addr.add_zero'] at hx255_5); (try rw [show ((0 : Int)).toNat = 0 from rfl] at hx255_6); (try rw [show 0 * 7 = 0 from rfl] at hx255_6); (try rw [Addr.add_zero'] at hx255_6); replace hx255_0 := (HB.out.cell (World.block_lt_of_cell? w _ hx255_0)).trans hx255_0; replace hx255_1 := (HB.out.cell (World.block_lt_of_cell? w _ hx255_1)).trans hx255_1; replace hx255_2 := (HB.out.cell (World.block_lt_of_cell? w _ hx255_2)).trans hx255_2; replace hx255_3 := (HB.out.cell (World.block_lt_of_cell? w _ hx255_3)).trans hx255_3; replace hx255_4 := (HB.out.cell (World.block_lt_of_cell? w _ hx255_4)).trans hx255_4; replace hx255_5 := (HB.out.cell (World.block_lt_of_cell? w _ hx255_5)).trans hx255_5; replace hx255_6 := (HB.out.cell (World.block_lt_of_cell? w _ hx255_6)).trans hx255_6; have HR255_3 := Aside0.mk hi255_3; have HC255_3 := Aside0.mk hl255_3; clear hi255_3 hl255_3; have HR255_6 := Aside0.mk hi255_6; have HC255_6 := Aside0.mk hl255_6; clear hi255_6 hl255_6; replace p255 := eq_true p255; replace q255 := eq_true q255) | (go_at_call 104; (with_reducible refine (impl_pageOk.calls ((rd_T70 l0 0).f0) ((rd_T70 l0 0).f1) ((rd_T70 l0 0).f2) _ _ ((rd_T70 l0 0).f3) ((rd_T70 l0 0).f4) ((rd_T70 l0 0).f5) _ _ ((rd_T70 l0 0).f6) t256 _ ?side1 ?side2 ?side3 ?side4 A6.out).mono ?_); (case side1 => repeat (first | exact (Kd.C_below HR255_3.out (by repeat (first | (with_reducible first | exact HB.out | apply below_alloc | apply pw_below_drewN | apply below_drew1) | exact HB.out))) | (with_reducible refine Kd.C_alloc ?_ _) | (with_reducible refine Kd.C_drewN ?_ _) | (with_reducible refine Kd.C_drew ?_))); (case side2 => exact HC255_3.out); (case side3 => repeat (first | exact (Kd.C_below HR255_6.out (by repeat (first | (with_reducible first | exact HB.out | apply below_alloc | apply pw_below_drewN | apply below_drew1) | exact HB.out))) | (with_reducible refine Kd.C_alloc ?_ _) | (with_reducible refine Kd.C_drewN ?_ _) | (with_reducible refine Kd.C_drew ?_))); (case side4 => exact HC255_6.out); rintro e w7 ⟨rfl, hb⟩; have n0_ := Aside0.mk (below_step (by repeat (first | (with_reducible first | exact HB.out | apply below_alloc | apply pw_below_drewN | apply below_drew1) | exact HB.out)) hb); clear HB; have HB := n0_; clear n0_; (try clear hb); (try clear hb2); (try clear hk); (try clear hi)))
    go_meet
    case rel => exact ⟨_, (!t256), (by first | rfl | (simp; done) | (simp [*]; done)), (by first | exact H' | (have h_ := H'.out; rw [c5b0] at h_; exact ⟨h_⟩)), ⟨by first | omega | exact Nat.le_refl _⟩, ⟨by repeat (first | (with_reducible first | exact HB.out | apply below_alloc | apply pw_below_drewN | apply below_drew1) | exact HB.out)⟩⟩
   ·rw [if_neg c5] at H
    exact absurd H (by simp)
  ·replace c4 := Bool.eq_false_iff.mpr c4
   subst c4
   have H1 : (impl_TreeOk.j0 k l0 true) = some r := by rw [if_neg (show ¬ (false = true) by decide)] at H; exact H
   clear H
   have H := H1
   clear H1
   have H' := Aside0.mk H
   clear H
   go_wp2_with (first | ((with_reducible refine gate_callee (f := 67) rfl ?_); refine goesL_ (some 7) rfl rfl Try.func67 (by kernel_rfl) rfl #[.int .i64 (l0.length : Int), .int .i64 1, .int .i64 3000] rfl (by (try simp only [List.map_toArray, List.map_cons, List.map_nil]); first | done | rfl | (simp only [List.length_drop, List.length_take]; rfl)) ?_; (with_reducible refine (impl_inRange.calls (l0.length : Int) 1 3000 false _ A3.out).mono ?_); rintro e w' ⟨rfl, ⟨nd, rfl⟩⟩; refine ⟨_, rfl, ?_⟩))
   go_meet
   case rel => exact ⟨_, (true), (by first | rfl | (simp; done) | (simp [*]; done)), H', ⟨by first | omega | exact Nat.le_refl _⟩, ⟨by repeat (first | (with_reducible first | exact HB.out | apply below_alloc | apply pw_below_drewN | apply below_drew1) | exact HB.out)⟩⟩
 case rest =>
  clear HC2
  try clear c2
  try clear p2
  try clear q2
  try clear hx2
  try clear qi2
  try clear c4
  try clear c5
  try clear c5b0
  try clear c5b1
  try clear c6
  try clear hx255_0
  try clear hx255_1
  try clear hx255_2
  try clear hx255_3
  try clear hx255_4
  try clear hx255_5
  try clear hx255_6
  try clear p255
  try clear q255
  obtain ⟨kq, x15_1, rfl, HA, HJ1, HB⟩ := hcut
  cases kq with
  | zero => exact absurd HA.out (by simp [impl_TreeOk.j0])
  | succ kj1 =>
   have H := HA.out
   clear HA
   simp only [impl_TreeOk.j0] at H
   by_cases c8 : x15_1 = true
   ·subst c8
    have H1 : (some false) = some r := by rw [if_pos rfl] at H; exact H
    clear H
    have H := H1
    clear H1
    obtain rfl := Option.some.inj H
    go_wp2
    go_ret
    exact ⟨by first | rfl | (simp [errW_none, errW_some] <;> rfl) | (simp [*, errW_none, errW_some] <;> rfl), by repeat (first | (with_reducible first | exact HB.out | apply below_alloc | apply pw_below_drewN | apply below_drew1) | exact HB.out)⟩
   ·replace c8 := Bool.eq_false_iff.mpr c8
    subst c8
    have H1 : (if 1 ≤ (l0.length : Int) then ((some (l0.drop 1 : List (S70))).bind fun y257 => (impl_TreeOk.l0 kj1 l0 y257 (y257.length : Int) 0)) else (none)) = some r := by rw [if_neg (show ¬ (false = true) by decide)] at H; exact H
    clear H
    have H := H1
    clear H1
    by_cases c9 : 1 ≤ (l0.length : Int)
    ·rw [if_pos c9] at H
     have c9b0 := eq_true c9
     have c9b1 := decide_eq_true c9
     clear c9
     obtain ⟨y257, hy257⟩ : ∃ y_ : List (S70), y_ = (l0.drop 1) := ⟨_, rfl⟩
     replace H : (impl_TreeOk.l0 kj1 l0 y257 (y257.length : Int) 0) = some r := by first | (rw [hy257]; with_reducible exact H) | (have H2_ := (Option.bind_some _ _).symm.trans H; rw [hy257]; with_reducible exact H2_) | (have H2_ := (Option.bind_some _ _).symm.trans H; with_reducible exact H2_) | with_reducible exact H | (rw [hy257]; exact H) | exact H
     have Ny257 := Aside0.mk hy257
     clear hy257
     have H' := Aside0.mk H
     clear H
     have q10 : (1 : Int) ≤ ((l0.length : Int) : Int) := of_decide_eq_true (by first | (with_reducible assumption) | assumption)
     obtain ⟨i010, hi010, _, hsz10, _⟩ := info_parts info70
     have hroom10 : l0.length ≤ c0 := HC0.out
     have hC10 : Kd.C k70 _ A0 l0.length l0 := HR0.out
     have hcut10 := cut_from (P := Try.prog) 30 70 .i64 Try.underlying30 hi010 7 hsz10 A0 l0.length c0 1 (by omega) q10
     have hr10 := Kd.C_drop (m := (1 : Int).toNat) (c := c0) hC10 (by omega) hroom10
     obtain ⟨A10, hA10⟩ : ∃ A1, A1 = (if c0 = (1 : Int).toNat then A0 else (A0 : Option Addr).map (·.add ((1 : Int).toNat * 7))) := ⟨_, rfl⟩
     obtain ⟨c10, hc10⟩ : ∃ c1, c1 = c0 - (1 : Int).toNat := ⟨_, rfl⟩
     have hy10 : y257.length = l0.length - (1 : Int).toNat := (by rw [Ny257.out, List.length_drop] <;> omega)
     rw [show (l0).drop (1 : Int).toNat = y257 from Ny257.out.symm] at hr10
     replace hr10 : Kd.C k70 _ A10 y257.length y257 := (by rw [hA10]; exact hr10)
     rw [← hy10, ← hA10, ← hc10] at hcut10
     have HR260 := Aside0.mk hr10
     have HC260 := Aside0.mk (show y257.length ≤ c10 from by rw [hy10, hc10]; exact Nat.sub_le_sub_right hroom10 _)
     clear hr10 hC10 hroom10 hi010 hsz10 hc10
     have KY10 := Aside0.mk hy10
     have KA10 := Aside0.mk hA10
     clear hy10 hA10
     replace q10 := eq_true q10
     go_wp2
     go_loopg [19] kj1 (fun kq v19 w' => ∃ (x19_2 : Int), v19 = .int .i64 x19_2 ∧ Aside0 (impl_TreeOk.l0 kq l0 y257 (y257.length : Int) x19_2 = some r) ∧ Aside0 (kq ≤ kj1) ∧ Aside0 (Below w.heap.size w w'))
     case atStart => exact ⟨(0), (by first | rfl | (simp; done) | (simp [*]; done)), H', ⟨Nat.le_refl _⟩, ⟨by repeat (first | (with_reducible first | exact HB.out | apply below_alloc | apply pw_below_drewN | apply below_drew1) | exact HB.out)⟩⟩
     case round =>
      clear H'
      try clear c1
      try clear q1
      try clear c2
      try clear p2
      try clear q2
      try clear hx2
      try clear qi2
      try clear c4
      try clear c5
      try clear c5b0
      try clear c5b1
      try clear c6
      try clear c8
      try clear c9
      try clear c9b0
      try clear c9b1
      try clear c10
      try clear q10
      try clear hx255_0
      try clear hx255_1
      try clear hx255_2
      try clear hx255_3
      try clear hx255_4
      try clear hx255_5
      try clear hx255_6
      try clear p2
      try clear p255
      try clear q10
      try clear q2
      try clear q255
      obtain ⟨x19_2, rfl, HA, HK2, HB⟩ := hrel
      cases gk with
      | zero => exact absurd HA.out (by simp [impl_TreeOk.l0])
      | succ k2 =>
       have H := HA.out
       clear HA
       simp only [impl_TreeOk.l0] at H
       by_cases c11 : x19_2 < (y257.length : Int)
       ·rw [if_pos c11] at H
        have c11b0 := decide_eq_true c11
        clear c11
        by_cases c12 : 0 ≤ x19_2
        ·rw [if_pos c12] at H
         have c12b0 := decide_eq_true c12
         clear c12
         by_cases c13 : x19_2 < (y257.length : Int)
         ·rw [if_pos c13] at H
          have c13b0 := decide_eq_true c13
          clear c13
          replace H := Option.bind_eq_some_iff.mp H
          obtain ⟨t267, A140, H⟩ := H
          replace H : (if t267 = true then ((impl_inRange.f ((rd_T70 y257 x19_2).f5) 0 (wrap64 ((l0.length : Int) - 1))).bind fun t268 => (if t268 = true then (if 0 ≤ ((rd_T70 y257 x19_2).f5) then (if ((rd_T70 y257 x19_2).f5) < (l0.length : Int) then ((impl_hasKids.f ((rd_T70 l0 ((rd_T70 y257 x19_2).f5)).f0)).bind fun t270 => (if t270 = true then (impl_TreeOk.l0 k2 l0 y257 (y257.length : Int) (wrap64 (x19_2 + 1))) else (some false))) else (none)) else (none)) else (some false))) else (some false)) = some r := H
          have A14 := Aside0.mk A140
          clear A140
          by_cases c15 : t267 = true
          ·subst c15
           have H1 : ((impl_inRange.f ((rd_T70 y257 x19_2).f5) 0 (wrap64 ((l0.length : Int) - 1))).bind fun t268 => (if t268 = true then (if 0 ≤ ((rd_T70 y257 x19_2).f5) then (if ((rd_T70 y257 x19_2).f5) < (l0.length : Int) then ((impl_hasKids.f ((rd_T70 l0 ((rd_T70 y257 x19_2).f5)).f0)).bind fun t270 => (if t270 = true then (impl_TreeOk.l0 k2 l0 y257 (y257.length : Int) (wrap64 (x19_2 + 1))) else (some false))) else (none)) else (none)) else (some false))) = some r := by rw [if_pos rfl] at H; exact H
           clear H
           have H := H1
           clear H1
           replace H := Option.bind_eq_some_iff.mp H
           obtain ⟨t268, A160, H⟩ := H
           replace H : (if t268 = true then (if 0 ≤ ((rd_T70 y257 x19_2).f5) then (if ((rd_T70 y257 x19_2).f5) < (l0.length : Int) then ((impl_hasKids.f ((rd_T70 l0 ((rd_T70 y257 x19_2).f5)).f0)).bind fun t270 => (if t270 = true then (impl_TreeOk.l0 k2 l0 y257 (y257.length : Int) (wrap64 (x19_2 + 1))) else (some false))) else (none)) else (none)) else (some false)) = some r := H
           have A16 := Aside0.mk A160
           clear A160
           by_cases c17 : t268 = true
           ·subst c17
            have H1 : (if 0 ≤ ((rd_T70 y257 x19_2).f5) then (if ((rd_T70 y257 x19_2).f5) < (l0.length : Int) then ((impl_hasKids.f ((rd_T70 l0 ((rd_T70 y257 x19_2).f5)).f0)).bind fun t270 => (if t270 = true then (impl_TreeOk.l0 k2 l0 y257 (y257.length : Int) (wrap64 (x19_2 + 1))) else (some false))) else (none)) else (none)) = some r := by rw [if_pos rfl] at H; exact H
            clear H
            have H := H1
            clear H1
            by_cases c18 : 0 ≤ ((rd_T70 y257 x19_2).f5)
            ·rw [if_pos c18] at H
             have c18b0 := decide_eq_true c18
             clear c18
             by_cases c19 : ((rd_T70 y257 x19_2).f5) < (l0.length : Int)
             ·rw [if_pos c19] at H
              have c19b0 := decide_eq_true c19
              clear c19
              replace H := Option.bind_eq_some_iff.mp H
              obtain ⟨t270, A200, H⟩ := H
              replace H : (if t270 = true then (impl_TreeOk.l0 k2 l0 y257 (y257.length : Int) (wrap64 (x19_2 + 1))) else (some false)) = some r := H
              have A20 := Aside0.mk A200
              clear A200
              by_cases c21 : t270 = true
              ·subst c21
               have H1 : (impl_TreeOk.l0 k2 l0 y257 (y257.length : Int) (wrap64 (x19_2 + 1))) = some r := by rw [if_pos rfl] at H; exact H
               clear H
               have H := H1
               clear H1
               have H' := Aside0.mk H
               clear H
               have p265 : 0 ≤ (x19_2 : Int) := of_decide_eq_true (by first | (with_reducible assumption) | assumption)
               have q265 : x19_2 < (y257.length : Int) := of_decide_eq_true (by first | (with_reducible assumption) | assumption)
               obtain ⟨ad265, A265_3, c265_3, A265_6, c265_6, e265, hx265_0, hx265_1, hx265_2, hx265_3, hx265_4, hx265_5, hx265_6, hl265_3, hi265_3, hl265_6, hi265_6⟩ := at_T70 HR260.out x19_2 p265 q265
               cases e265
               replace hx265_0 := (HB.out.cell (World.block_lt_of_cell? w _ hx265_0)).trans hx265_0
               replace hx265_1 := (HB.out.cell (World.block_lt_of_cell? w _ hx265_1)).trans hx265_1
               replace hx265_2 := (HB.out.cell (World.block_lt_of_cell? w _ hx265_2)).trans hx265_2
               replace hx265_3 := (HB.out.cell (World.block_lt_of_cell? w _ hx265_3)).trans hx265_3
               replace hx265_4 := (HB.out.cell (World.block_lt_of_cell? w _ hx265_4)).trans hx265_4
               replace hx265_5 := (HB.out.cell (World.block_lt_of_cell? w _ hx265_5)).trans hx265_5
               replace hx265_6 := (HB.out.cell (World.block_lt_of_cell? w _ hx265_6)).trans hx265_6
               have HR265_3 := Aside0.mk hi265_3
               have HC265_3 := Aside0.mk hl265_3
               clear hi265_3 hl265_3
               have HR265_6 := Aside0.mk hi265_6
               have HC265_6 := Aside0.mk hl265_6
               clear hi265_6 hl265_6
               replace p265 := eq_true p265
               replace q265 := eq_true q265
               go_wp2_with (first | ((with_reducible refine gate_dst (N := 4) rfl ?_); (try (refine gate_guard (by rfl) ?_; dsimp only)); refine box_event ?hg (N := 4) ?hd (cs := #[.int .i64 0, .int .i64 0, .string (⟨#[]⟩ : ByteArray), .slice none 0 0, .string (⟨#[]⟩ : ByteArray), .int .i64 0, .slice none 0 0]) (t := 70) ?hr ?_; (case hd => rfl); (case hg => rfl); (case hr => first | (go_simp; done) | (go_simp; rfl)); intro gb266 hg w22 hbox hb; have n0_ := Aside0.mk (below_step (by repeat (first | (with_reducible first | exact HB.out | apply below_alloc | apply pw_below_drewN | apply below_drew1) | exact HB.out)) hb); have n1_ := Aside0.mk (hbox); have n2_ := Aside0.mk ((by rw [hg]; exact (below_size (by repeat (first | (with_reducible first | exact HB.out | apply below_alloc | apply pw_below_drewN | apply below_drew1) | exact HB.out))) : w.heap.size ≤ gb266)); have n3_ := Aside0.mk ((by rw [hg]; exact (below_size (by repeat (first | (with_reducible first | exact HB.out | apply below_alloc | apply pw_below_drewN | apply below_drew1) | exact HB.out))) : w.heap.size ≤ gb266)); clear HB; have HB := n0_; have BK266 := n1_; have GW266 := n2_; have GE266 := n3_; clear n0_ n1_ n2_ n3_; clear hb hbox hg; have hcz23_0 : w22.cell? ⟨gb266, 0, none⟩ = some (.int .i64 0) := (blk_cell BK266.out 0).trans rfl; have hcz23_1 : w22.cell? ⟨gb266, 1, none⟩ = some (.int .i64 0) := (blk_cell BK266.out 1).trans rfl; have hcz23_2 : w22.cell? ⟨gb266, 2, none⟩ = some (.string (⟨#[]⟩ : ByteArray)) := (blk_cell BK266.out 2).trans rfl; have hcz23_3 : w22.cell? ⟨gb266, 3, none⟩ = some (.slice none 0 0) := (blk_cell BK266.out 3).trans rfl; have hcz23_4 : w22.cell? ⟨gb266, 4, none⟩ = some (.string (⟨#[]⟩ : ByteArray)) := (blk_cell BK266.out 4).trans rfl; have hcz23_5 : w22.cell? ⟨gb266, 5, none⟩ = some (.int .i64 0) := (blk_cell BK266.out 5).trans rfl; have hcz23_6 : w22.cell? ⟨gb266, 6, none⟩ = some (.slice none 0 0) := (blk_cell BK266.out 6).trans rfl; have hfz23_0 := blk_frozen BK266.out 0; have hfz23_1 := blk_frozen BK266.out 1; have hfz23_2 := blk_frozen BK266.out 2; have hfz23_3 := blk_frozen BK266.out 3; have hfz23_4 := blk_frozen BK266.out 4; have hfz23_5 := blk_frozen BK266.out 5; have hfz23_6 := blk_frozen BK266.out 6) | ((with_reducible refine gate_callee (f := 105) rfl ?_); refine goesL_ (some 24) rfl rfl Try.func105 (by kernel_rfl) rfl #[.agg #[.int .i64 ((rd_T70 y257 x19_2).f0), .int .i64 ((rd_T70 y257 x19_2).f1), .string ((rd_T70 y257 x19_2).f2), .slice A265_3 ((rd_T70 y257 x19_2).f3).length c265_3, .string ((rd_T70 y257 x19_2).f4), .int .i64 ((rd_T70 y257 x19_2).f5), .slice A265_6 ((rd_T70 y257 x19_2).f6).length c265_6]] rfl (by (try simp only [List.map_toArray, List.map_cons, List.map_nil]); first | done | rfl | (simp only [List.length_drop, List.length_take]; rfl)) ?_; (with_reducible refine (impl_itemOk.calls k2 ((rd_T70 y257 x19_2).f0) ((rd_T70 y257 x19_2).f1) ((rd_T70 y257 x19_2).f2) _ _ ((rd_T70 y257 x19_2).f3) ((rd_T70 y257 x19_2).f4) ((rd_T70 y257 x19_2).f5) _ _ ((rd_T70 y257 x19_2).f6) true _ ?side1 ?side2 ?side3 ?side4 A14.out).mono ?_); (case side1 => exact Kd.C_below HR265_3.out (by repeat (first | (with_reducible first | exact HB.out | apply below_alloc | apply pw_below_drewN | apply below_drew1 | refine below_set ?_ GE266.out) | exact HB.out))); (case side2 => exact HC265_3.out); (case side3 => exact Kd.C_below HR265_6.out (by repeat (first | (with_reducible first | exact HB.out | apply below_alloc | apply pw_below_drewN | apply below_drew1 | refine below_set ?_ GE266.out) | exact HB.out))); (case side4 => exact HC265_6.out); rintro e w24 ⟨rfl, hb⟩; refine ⟨_, rfl, ?_⟩; have n0_ := Aside0.mk (blk_below (g := gb266) (o := .cells #[.int .i64 ((rd_T70 y257 x19_2).f0), .int .i64 ((rd_T70 y257 x19_2).f1), .string ((rd_T70 y257 x19_2).f2), .slice A265_3 ((rd_T70 y257 x19_2).f3).length c265_3, .string ((rd_T70 y257 x19_2).f4), .int .i64 ((rd_T70 y257 x19_2).f5), .slice A265_6 ((rd_T70 y257 x19_2).f6).length c265_6] 70 (0, 0)) (by (with_reducible repeat (first | refine blk_drewN ?_ _ | refine blk_drew ?_ | refine blk_alloc ?_ _)); refine blk_put (cs := #[.int .i64 ((rd_T70 y257 x19_2).f0), .int .i64 ((rd_T70 y257 x19_2).f1), .string ((rd_T70 y257 x19_2).f2), .slice A265_3 ((rd_T70 y257 x19_2).f3).length c265_3, .string ((rd_T70 y257 x19_2).f4), .int .i64 ((rd_T70 y257 x19_2).f5), .slice none 0 0]) ?_ 6 _ rfl; (with_reducible repeat (first | refine blk_drewN ?_ _ | refine blk_drew ?_ | refine blk_alloc ?_ _)); refine blk_put (cs := #[.int .i64 ((rd_T70 y257 x19_2).f0), .int .i64 ((rd_T70 y257 x19_2).f1), .string ((rd_T70 y257 x19_2).f2), .slice A265_3 ((rd_T70 y257 x19_2).f3).length c265_3, .string ((rd_T70 y257 x19_2).f4), .int .i64 0, .slice none 0 0]) ?_ 5 _ rfl; (with_reducible repeat (first | refine blk_drewN ?_ _ | refine blk_drew ?_ | refine blk_alloc ?_ _)); refine blk_put (cs := #[.int .i64 ((rd_T70 y257 x19_2).f0), .int .i64 ((rd_T70 y257 x19_2).f1), .string ((rd_T70 y257 x19_2).f2), .slice A265_3 ((rd_T70 y257 x19_2).f3).length c265_3, .string (⟨#[]⟩ : ByteArray), .int .i64 0, .slice none 0 0]) ?_ 4 _ rfl; (with_reducible repeat (first | refine blk_drewN ?_ _ | refine blk_drew ?_ | refine blk_alloc ?_ _)); refine blk_put (cs := #[.int .i64 ((rd_T70 y257 x19_2).f0), .int .i64 ((rd_T70 y257 x19_2).f1), .string ((rd_T70 y257 x19_2).f2), .slice none 0 0, .string (⟨#[]⟩ : ByteArray), .int .i64 0, .slice none 0 0]) ?_ 3 _ rfl; (with_reducible repeat (first | refine blk_drewN ?_ _ | refine blk_drew ?_ | refine blk_alloc ?_ _)); refine blk_put (cs := #[.int .i64 ((rd_T70 y257 x19_2).f0), .int .i64 ((rd_T70 y257 x19_2).f1), .string (⟨#[]⟩ : ByteArray), .slice none 0 0, .string (⟨#[]⟩ : ByteArray), .int .i64 0, .slice none 0 0]) ?_ 2 _ rfl; (with_reducible repeat (first | refine blk_drewN ?_ _ | refine blk_drew ?_ | refine blk_alloc ?_ _)); refine blk_put (cs := #[.int .i64 ((rd_T70 y257 x19_2).f0), .int .i64 0, .string (⟨#[]⟩ : ByteArray), .slice none 0 0, .string (⟨#[]⟩ : ByteArray), .int .i64 0, .slice none 0 0]) ?_ 1 _ rfl; (with_reducible repeat (first | refine blk_drewN ?_ _ | refine blk_drew ?_ | refine blk_alloc ?_ _)); refine blk_put (cs := #[.int .i64 0, .int .i64 0, .string (⟨#[]⟩ : ByteArray), .slice none 0 0, .string (⟨#[]⟩ : ByteArray), .int .i64 0, .slice none 0 0]) ?_ 0 _ rfl; (with_reducible repeat (first | refine blk_drewN ?_ _ | refine blk_drew ?_ | refine blk_alloc ?_ _)); exact BK266.out) hb); have n1_ := Aside0.mk (below_step (by repeat (first | (with_reducible first | exact HB.out | apply below_alloc | apply pw_below_drewN | apply below_drew1 | refine below_set ?_ GE266.out) | exact HB.out)) hb); clear BK266; clear HB; have BK266 := n0_; have HB := n1_; clear n0_ n1_; (try clear hb); (try clear hb2); (try clear hk); (try clear hi); have hcz25_0 : w24.cell? ⟨gb266, 0, none⟩ = some (.int .i64 ((rd_T70 y257 x19_2).f0)) := (blk_cell BK266.out 0).trans rfl; have hcz25_1 : w24.cell? ⟨gb266, 1, none⟩ = some (.int .i64 ((rd_T70 y257 x19_2).f1)) := (blk_cell BK266.out 1).trans rfl; have hcz25_2 : w24.cell? ⟨gb266, 2, none⟩ = some (.string ((rd_T70 y257 x19_2).f2)) := (blk_cell BK266.out 2).trans rfl; have hcz25_3 : w24.cell? ⟨gb266, 3, none⟩ = some (.slice A265_3 ((rd_T70 y257 x19_2).f3).length c265_3) := (blk_cell BK266.out 3).trans rfl; have hcz25_4 : w24.cell? ⟨gb266, 4, none⟩ = some (.string ((rd_T70 y257 x19_2).f4)) := (blk_cell BK266.out 4).trans rfl; have hcz25_5 : w24.cell? ⟨gb266, 5, none⟩ = some (.int .i64 ((rd_T70 y257 x19_2).f5)) := (blk_cell BK266.out 5).trans rfl; have hcz25_6 : w24.cell? ⟨gb266, 6, none⟩ = some (.slice A265_6 ((rd_T70 y257 x19_2).f6).length c265_6) := (blk_cell BK266.out 6).trans rfl; have hfz25_0 := blk_frozen BK266.out 0; have hfz25_1 := blk_frozen BK266.out 1; have hfz25_2 := blk_frozen BK266.out 2; have hfz25_3 := blk_frozen BK266.out 3; have hfz25_4 := blk_frozen BK266.out 4; have hfz25_5 := blk_frozen BK266.out 5; have hfz25_6 := blk_frozen BK266.out 6) | (go_at_call 67; (with_reducible refine (impl_inRange.calls ((rd_T70 y257 x19_2).f5) 0 (wrap64 ((l0.length : Int) - 1)) true _ A16.out).mono ?_); rintro e w' ⟨rfl, ⟨nd, rfl⟩⟩; have p269 : 0 ≤ (((rd_T70 y257 x19_2).f5) : Int) := of_decide_eq_true (by first | (with_reducible assumption) | assumption); have q269 : ((rd_T70 y257 x19_2).f5) < (l0.length : Int) := of_decide_eq_true (by first | (with_reducible assumption) | assumption); obtain ⟨ad269, A269_3, c269_3, A269_6, c269_6, e269, hx269_0, hx269_1, hx269_2, hx269_3, hx269_4, hx269_5, hx269_6, hl269_3, hi269_3, hl269_6, hi269_6⟩ := at_T70 HR0.out ((rd_T70 y257 x19_2).f5) p269 q269; cases e269; replace hx269_0 := (HB.out.cell (World.block_lt_of_cell? w _ hx269_0)).trans hx269_0; replace hx269_1 := (HB.out.cell (World.block_lt_of_cell? w _ hx269_1)).trans hx269_1; replace hx269_2 := (HB.out.cell (World.block_lt_of_cell? w _ hx269_2)).trans hx269_2; replace hx269_3 := (HB.out.cell (World.block_lt_of_cell? w _ hx269_3)).trans hx269_3; replace hx269_4 := (HB.out.cell (World.block_lt_of_cell? w _ hx269_4)).trans hx269_4; replace hx269_5 := (HB.out.cell (World.block_lt_of_cell? w _ hx269_5)).trans hx269_5; replace hx269_6 := (HB.out.cell (World.block_lt_of_cell? w _ hx269_6)).trans hx269_6; have HR269_3 := Aside0.mk hi269_3; have HC269_3 := Aside0.mk hl269_3; clear hi269_3 hl269_3; have HR269_6 := Aside0.mk hi269_6; have HC269_6 := Aside0.mk hl269_6; clear hi269_6 hl269_6; replace p269 := eq_true p269; replace q269 := eq_true q269) | (go_at_call 106; (with_reducible refine (impl_hasKids.calls ((rd_T70 l0 ((rd_T70 y257 x19_2).f5)).f0) true _ A20.out).mono ?_); rintro e w' ⟨rfl, ⟨nd, rfl⟩⟩))
               go_roundg k2
               case measure => have := HJ1.out; have := HK2.out; omega
               case rel => exact ⟨(wrap64 (x19_2 + 1)), (by first | rfl | (simp; done) | (simp [*]; done)), H', ⟨by have := HJ1.out; have := HK2.out; omega⟩, ⟨by repeat (first | (with_reducible first | exact HB.out | apply below_alloc | apply pw_below_drewN | apply below_drew1 | refine below_set ?_ GE266.out) | exact HB.out)⟩⟩
              ·replace c21 := Bool.eq_false_iff.mpr c21
               subst c21
               have H1 : (some false) = some r := by rw [if_neg (show ¬ (false = true) by decide)] at H; exact H
               clear H
               have H := H1
               clear H1
               obtain rfl := Option.some.inj H
               have p265 : 0 ≤ (x19_2 : Int) := of_decide_eq_true (by first | (with_reducible assumption) | assumption)
               have q265 : x19_2 < (y257.length : Int) := of_decide_eq_true (by first | (with_reducible assumption) | assumption)
               obtain ⟨ad265, A265_3, c265_3, A265_6, c265_6, e265, hx265_0, hx265_1, hx265_2, hx265_3, hx265_4, hx265_5, hx265_6, hl265_3, hi265_3, hl265_6, hi265_6⟩ := at_T70 HR260.out x19_2 p265 q265
               cases e265
               replace hx265_0 := (HB.out.cell (World.block_lt_of_cell? w _ hx265_0)).trans hx265_0
               replace hx265_1 := (HB.out.cell (World.block_lt_of_cell? w _ hx265_1)).trans hx265_1
               replace hx265_2 := (HB.out.cell (World.block_lt_of_cell? w _ hx265_2)).trans hx265_2
               replace hx265_3 := (HB.out.cell (World.block_lt_of_cell? w _ hx265_3)).trans hx265_3
               replace hx265_4 := (HB.out.cell (World.block_lt_of_cell? w _ hx265_4)).trans hx265_4
               replace hx265_5 := (HB.out.cell (World.block_lt_of_cell? w _ hx265_5)).trans hx265_5
               replace hx265_6 := (HB.out.cell (World.block_lt_of_cell? w _ hx265_6)).trans hx265_6
               have HR265_3 := Aside0.mk hi265_3
               have HC265_3 := Aside0.mk hl265_3
               clear hi265_3 hl265_3
               have HR265_6 := Aside0.mk hi265_6
               have HC265_6 := Aside0.mk hl265_6
               clear hi265_6 hl265_6
               replace p265 := eq_true p265
               replace q265 := eq_true q265
               go_wp2_with (first | ((with_reducible refine gate_dst (N := 4) rfl ?_); (try (refine gate_guard (by rfl) ?_; dsimp only)); refine box_event ?hg (N := 4) ?hd (cs := #[.int .i64 0, .int .i64 0, .string (⟨#[]⟩ : ByteArray), .slice none 0 0, .string (⟨#[]⟩ : ByteArray), .int .i64 0, .slice none 0 0]) (t := 70) ?hr ?_; (case hd => rfl); (case hg => rfl); (case hr => first | (go_simp; done) | (go_simp; rfl)); intro gb266 hg w26 hbox hb; have n0_ := Aside0.mk (below_step (by repeat (first | (with_reducible first | exact HB.out | apply below_alloc | apply pw_below_drewN | apply below_drew1) | exact HB.out)) hb); have n1_ := Aside0.mk (hbox); have n2_ := Aside0.mk ((by rw [hg]; exact (below_size (by repeat (first | (with_reducible first | exact HB.out | apply below_alloc | apply pw_below_drewN | apply below_drew1) | exact HB.out))) : w.heap.size ≤ gb266)); have n3_ := Aside0.mk ((by rw [hg]; exact (below_size (by repeat (first | (with_reducible first | exact HB.out | apply below_alloc | apply pw_below_drewN | apply below_drew1) | exact HB.out))) : w.heap.size ≤ gb266)); clear HB; have HB := n0_; have BK266 := n1_; have GW266 := n2_; have GE266 := n3_; clear n0_ n1_ n2_ n3_; clear hb hbox hg; have hcz27_0 : w26.cell? ⟨gb266, 0, none⟩ = some (.int .i64 0) := (blk_cell BK266.out 0).trans rfl; have hcz27_1 : w26.cell? ⟨gb266, 1, none⟩ = some (.int .i64 0) := (blk_cell BK266.out 1).trans rfl; have hcz27_2 : w26.cell? ⟨gb266, 2, none⟩ = some (.string (⟨#[]⟩ : ByteArray)) := (blk_cell BK266.out 2).trans rfl; have hcz27_3 : w26.cell? ⟨gb266, 3, none⟩ = some (.slice none 0 0) := (blk_cell BK266.out 3).trans rfl; have hcz27_4 : w26.cell? ⟨gb266, 4, none⟩ = some (.string (⟨#[]⟩ : ByteArray)) := (blk_cell BK266.out 4).trans rfl; have hcz27_5 : w26.cell? ⟨gb266, 5, none⟩ = some (.int .i64 0) := (blk_cell BK266.out 5).trans rfl; have hcz27_6 : w26.cell? ⟨gb266, 6, none⟩ = some (.slice none 0 0) := (blk_cell BK266.out 6).trans rfl; have hfz27_0 := blk_frozen BK266.out 0; have hfz27_1 := blk_frozen BK266.out 1; have hfz27_2 := blk_frozen BK266.out 2; have hfz27_3 := blk_frozen BK266.out 3; have hfz27_4 := blk_frozen BK266.out 4; have hfz27_5 := blk_frozen BK266.out 5; have hfz27_6 := blk_frozen BK266.out 6) | ((with_reducible refine gate_callee (f := 105) rfl ?_); refine goesL_ (some 24) rfl rfl Try.func105 (by kernel_rfl) rfl #[.agg #[.int .i64 ((rd_T70 y257 x19_2).f0), .int .i64 ((rd_T70 y257 x19_2).f1), .string ((rd_T70 y257 x19_2).f2), .slice A265_3 ((rd_T70 y257 x19_2).f3).length c265_3, .string ((rd_T70 y257 x19_2).f4), .int .i64 ((rd_T70 y257 x19_2).f5), .slice A265_6 ((rd_T70 y257 x19_2).f6).length c265_6]] rfl (by (try simp only [List.map_toArray, List.map_cons, List.map_nil]); first | done | rfl | (simp only [List.length_drop, List.length_take]; rfl)) ?_; (with_reducible refine (impl_itemOk.calls k2 ((rd_T70 y257 x19_2).f0) ((rd_T70 y257 x19_2).f1) ((rd_T70 y257 x19_2).f2) _ _ ((rd_T70 y257 x19_2).f3) ((rd_T70 y257 x19_2).f4) ((rd_T70 y257 x19_2).f5) _ _ ((rd_T70 y257 x19_2).f6) true _ ?side1 ?side2 ?side3 ?side4 A14.out).mono ?_); (case side1 => exact Kd.C_below HR265_3.out (by repeat (first | (with_reducible first | exact HB.out | apply below_alloc | apply pw_below_drewN | apply below_drew1 | refine below_set ?_ GE266.out) | exact HB.out))); (case side2 => exact HC265_3.out); (case side3 => exact Kd.C_below HR265_6.out (by repeat (first | (with_reducible first | exact HB.out | apply below_alloc | apply pw_below_drewN | apply below_drew1 | refine below_set ?_ GE266.out) | exact HB.out))); (case side4 => exact HC265_6.out); rintro e w28 ⟨rfl, hb⟩; refine ⟨_, rfl, ?_⟩; have n0_ := Aside0.mk (blk_below (g := gb266) (o := .cells #[.int .i64 ((rd_T70 y257 x19_2).f0), .int .i64 ((rd_T70 y257 x19_2).f1), .string ((rd_T70 y257 x19_2).f2), .slice A265_3 ((rd_T70 y257 x19_2).f3).length c265_3, .string ((rd_T70 y257 x19_2).f4), .int .i64 ((rd_T70 y257 x19_2).f5), .slice A265_6 ((rd_T70 y257 x19_2).f6).length c265_6] 70 (0, 0)) (by (with_reducible repeat (first | refine blk_drewN ?_ _ | refine blk_drew ?_ | refine blk_alloc ?_ _)); refine blk_put (cs := #[.int .i64 ((rd_T70 y257 x19_2).f0), .int .i64 ((rd_T70 y257 x19_2).f1), .string ((rd_T70 y257 x19_2).f2), .slice A265_3 ((rd_T70 y257 x19_2).f3).length c265_3, .string ((rd_T70 y257 x19_2).f4), .int .i64 ((rd_T70 y257 x19_2).f5), .slice none 0 0]) ?_ 6 _ rfl; (with_reducible repeat (first | refine blk_drewN ?_ _ | refine blk_drew ?_ | refine blk_alloc ?_ _)); refine blk_put (cs := #[.int .i64 ((rd_T70 y257 x19_2).f0), .int .i64 ((rd_T70 y257 x19_2).f1), .string ((rd_T70 y257 x19_2).f2), .slice A265_3 ((rd_T70 y257 x19_2).f3).length c265_3, .string ((rd_T70 y257 x19_2).f4), .int .i64 0, .slice none 0 0]) ?_ 5 _ rfl; (with_reducible repeat (first | refine blk_drewN ?_ _ | refine blk_drew ?_ | refine blk_alloc ?_ _)); refine blk_put (cs := #[.int .i64 ((rd_T70 y257 x19_2).f0), .int .i64 ((rd_T70 y257 x19_2).f1), .string ((rd_T70 y257 x19_2).f2), .slice A265_3 ((rd_T70 y257 x19_2).f3).length c265_3, .string (⟨#[]⟩ : ByteArray), .int .i64 0, .slice none 0 0]) ?_ 4 _ rfl; (with_reducible repeat (first | refine blk_drewN ?_ _ | refine blk_drew ?_ | refine blk_alloc ?_ _)); refine blk_put (cs := #[.int .i64 ((rd_T70 y257 x19_2).f0), .int .i64 ((rd_T70 y257 x19_2).f1), .string ((rd_T70 y257 x19_2).f2), .slice none 0 0, .string (⟨#[]⟩ : ByteArray), .int .i64 0, .slice none 0 0]) ?_ 3 _ rfl; (with_reducible repeat (first | refine blk_drewN ?_ _ | refine blk_drew ?_ | refine blk_alloc ?_ _)); refine blk_put (cs := #[.int .i64 ((rd_T70 y257 x19_2).f0), .int .i64 ((rd_T70 y257 x19_2).f1), .string (⟨#[]⟩ : ByteArray), .slice none 0 0, .string (⟨#[]⟩ : ByteArray), .int .i64 0, .slice none 0 0]) ?_ 2 _ rfl; (with_reducible repeat (first | refine blk_drewN ?_ _ | refine blk_drew ?_ | refine blk_alloc ?_ _)); refine blk_put (cs := #[.int .i64 ((rd_T70 y257 x19_2).f0), .int .i64 0, .string (⟨#[]⟩ : ByteArray), .slice none 0 0, .string (⟨#[]⟩ : ByteArray), .int .i64 0, .slice none 0 0]) ?_ 1 _ rfl; (with_reducible repeat (first | refine blk_drewN ?_ _ | refine blk_drew ?_ | refine blk_alloc ?_ _)); refine blk_put (cs := #[.int .i64 0, .int .i64 0, .string (⟨#[]⟩ : ByteArray), .slice none 0 0, .string (⟨#[]⟩ : ByteArray), .int .i64 0, .slice none 0 0]) ?_ 0 _ rfl; (with_reducible repeat (first | refine blk_drewN ?_ _ | refine blk_drew ?_ | refine blk_alloc ?_ _)); exact BK266.out) hb); have n1_ := Aside0.mk (below_step (by repeat (first | (with_reducible first | exact HB.out | apply below_alloc | apply pw_below_drewN | apply below_drew1 | refine below_set ?_ GE266.out) | exact HB.out)) hb); clear BK266; clear HB; have BK266 := n0_; have HB := n1_; clear n0_ n1_; (try clear hb); (try clear hb2); (try clear hk); (try clear hi); have hcz29_0 : w28.cell? ⟨gb266, 0, none⟩ = some (.int .i64 ((rd_T70 y257 x19_2).f0)) := (blk_cell BK266.out 0).trans rfl; have hcz29_1 : w28.cell? ⟨gb266, 1, none⟩ = some (.int .i64 ((rd_T70 y257 x19_2).f1)) := (blk_cell BK266.out 1).trans rfl; have hcz29_2 : w28.cell? ⟨gb266, 2, none⟩ = some (.string ((rd_T70 y257 x19_2).f2)) := (blk_cell BK266.out 2).trans rfl; have hcz29_3 : w28.cell? ⟨gb266, 3, none⟩ = some (.slice A265_3 ((rd_T70 y257 x19_2).f3).length c265_3) := (blk_cell BK266.out 3).trans rfl; have hcz29_4 : w28.cell? ⟨gb266, 4, none⟩ = some (.string ((rd_T70 y257 x19_2).f4)) := (blk_cell BK266.out 4).trans rfl; have hcz29_5 : w28.cell? ⟨gb266, 5, none⟩ = some (.int .i64 ((rd_T70 y257 x19_2).f5)) := (blk_cell BK266.out 5).trans rfl; have hcz29_6 : w28.cell? ⟨gb266, 6, none⟩ = some (.slice A265_6 ((rd_T70 y257 x19_2).f6).length c265_6) := (blk_cell BK266.out 6).trans rfl; have hfz29_0 := blk_frozen BK266.out 0; have hfz29_1 := blk_frozen BK266.out 1; have hfz29_2 := blk_frozen BK266.out 2; have hfz29_3 := blk_frozen BK266.out 3; have hfz29_4 := blk_frozen BK266.out 4; have hfz29_5 := blk_frozen BK266.out 5; have hfz29_6 := blk_frozen BK266.out 6) | (go_at_call 67; (with_reducible refine (impl_inRange.calls ((rd_T70 y257 x19_2).f5) 0 (wrap64 ((l0.length : Int) - 1)) true _ A16.out).mono ?_); rintro e w' ⟨rfl, ⟨nd, rfl⟩⟩; have p269 : 0 ≤ (((rd_T70 y257 x19_2).f5) : Int) := of_decide_eq_true (by first | (with_reducible assumption) | assumption); have q269 : ((rd_T70 y257 x19_2).f5) < (l0.length : Int) := of_decide_eq_true (by first | (with_reducible assumption) | assumption); obtain ⟨ad269, A269_3, c269_3, A269_6, c269_6, e269, hx269_0, hx269_1, hx269_2, hx269_3, hx269_4, hx269_5, hx269_6, hl269_3, hi269_3, hl269_6, hi269_6⟩ := at_T70 HR0.out ((rd_T70 y257 x19_2).f5) p269 q269; cases e269; replace hx269_0 := (HB.out.cell (World.block_lt_of_cell? w _ hx269_0)).trans hx269_0; replace hx269_1 := (HB.out.cell (World.block_lt_of_cell? w _ hx269_1)).trans hx269_1; replace hx269_2 := (HB.out.cell (World.block_lt_of_cell? w _ hx269_2)).trans hx269_2; replace hx269_3 := (HB.out.cell (World.block_lt_of_cell? w _ hx269_3)).trans hx269_3; replace hx269_4 := (HB.out.cell (World.block_lt_of_cell? w _ hx269_4)).trans hx269_4; replace hx269_5 := (HB.out.cell (World.block_lt_of_cell? w _ hx269_5)).trans hx269_5; replace hx269_6 := (HB.out.cell (World.block_lt_of_cell? w _ hx269_6)).trans hx269_6; have HR269_3 := Aside0.mk hi269_3; have HC269_3 := Aside0.mk hl269_3; clear hi269_3 hl269_3; have HR269_6 := Aside0.mk hi269_6; have HC269_6 := Aside0.mk hl269_6; clear hi269_6 hl269_6; replace p269 := eq_true p269; replace q269 := eq_true q269) | (go_at_call 106; (with_reducible refine (impl_hasKids.calls ((rd_T70 l0 ((rd_T70 y257 x19_2).f5)).f0) false _ A20.out).mono ?_); rintro e w' ⟨rfl, ⟨nd, rfl⟩⟩))
               go_ret
               exact ⟨by first | rfl | (simp [errW_none, errW_some] <;> rfl) | (simp [*, errW_none, errW_some] <;> rfl), by repeat (first | (with_reducible first | exact HB.out | apply below_alloc | apply pw_below_drewN | apply below_drew1 | refine below_set ?_ GE266.out) | exact HB.out)⟩
             ·rw [if_neg c19] at H
              exact absurd H (by simp)
            ·rw [if_neg c18] at H
             exact absurd H (by simp)
           ·replace c17 := Bool.eq_false_iff.mpr c17
            subst c17
            have H1 : (some false) = some r := by rw [if_neg (show ¬ (false = true) by decide)] at H; exact H
            clear H
            have H := H1
            clear H1
            obtain rfl := Option.some.inj H
            have p265 : 0 ≤ (x19_2 : Int) := of_decide_eq_true (by first | (with_reducible assumption) | assumption)
            have q265 : x19_2 < (y257.length : Int) := of_decide_eq_true (by first | (with_reducible assumption) | assumption)
            obtain ⟨ad265, A265_3, c265_3, A265_6, c265_6, e265, hx265_0, hx265_1, hx265_2, hx265_3, hx265_4, hx265_5, hx265_6, hl265_3, hi265_3, hl265_6, hi265_6⟩ := at_T70 HR260.out x19_2 p265 q265
            cases e265
            replace hx265_0 := (HB.out.cell (World.block_lt_of_cell? w _ hx265_0)).trans hx265_0
            replace hx265_1 := (HB.out.cell (World.block_lt_of_cell? w _ hx265_1)).trans hx265_1
            replace hx265_2 := (HB.out.cell (World.block_lt_of_cell? w _ hx265_2)).trans hx265_2
            replace hx265_3 := (HB.out.cell (World.block_lt_of_cell? w _ hx265_3)).trans hx265_3
            replace hx265_4 := (HB.out.cell (World.block_lt_of_cell? w _ hx265_4)).trans hx265_4
            replace hx265_5 := (HB.out.cell (World.block_lt_of_cell? w _ hx265_5)).trans hx265_5
            replace hx265_6 := (HB.out.cell (World.block_lt_of_cell? w _ hx265_6)).trans hx265_6
            have HR265_3 := Aside0.mk hi265_3
            have HC265_3 := Aside0.mk hl265_3
            clear hi265_3 hl265_3
            have HR265_6 := Aside0.mk hi265_6
            have HC265_6 := Aside0.mk hl265_6
            clear hi265_6 hl265_6
            replace p265 := eq_true p265
            replace q265 := eq_true q265
            go_wp2_with (first | ((with_reducible refine gate_dst (N := 4) rfl ?_); (try (refine gate_guard (by rfl) ?_; dsimp only)); refine box_event ?hg (N := 4) ?hd (cs := #[.int .i64 0, .int .i64 0, .string (⟨#[]⟩ : ByteArray), .slice none 0 0, .string (⟨#[]⟩ : ByteArray), .int .i64 0, .slice none 0 0]) (t := 70) ?hr ?_; (case hd => rfl); (case hg => rfl); (case hr => first | (go_simp; done) | (go_simp; rfl)); intro gb266 hg w30 hbox hb; have n0_ := Aside0.mk (below_step (by repeat (first | (with_reducible first | exact HB.out | apply below_alloc | apply pw_below_drewN | apply below_drew1) | exact HB.out)) hb); have n1_ := Aside0.mk (hbox); have n2_ := Aside0.mk ((by rw [hg]; exact (below_size (by repeat (first | (with_reducible first | exact HB.out | apply below_alloc | apply pw_below_drewN | apply below_drew1) | exact HB.out))) : w.heap.size ≤ gb266)); have n3_ := Aside0.mk ((by rw [hg]; exact (below_size (by repeat (first | (with_reducible first | exact HB.out | apply below_alloc | apply pw_below_drewN | apply below_drew1) | exact HB.out))) : w.heap.size ≤ gb266)); clear HB; have HB := n0_; have BK266 := n1_; have GW266 := n2_; have GE266 := n3_; clear n0_ n1_ n2_ n3_; clear hb hbox hg; have hcz31_0 : w30.cell? ⟨gb266, 0, none⟩ = some (.int .i64 0) := (blk_cell BK266.out 0).trans rfl; have hcz31_1 : w30.cell? ⟨gb266, 1, none⟩ = some (.int .i64 0) := (blk_cell BK266.out 1).trans rfl; have hcz31_2 : w30.cell? ⟨gb266, 2, none⟩ = some (.string (⟨#[]⟩ : ByteArray)) := (blk_cell BK266.out 2).trans rfl; have hcz31_3 : w30.cell? ⟨gb266, 3, none⟩ = some (.slice none 0 0) := (blk_cell BK266.out 3).trans rfl; have hcz31_4 : w30.cell? ⟨gb266, 4, none⟩ = some (.string (⟨#[]⟩ : ByteArray)) := (blk_cell BK266.out 4).trans rfl; have hcz31_5 : w30.cell? ⟨gb266, 5, none⟩ = some (.int .i64 0) := (blk_cell BK266.out 5).trans rfl; have hcz31_6 : w30.cell? ⟨gb266, 6, none⟩ = some (.slice none 0 0) := (blk_cell BK266.out 6).trans rfl; have hfz31_0 := blk_frozen BK266.out 0; have hfz31_1 := blk_frozen BK266.out 1; have hfz31_2 := blk_frozen BK266.out 2; have hfz31_3 := blk_frozen BK266.out 3; have hfz31_4 := blk_frozen BK266.out 4; have hfz31_5 := blk_frozen BK266.out 5; have hfz31_6 := blk_frozen BK266.out 6) | ((with_reducible refine gate_callee (f := 105) rfl ?_); refine goesL_ (some 24) rfl rfl Try.func105 (by kernel_rfl) rfl #[.agg #[.int .i64 ((rd_T70 y257 x19_2).f0), .int .i64 ((rd_T70 y257 x19_2).f1), .string ((rd_T70 y257 x19_2).f2), .slice A265_3 ((rd_T70 y257 x19_2).f3).length c265_3, .string ((rd_T70 y257 x19_2).f4), .int .i64 ((rd_T70 y257 x19_2).f5), .slice A265_6 ((rd_T70 y257 x19_2).f6).length c265_6]] rfl (by (try simp only [List.map_toArray, List.map_cons, List.map_nil]); first | done | rfl | (simp only [List.length_drop, List.length_take]; rfl)) ?_; (with_reducible refine (impl_itemOk.calls k2 ((rd_T70 y257 x19_2).f0) ((rd_T70 y257 x19_2).f1) ((rd_T70 y257 x19_2).f2) _ _ ((rd_T70 y257 x19_2).f3) ((rd_T70 y257 x19_2).f4) ((rd_T70 y257 x19_2).f5) _ _ ((rd_T70 y257 x19_2).f6) true _ ?side1 ?side2 ?side3 ?side4 A14.out).mono ?_); (case side1 => exact Kd.C_below HR265_3.out (by repeat (first | (with_reducible first | exact HB.out | apply below_alloc | apply pw_below_drewN | apply below_drew1 | refine below_set ?_ GE266.out) | exact HB.out))); (case side2 => exact HC265_3.out); (case side3 => exact Kd.C_below HR265_6.out (by repeat (first | (with_reducible first | exact HB.out | apply below_alloc | apply pw_below_drewN | apply below_drew1 | refine below_set ?_ GE266.out) | exact HB.out))); (case side4 => exact HC265_6.out); rintro e w32 ⟨rfl, hb⟩; refine ⟨_, rfl, ?_⟩; have n0_ := Aside0.mk (blk_below (g := gb266) (o := .cells #[.int .i64 ((rd_T70 y257 x19_2).f0), .int .i64 ((rd_T70 y257 x19_2).f1), .string ((rd_T70 y257 x19_2).f2), .slice A265_3 ((rd_T70 y257 x19_2).f3).length c265_3, .string ((rd_T70 y257 x19_2).f4), .int .i64 ((rd_T70 y257 x19_2).f5), .slice A265_6 ((rd_T70 y257 x19_2).f6).length c265_6] 70 (0, 0)) (by (with_reducible repeat (first | refine blk_drewN ?_ _ | refine blk_drew ?_ | refine blk_alloc ?_ _)); refine blk_put (cs := #[.int .i64 ((rd_T70 y257 x19_2).f0), .int .i64 ((rd_T70 y257 x19_2).f1), .string ((rd_T70 y257 x19_2).f2), .slice A265_3 ((rd_T70 y257 x19_2).f3).length c265_3, .string ((rd_T70 y257 x19_2).f4), .int .i64 ((rd_T70 y257 x19_2).f5), .slice none 0 0]) ?_ 6 _ rfl; (with_reducible repeat (first | refine blk_drewN ?_ _ | refine blk_drew ?_ | refine blk_alloc ?_ _)); refine blk_put (cs := #[.int .i64 ((rd_T70 y257 x19_2).f0), .int .i64 ((rd_T70 y257 x19_2).f1), .string ((rd_T70 y257 x19_2).f2), .slice A265_3 ((rd_T70 y257 x19_2).f3).length c265_3, .string ((rd_T70 y257 x19_2).f4), .int .i64 0, .slice none 0 0]) ?_ 5 _ rfl; (with_reducible repeat (first | refine blk_drewN ?_ _ | refine blk_drew ?_ | refine blk_alloc ?_ _)); refine blk_put (cs := #[.int .i64 ((rd_T70 y257 x19_2).f0), .int .i64 ((rd_T70 y257 x19_2).f1), .string ((rd_T70 y257 x19_2).f2), .slice A265_3 ((rd_T70 y257 x19_2).f3).length c265_3, .string (⟨#[]⟩ : ByteArray), .int .i64 0, .slice none 0 0]) ?_ 4 _ rfl; (with_reducible repeat (first | refine blk_drewN ?_ _ | refine blk_drew ?_ | refine blk_alloc ?_ _)); refine blk_put (cs := #[.int .i64 ((rd_T70 y257 x19_2).f0), .int .i64 ((rd_T70 y257 x19_2).f1), .string ((rd_T70 y257 x19_2).f2), .slice none 0 0, .string (⟨#[]⟩ : ByteArray), .int .i64 0, .slice none 0 0]) ?_ 3 _ rfl; (with_reducible repeat (first | refine blk_drewN ?_ _ | refine blk_drew ?_ | refine blk_alloc ?_ _)); refine blk_put (cs := #[.int .i64 ((rd_T70 y257 x19_2).f0), .int .i64 ((rd_T70 y257 x19_2).f1), .string (⟨#[]⟩ : ByteArray), .slice none 0 0, .string (⟨#[]⟩ : ByteArray), .int .i64 0, .slice none 0 0]) ?_ 2 _ rfl; (with_reducible repeat (first | refine blk_drewN ?_ _ | refine blk_drew ?_ | refine blk_alloc ?_ _)); refine blk_put (cs := #[.int .i64 ((rd_T70 y257 x19_2).f0), .int .i64 0, .string (⟨#[]⟩ : ByteArray), .slice none 0 0, .string (⟨#[]⟩ : ByteArray), .int .i64 0, .slice none 0 0]) ?_ 1 _ rfl; (with_reducible repeat (first | refine blk_drewN ?_ _ | refine blk_drew ?_ | refine blk_alloc ?_ _)); refine blk_put (cs := #[.int .i64 0, .int .i64 0, .string (⟨#[]⟩ : ByteArray), .slice none 0 0, .string (⟨#[]⟩ : ByteArray), .int .i64 0, .slice none 0 0]) ?_ 0 _ rfl; (with_reducible repeat (first | refine blk_drewN ?_ _ | refine blk_drew ?_ | refine blk_alloc ?_ _)); exact BK266.out) hb); have n1_ := Aside0.mk (below_step (by repeat (first | (with_reducible first | exact HB.out | apply below_alloc | apply pw_below_drewN | apply below_drew1 | refine below_set ?_ GE266.out) | exact HB.out)) hb); clear BK266; clear HB; have BK266 := n0_; have HB := n1_; clear n0_ n1_; (try clear hb); (try clear hb2); (try clear hk); (try clear hi); have hcz33_0 : w32.cell? ⟨gb266, 0, none⟩ = some (.int .i64 ((rd_T70 y257 x19_2).f0)) := (blk_cell BK266.out 0).trans rfl; have hcz33_1 : w32.cell? ⟨gb266, 1, none⟩ = some (.int .i64 ((rd_T70 y257 x19_2).f1)) := (blk_cell BK266.out 1).trans rfl; have hcz33_2 : w32.cell? ⟨gb266, 2, none⟩ = some (.string ((rd_T70 y257 x19_2).f2)) := (blk_cell BK266.out 2).trans rfl; have hcz33_3 : w32.cell? ⟨gb266, 3, none⟩ = some (.slice A265_3 ((rd_T70 y257 x19_2).f3).length c265_3) := (blk_cell BK266.out 3).trans rfl; have hcz33_4 : w32.cell? ⟨gb266, 4, none⟩ = some (.string ((rd_T70 y257 x19_2).f4)) := (blk_cell BK266.out 4).trans rfl; have hcz33_5 : w32.cell? ⟨gb266, 5, none⟩ = some (.int .i64 ((rd_T70 y257 x19_2).f5)) := (blk_cell BK266.out 5).trans rfl; have hcz33_6 : w32.cell? ⟨gb266, 6, none⟩ = some (.slice A265_6 ((rd_T70 y257 x19_2).f6).length c265_6) := (blk_cell BK266.out 6).trans rfl; have hfz33_0 := blk_frozen BK266.out 0; have hfz33_1 := blk_frozen BK266.out 1; have hfz33_2 := blk_frozen BK266.out 2; have hfz33_3 := blk_frozen BK266.out 3; have hfz33_4 := blk_frozen BK266.out 4; have hfz33_5 := blk_frozen BK266.out 5; have hfz33_6 := blk_frozen BK266.out 6) | (go_at_call 67; (with_reducible refine (impl_inRange.calls ((rd_T70 y257 x19_2).f5) 0 (wrap64 ((l0.length : Int) - 1)) false _ A16.out).mono ?_); rintro e w' ⟨rfl, ⟨nd, rfl⟩⟩))
            go_ret
            exact ⟨by first | rfl | (simp [errW_none, errW_some] <;> rfl) | (simp [*, errW_none, errW_some] <;> rfl), by repeat (first | (with_reducible first | exact HB.out | apply below_alloc | apply pw_below_drewN | apply below_drew1 | refine below_set ?_ GE266.out) | exact HB.out)⟩
          ·replace c15 := Bool.eq_false_iff.mpr c15
           subst c15
           have H1 : (some false) = some r := by rw [if_neg (show ¬ (false = true) by decide)] at H; exact H
           clear H
           have H := H1
           clear H1
           obtain rfl := Option.some.inj H
           have p265 : 0 ≤ (x19_2 : Int) := of_decide_eq_true (by first | (with_reducible assumption) | assumption)
           have q265 : x19_2 < (y257.length : Int) := of_decide_eq_true (by first | (with_reducible assumption) | assumption)
           obtain ⟨ad265, A265_3, c265_3, A265_6, c265_6, e265, hx265_0, hx265_1, hx265_2, hx265_3, hx265_4, hx265_5, hx265_6, hl265_3, hi265_3, hl265_6, hi265_6⟩ := at_T70 HR260.out x19_2 p265 q265
           cases e265
           replace hx265_0 := (HB.out.cell (World.block_lt_of_cell? w _ hx265_0)).trans hx265_0
           replace hx265_1 := (HB.out.cell (World.block_lt_of_cell? w _ hx265_1)).trans hx265_1
           replace hx265_2 := (HB.out.cell (World.block_lt_of_cell? w _ hx265_2)).trans hx265_2
           replace hx265_3 := (HB.out.cell (World.block_lt_of_cell? w _ hx265_3)).trans hx265_3
           replace hx265_4 := (HB.out.cell (World.block_lt_of_cell? w _ hx265_4)).trans hx265_4
           replace hx265_5 := (HB.out.cell (World.block_lt_of_cell? w _ hx265_5)).trans hx265_5
           replace hx265_6 := (HB.out.cell (World.block_lt_of_cell? w _ hx265_6)).trans hx265_6
           have HR265_3 := Aside0.mk hi265_3
           have HC265_3 := Aside0.mk hl265_3
           clear hi265_3 hl265_3
           have HR265_6 := Aside0.mk hi265_6
           have HC265_6 := Aside0.mk hl265_6
           clear hi265_6 hl265_6
           replace p265 := eq_true p265
           replace q265 := eq_true q265
           go_wp2_with (first | ((with_reducible refine gate_dst (N := 4) rfl ?_); (try (refine gate_guard (by rfl) ?_; dsimp only)); refine box_event ?hg (N := 4) ?hd (cs := #[.int .i64 0, .int .i64 0, .string (⟨#[]⟩ : ByteArray), .slice none 0 0, .string (⟨#[]⟩ : ByteArray), .int .i64 0, .slice none 0 0]) (t := 70) ?hr ?_; (case hd => rfl); (case hg => rfl); (case hr => first | (go_simp; done) | (go_simp; rfl)); intro gb266 hg w34 hbox hb; have n0_ := Aside0.mk (below_step (by repeat (first | (with_reducible first | exact HB.out | apply below_alloc | apply pw_below_drewN | apply below_drew1) | exact HB.out)) hb); have n1_ := Aside0.mk (hbox); have n2_ := Aside0.mk ((by rw [hg]; exact (below_size (by repeat (first | (with_reducible first | exact HB.out | apply below_alloc | apply pw_below_drewN | apply below_drew1) | exact HB.out))) : w.heap.size ≤ gb266)); have n3_ := Aside0.mk ((by rw [hg]; exact (below_size (by repeat (first | (with_reducible first | exact HB.out | apply below_alloc | apply pw_below_drewN | apply below_drew1) | exact HB.out))) : w.heap.size ≤ gb266)); clear HB; have HB := n0_; have BK266 := n1_; have GW266 := n2_; have GE266 := n3_; clear n0_ n1_ n2_ n3_; clear hb hbox hg; have hcz35_0 : w34.cell? ⟨gb266, 0, none⟩ = some (.int .i64 0) := (blk_cell BK266.out 0).trans rfl; have hcz35_1 : w34.cell? ⟨gb266, 1, none⟩ = some (.int .i64 0) := (blk_cell BK266.out 1).trans rfl; have hcz35_2 : w34.cell? ⟨gb266, 2, none⟩ = some (.string (⟨#[]⟩ : ByteArray)) := (blk_cell BK266.out 2).trans rfl; have hcz35_3 : w34.cell? ⟨gb266, 3, none⟩ = some (.slice none 0 0) := (blk_cell BK266.out 3).trans rfl; have hcz35_4 : w34.cell? ⟨gb266, 4, none⟩ = some (.string (⟨#[]⟩ : ByteArray)) := (blk_cell BK266.out 4).trans rfl; have hcz35_5 : w34.cell? ⟨gb266, 5, none⟩ = some (.int .i64 0) := (blk_cell BK266.out 5).trans rfl; have hcz35_6 : w34.cell? ⟨gb266, 6, none⟩ = some (.slice none 0 0) := (blk_cell BK266.out 6).trans rfl; have hfz35_0 := blk_frozen BK266.out 0; have hfz35_1 := blk_frozen BK266.out 1; have hfz35_2 := blk_frozen BK266.out 2; have hfz35_3 := blk_frozen BK266.out 3; have hfz35_4 := blk_frozen BK266.out 4; have hfz35_5 := blk_frozen BK266.out 5; have hfz35_6 := blk_frozen BK266.out 6) | ((with_reducible refine gate_callee (f := 105) rfl ?_); refine goesL_ (some 24) rfl rfl Try.func105 (by kernel_rfl) rfl #[.agg #[.int .i64 ((rd_T70 y257 x19_2).f0), .int .i64 ((rd_T70 y257 x19_2).f1), .string ((rd_T70 y257 x19_2).f2), .slice A265_3 ((rd_T70 y257 x19_2).f3).length c265_3, .string ((rd_T70 y257 x19_2).f4), .int .i64 ((rd_T70 y257 x19_2).f5), .slice A265_6 ((rd_T70 y257 x19_2).f6).length c265_6]] rfl (by (try simp only [List.map_toArray, List.map_cons, List.map_nil]); first | done | rfl | (simp only [List.length_drop, List.length_take]; rfl)) ?_; (with_reducible refine (impl_itemOk.calls k2 ((rd_T70 y257 x19_2).f0) ((rd_T70 y257 x19_2).f1) ((rd_T70 y257 x19_2).f2) _ _ ((rd_T70 y257 x19_2).f3) ((rd_T70 y257 x19_2).f4) ((rd_T70 y257 x19_2).f5) _ _ ((rd_T70 y257 x19_2).f6) false _ ?side1 ?side2 ?side3 ?side4 A14.out).mono ?_); (case side1 => exact Kd.C_below HR265_3.out (by repeat (first | (with_reducible first | exact HB.out | apply below_alloc | apply pw_below_drewN | apply below_drew1 | refine below_set ?_ GE266.out) | exact HB.out))); (case side2 => exact HC265_3.out); (case side3 => exact Kd.C_below HR265_6.out (by repeat (first | (with_reducible first | exact HB.out | apply below_alloc | apply pw_below_drewN | apply below_drew1 | refine below_set ?_ GE266.out) | exact HB.out))); (case side4 => exact HC265_6.out); rintro e w36 ⟨rfl, hb⟩; refine ⟨_, rfl, ?_⟩; have n0_ := Aside0.mk (blk_below (g := gb266) (o := .cells #[.int .i64 ((rd_T70 y257 x19_2).f0), .int .i64 ((rd_T70 y257 x19_2).f1), .string ((rd_T70 y257 x19_2).f2), .slice A265_3 ((rd_T70 y257 x19_2).f3).length c265_3, .string ((rd_T70 y257 x19_2).f4), .int .i64 ((rd_T70 y257 x19_2).f5), .slice A265_6 ((rd_T70 y257 x19_2).f6).length c265_6] 70 (0, 0)) (by (with_reducible repeat (first | refine blk_drewN ?_ _ | refine blk_drew ?_ | refine blk_alloc ?_ _)); refine blk_put (cs := #[.int .i64 ((rd_T70 y257 x19_2).f0), .int .i64 ((rd_T70 y257 x19_2).f1), .string ((rd_T70 y257 x19_2).f2), .slice A265_3 ((rd_T70 y257 x19_2).f3).length c265_3, .string ((rd_T70 y257 x19_2).f4), .int .i64 ((rd_T70 y257 x19_2).f5), .slice none 0 0]) ?_ 6 _ rfl; (with_reducible repeat (first | refine blk_drewN ?_ _ | refine blk_drew ?_ | refine blk_alloc ?_ _)); refine blk_put (cs := #[.int .i64 ((rd_T70 y257 x19_2).f0), .int .i64 ((rd_T70 y257 x19_2).f1), .string ((rd_T70 y257 x19_2).f2), .slice A265_3 ((rd_T70 y257 x19_2).f3).length c265_3, .string ((rd_T70 y257 x19_2).f4), .int .i64 0, .slice none 0 0]) ?_ 5 _ rfl; (with_reducible repeat (first | refine blk_drewN ?_ _ | refine blk_drew ?_ | refine blk_alloc ?_ _)); refine blk_put (cs := #[.int .i64 ((rd_T70 y257 x19_2).f0), .int .i64 ((rd_T70 y257 x19_2).f1), .string ((rd_T70 y257 x19_2).f2), .slice A265_3 ((rd_T70 y257 x19_2).f3).length c265_3, .string (⟨#[]⟩ : ByteArray), .int .i64 0, .slice none 0 0]) ?_ 4 _ rfl; (with_reducible repeat (first | refine blk_drewN ?_ _ | refine blk_drew ?_ | refine blk_alloc ?_ _)); refine blk_put (cs := #[.int .i64 ((rd_T70 y257 x19_2).f0), .int .i64 ((rd_T70 y257 x19_2).f1), .string ((rd_T70 y257 x19_2).f2), .slice none 0 0, .string (⟨#[]⟩ : ByteArray), .int .i64 0, .slice none 0 0]) ?_ 3 _ rfl; (with_reducible repeat (first | refine blk_drewN ?_ _ | refine blk_drew ?_ | refine blk_alloc ?_ _)); refine blk_put (cs := #[.int .i64 ((rd_T70 y257 x19_2).f0), .int .i64 ((rd_T70 y257 x19_2).f1), .string (⟨#[]⟩ : ByteArray), .slice none 0 0, .string (⟨#[]⟩ : ByteArray), .int .i64 0, .slice none 0 0]) ?_ 2 _ rfl; (with_reducible repeat (first | refine blk_drewN ?_ _ | refine blk_drew ?_ | refine blk_alloc ?_ _)); refine blk_put (cs := #[.int .i64 ((rd_T70 y257 x19_2).f0), .int .i64 0, .string (⟨#[]⟩ : ByteArray), .slice none 0 0, .string (⟨#[]⟩ : ByteArray), .int .i64 0, .slice none 0 0]) ?_ 1 _ rfl; (with_reducible repeat (first | refine blk_drewN ?_ _ | refine blk_drew ?_ | refine blk_alloc ?_ _)); refine blk_put (cs := #[.int .i64 0, .int .i64 0, .string (⟨#[]⟩ : ByteArray), .slice none 0 0, .string (⟨#[]⟩ : ByteArray), .int .i64 0, .slice none 0 0]) ?_ 0 _ rfl; (with_reducible repeat (first | refine blk_drewN ?_ _ | refine blk_drew ?_ | refine blk_alloc ?_ _)); exact BK266.out) hb); have n1_ := Aside0.mk (below_step (by repeat (first | (with_reducible first | exact HB.out | apply below_alloc | apply pw_below_drewN | apply below_drew1 | refine below_set ?_ GE266.out) | exact HB.out)) hb); clear BK266; clear HB; have BK266 := n0_; have HB := n1_; clear n0_ n1_; (try clear hb); (try clear hb2); (try clear hk); (try clear hi)))
           go_ret
           exact ⟨by first | rfl | (simp [errW_none, errW_some] <;> rfl) | (simp [*, errW_none, errW_some] <;> rfl), by repeat (first | (with_reducible first | exact HB.out | apply below_alloc | apply pw_below_drewN | apply below_drew1 | refine below_set ?_ GE266.out) | exact HB.out)⟩
         ·rw [if_neg c13] at H
          exact absurd H (by simp)
        ·rw [if_neg c12] at H
         exact absurd H (by simp)
       ·rw [if_neg c11] at H
        have c11b0 := decide_eq_false c11
        clear c11
        replace H := Option.bind_eq_some_iff.mp H
        obtain ⟨t261, A370, H⟩ := H
        replace H : (if t261 = true then ((impl_order.f k2 l0).bind fun t262 => (some ((t262.length : Int) == (l0.length : Int)))) else (some false)) = some r := H
        have A37 := Aside0.mk A370
        clear A370
        by_cases c38 : t261 = true
        ·subst c38
         have H1 : ((impl_order.f k2 l0).bind fun t262 => (some ((t262.length : Int) == (l0.length : Int)))) = some r := by rw [if_pos rfl] at H; exact H
         clear H
         have H := H1
         clear H1
         replace H := Option.bind_eq_some_iff.mp H
         obtain ⟨t262, A390, H⟩ := H
         replace H : (some ((t262.length : Int) == (l0.length : Int))) = some r := H
         have A39 := Aside0.mk A390
         clear A390
         obtain rfl := Option.some.inj H
         go_wp2_with (first | ((with_reducible refine gate_callee (f := 107) rfl ?_); refine goesL_ (some 47) rfl rfl Try.func107 (by kernel_rfl) rfl #[.slice A0 l0.length c0] rfl (by (try simp only [List.map_toArray, List.map_cons, List.map_nil]); first | done | rfl | (simp only [List.length_drop, List.length_take]; rfl)) ?_; (with_reducible refine (impl_kidsOk.calls k2 _ _ l0 true _ ?side1 ?side2 A37.out).mono ?_); (case side1 => repeat (first | exact (Kd.C_below HR0.out HB.out) | (with_reducible refine Kd.C_alloc ?_ _) | (with_reducible refine Kd.C_drewN ?_ _) | (with_reducible refine Kd.C_drew ?_))); (case side2 => exact HC0.out); rintro e w40 ⟨rfl, hb⟩; refine ⟨_, rfl, ?_⟩; have n0_ := Aside0.mk (below_step (by repeat (first | (with_reducible first | exact HB.out | apply below_alloc | apply pw_below_drewN | apply below_drew1) | exact HB.out)) hb); clear HB; have HB := n0_; clear n0_; (try clear hb); (try clear hb2); (try clear hk); (try clear hi)) | (go_at_call 108; (with_reducible refine (impl_order.calls k2 _ _ l0 t262 _ ?side1 ?side2 A39.out).mono ?_); (case side1 => repeat (first | exact (Kd.C_below HR0.out HB.out) | (with_reducible refine Kd.C_alloc ?_ _) | (with_reducible refine Kd.C_drewN ?_ _) | (with_reducible refine Kd.C_drew ?_))); (case side2 => exact HC0.out); rintro e w41 ⟨v263, rfl, ho0, hb⟩; have n0_ := Aside0.mk (Kd.R_lower ho0 (below_size (by repeat (first | (with_reducible first | exact HB.out | apply below_alloc | apply pw_below_drewN | apply below_drew1) | exact HB.out)))); have n1_ := Aside0.mk (below_step (by repeat (first | (with_reducible first | exact HB.out | apply below_alloc | apply pw_below_drewN | apply below_drew1) | exact HB.out)) hb); clear HB; have HO264 := n0_; have HB := n1_; clear n0_ n1_; (try clear hb); (try clear hb2); (try clear hk); (try clear hi); (try clear ho0); obtain ⟨Ao42, co42, eo42⟩ := Kd.R_slice HO264.out; subst eo42))
         go_ret
         exact ⟨by first | rfl | (simp [errW_none, errW_some] <;> rfl) | (simp [*, errW_none, errW_some] <;> rfl), by repeat (first | (with_reducible first | exact HB.out | apply below_alloc | apply pw_below_drewN | apply below_drew1) | exact HB.out)⟩
        ·replace c38 := Bool.eq_false_iff.mpr c38
         subst c38
         have H1 : (some false) = some r := by rw [if_neg (show ¬ (false = true) by decide)] at H; exact H
         clear H
         have H := H1
         clear H1
         obtain rfl := Option.some.inj H
         go_wp2_with (first | ((with_reducible refine gate_callee (f := 107) rfl ?_); refine goesL_ (some 47) rfl rfl Try.func107 (by kernel_rfl) rfl #[.slice A0 l0.length c0] rfl (by (try simp only [List.map_toArray, List.map_cons, List.map_nil]); first | done | rfl | (simp only [List.length_drop, List.length_take]; rfl)) ?_; (with_reducible refine (impl_kidsOk.calls k2 _ _ l0 false _ ?side1 ?side2 A37.out).mono ?_); (case side1 => repeat (first | exact (Kd.C_below HR0.out HB.out) | (with_reducible refine Kd.C_alloc ?_ _) | (with_reducible refine Kd.C_drewN ?_ _) | (with_reducible refine Kd.C_drew ?_))); (case side2 => exact HC0.out); rintro e w43 ⟨rfl, hb⟩; refine ⟨_, rfl, ?_⟩; have n0_ := Aside0.mk (below_step (by repeat (first | (with_reducible first | exact HB.out | apply below_alloc | apply pw_below_drewN | apply below_drew1) | exact HB.out)) hb); clear HB; have HB := n0_; clear n0_; (try clear hb); (try clear hb2); (try clear hk); (try clear hi)))
         go_ret
         exact ⟨by first | rfl | (simp [errW_none, errW_some] <;> rfl) | (simp [*, errW_none, errW_some] <;> rfl), by repeat (first | (with_reducible first | exact HB.out | apply below_alloc | apply pw_below_drewN | apply below_drew1) | exact HB.out)⟩
    ·rw [if_neg c9] at H
     exact absurd H (by simp)

end Go.Proofs.Ytfjheckgigppiaa.P
