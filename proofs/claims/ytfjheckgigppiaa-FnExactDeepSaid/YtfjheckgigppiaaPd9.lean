-- WRITTEN BY hprint.py, this session's own program, over the kit's printer: not typed by hand; Lean checks it
import Derived.Test.YtfjheckgigppiaaPd0
import Derived.Test.YtfjheckgigppiaaPd5
import Derived.Test.YtfjheckgigppiaaPd7
import Derived.Test.YtfjheckgigppiaaPd8
namespace Go.Proofs.Ytfjheckgigppiaa.P
open Go.RowKit Go.Proofs.YtfjheckgigppiaaW.PrintWords Go.Proofs.YtfjheckgigppiaaW.PrintLast Go.Proofs.YtfjheckgigppiaaW.PrintMore
attribute [local go_sem] max2_int min2_int max_two min_two max_three min_three max_four min_four   -- for this text's walks alone
set_option linter.unusedVariables false
set_option linter.unusedSimpArgs false

/-! ### impl_TreeOk: function 62 -/
mutual
def impl_TreeOk.j0 : Nat → List (S70) → Bool → Option (Bool)
 | 0, _, _ => none
 | k + 1, x0, x15 => if x15 = true then (some false) else (if 1 ≤ (x0.length : Int) then ((some (x0.drop 1 : List (S70))).bind fun y241 => (impl_TreeOk.l0 k x0 y241 (y241.length : Int) 0)) else (none))
def impl_TreeOk.l0 : Nat → List (S70) → List (S70) → Int → Int → Option (Bool)
 | 0, _, _, _, _ => none
 | k + 1, x0, x17, x18, x19 => if x19 < x18 then (if 0 ≤ x19 then (if x19 < (x17.length : Int) then ((impl_itemOk.f k ((rd_T70 x17 x19).f0) ((rd_T70 x17 x19).f1) ((rd_T70 x17 x19).f2) ((rd_T70 x17 x19).f3) ((rd_T70 x17 x19).f4) ((rd_T70 x17 x19).f5) ((rd_T70 x17 x19).f6)).bind fun t251 => (if t251 = true then ((impl_inRange.f ((rd_T70 x17 x19).f5) 0 (wrap64 ((x0.length : Int) - 1))).bind fun t252 => (if t252 = true then (if 0 ≤ ((rd_T70 x17 x19).f5) then (if ((rd_T70 x17 x19).f5) < (x0.length : Int) then ((impl_hasKids.f ((rd_T70 x0 ((rd_T70 x17 x19).f5)).f0)).bind fun t254 => (if t254 = true then (impl_TreeOk.l0 k x0 x17 x18 (wrap64 (x19 + 1))) else (some false))) else (none)) else (none)) else (some false))) else (some false))) else (none)) else (none)) else ((impl_kidsOk.f k x0).bind fun t245 => (if t245 = true then ((impl_order.f k x0).bind fun t246 => (some ((t246.length : Int) == (x0.length : Int)))) else (some false)))
end
def impl_TreeOk.f (k : Nat) (l0 : List (S70)) : Option (Bool) := (impl_inRange.f (l0.length : Int) 1 3000).bind fun t238 => (if t238 = true then (if 0 < (l0.length : Int) then ((impl_pageOk.f ((rd_T70 l0 0).f0) ((rd_T70 l0 0).f1) ((rd_T70 l0 0).f2) ((rd_T70 l0 0).f3) ((rd_T70 l0 0).f4) ((rd_T70 l0 0).f5) ((rd_T70 l0 0).f6)).bind fun t240 => (impl_TreeOk.j0 k l0 (!t240))) else (none)) else (impl_TreeOk.j0 k l0 true))
theorem impl_TreeOk.mono_l : ∀ k, (∀ y0 y1, LeO (impl_TreeOk.j0 k y0 y1) (impl_TreeOk.j0 (k + 1) y0 y1)) ∧ (∀ y0 y1 y2 y3, LeO (impl_TreeOk.l0 k y0 y1 y2 y3) (impl_TreeOk.l0 (k + 1) y0 y1 y2 y3))
 | 0 => ⟨fun _ _ r h => by simp [impl_TreeOk.j0] at h, fun _ _ _ _ r h => by simp [impl_TreeOk.l0] at h⟩
 | k + 1 => by
  obtain ⟨ih0, ih1⟩ := impl_TreeOk.mono_l k
  refine ⟨?_, ?_⟩
  ·intro y0 y1
   unfold impl_TreeOk.j0
   repeat' first
   | (with_reducible exact ih0 _ _)
   | (with_reducible exact ih1 _ _ _ _)
   | (with_reducible exact impl_itemOk.mono _ _ _ _ _ _ _ _)
   | (with_reducible exact impl_kidsOk.mono _ _)
   | (with_reducible exact impl_order.mono _ _)
   | (with_reducible exact LeO.refl _)
   | (with_reducible exact LeO.none _)
   | (with_reducible refine LeO.ite ?_ ?_)
   | (with_reducible refine LeO.bind ?_ (fun _ => ?_))
   | exact ih0 _ _
   | exact ih1 _ _ _ _
   | exact impl_itemOk.mono _ _ _ _ _ _ _ _
   | exact impl_kidsOk.mono _ _
   | exact impl_order.mono _ _
   | exact LeO.none _
   | refine LeO.ite ?_ ?_
   | refine LeO.bind ?_ (fun _ => ?_)
  ·intro y0 y1 y2 y3
   unfold impl_TreeOk.l0
   repeat' first
   | (with_reducible exact ih0 _ _)
   | (with_reducible exact ih1 _ _ _ _)
   | (with_reducible exact impl_itemOk.mono _ _ _ _ _ _ _ _)
   | (with_reducible exact impl_kidsOk.mono _ _)
   | (with_reducible exact impl_order.mono _ _)
   | (with_reducible exact LeO.refl _)
   | (with_reducible exact LeO.none _)
   | (with_reducible refine LeO.ite ?_ ?_)
   | (with_reducible refine LeO.bind ?_ (fun _ => ?_))
   | exact ih0 _ _
   | exact ih1 _ _ _ _
   | exact impl_itemOk.mono _ _ _ _ _ _ _ _
   | exact impl_kidsOk.mono _ _
   | exact impl_order.mono _ _
   | exact LeO.none _
   | refine LeO.ite ?_ ?_
   | refine LeO.bind ?_ (fun _ => ?_)
theorem impl_TreeOk.mono : ∀ a0 k, LeO (impl_TreeOk.f k a0) (impl_TreeOk.f (k + 1) a0) := by
 intro a0 k
 obtain ⟨ih0, ih1⟩ := impl_TreeOk.mono_l k
 unfold impl_TreeOk.f
 repeat' first
   | (with_reducible exact ih0 _ _)
   | (with_reducible exact ih1 _ _ _ _)
   | (with_reducible exact impl_itemOk.mono _ _ _ _ _ _ _ _)
   | (with_reducible exact impl_kidsOk.mono _ _)
   | (with_reducible exact impl_order.mono _ _)
   | (with_reducible exact LeO.refl _)
   | (with_reducible exact LeO.none _)
   | (with_reducible refine LeO.ite ?_ ?_)
   | (with_reducible refine LeO.bind ?_ (fun _ => ?_))
   | exact ih0 _ _
   | exact ih1 _ _ _ _
   | exact impl_itemOk.mono _ _ _ _ _ _ _ _
   | exact impl_kidsOk.mono _ _
   | exact impl_order.mono _ _
   | exact LeO.none _
   | refine LeO.ite ?_ ?_
   | refine LeO.bind ?_ (fun _ => ?_)
set_option maxHeartbeats 8000000 in
set_option maxRecDepth 100000 in
theorem impl_TreeOk.calls (k : Nat) (A0 : Option Addr) (c0 : Nat) (l0 : List (S70)) (r : Bool) (w : World) (hr0 : Kd.C k70 w A0 l0.length l0) (hc0 : l0.length ≤ c0) (h : impl_TreeOk.f k l0 = some r) :
  Calls Try.prog 62 #[.slice A0 l0.length c0] w fun e w' => e = .returned (.bool r) ∧ Below w.heap.size w w' := by
 have hu70 := Try.underlying70
 have HR0 := Aside0.mk hr0
 have HC0 := Aside0.mk hc0
 clear hr0 hc0
 have HB := Aside0.mk (Below.refl w.heap.size w)
 have H : ((impl_inRange.f (l0.length : Int) 1 3000).bind fun t238 => (if t238 = true then (if 0 < (l0.length : Int) then ((impl_pageOk.f ((rd_T70 l0 0).f0) ((rd_T70 l0 0).f1) ((rd_T70 l0 0).f2) ((rd_T70 l0 0).f3) ((rd_T70 l0 0).f4) ((rd_T70 l0 0).f5) ((rd_T70 l0 0).f6)).bind fun t240 => (impl_TreeOk.j0 k l0 (!t240))) else (none)) else (impl_TreeOk.j0 k l0 true))) = some r := h
 clear h
 have HC2 := Aside0.mk H
 clear H
 go_enter Try.func62, Try.ntmps62
 go_upto_region 1 with (fail)
 go_cut [15] (fun v15 wc => ∃ (kq : Nat) (x15_1 : Bool), v15 = .bool x15_1 ∧ Aside0 (impl_TreeOk.j0 kq l0 x15_1 = some r) ∧ Aside0 (kq ≤ k) ∧ Aside0 (Below w.heap.size w wc))
 case first =>
  have H := HC2.out
  clear HC2
  replace H := Option.bind_eq_some_iff.mp H
  obtain ⟨t238, A30, H⟩ := H
  replace H : (if t238 = true then (if 0 < (l0.length : Int) then ((impl_pageOk.f ((rd_T70 l0 0).f0) ((rd_T70 l0 0).f1) ((rd_T70 l0 0).f2) ((rd_T70 l0 0).f3) ((rd_T70 l0 0).f4) ((rd_T70 l0 0).f5) ((rd_T70 l0 0).f6)).bind fun t240 => (impl_TreeOk.j0 k l0 (!t240))) else (none)) else (impl_TreeOk.j0 k l0 true)) = some r := H
  have A3 := Aside0.mk A30
  clear A30
  by_cases c4 : t238 = true
  ·subst c4
   have H1 : (if 0 < (l0.length : Int) then ((impl_pageOk.f ((rd_T70 l0 0).f0) ((rd_T70 l0 0).f1) ((rd_T70 l0 0).f2) ((rd_T70 l0 0).f3) ((rd_T70 l0 0).f4) ((rd_T70 l0 0).f5) ((rd_T70 l0 0).f6)).bind fun t240 => (impl_TreeOk.j0 k l0 (!t240))) else (none)) = some r := by rw [if_pos rfl] at H; exact H
   clear H
   have H := H1
   clear H1
   by_cases c5 : 0 < (l0.length : Int)
   ·rw [if_pos c5] at H
    have c5b0 := decide_eq_true c5
    have c5b1 : decide (0 < l0.length) = true := decide_eq_true (by omega)
    clear c5
    (first | rw [c5b0] | (simp only [i64_w, i32_w]; rw [c5b0]) | skip)
    (try (generalize hgzc5 : decide (0 < (l0.length : Int)) = bqc5 at *; subst c5b0; have c5b0 := hgzc5; clear hgzc5))
    replace H := Option.bind_eq_some_iff.mp H
    obtain ⟨t240, A60, H⟩ := H
    replace H : (impl_TreeOk.j0 k l0 (!t240)) = some r := by first | exact H | (rw [c5b0]; exact H)
    have A6 := Aside0.mk A60
    clear A60
    have H' := Aside0.mk H
    clear H
    go_wp2_with (first | ((with_reducible refine gate_callee (f := 67) rfl ?_); refine goesL_ (some 7) rfl rfl Try.func67 (by kernel_rfl) rfl #[.int .i64 (l0.length : Int), .int .i64 1, .int .i64 3000] rfl (by (try simp only [List.map_toArray, List.map_cons, List.map_nil]); first | done | rfl | (simp only [List.length_drop, List.length_take]; rfl)) ?_; (with_reducible refine (impl_inRange.calls (l0.length : Int) 1 3000 true _ A3.out).mono ?_); rintro e w' ⟨rfl, ⟨nd, rfl⟩⟩; refine ⟨_, rfl, ?_⟩; have p239 : 0 ≤ (0 : Int) := (by omega); have q239 : 0 < (l0.length : Int) := of_decide_eq_true (by first | (with_reducible assumption) | assumption); obtain ⟨ad239, A239_3, c239_3, A239_6, c239_6, e239, hx239_0, hx239_1, hx239_2, hx239_3, hx239_4, hx239_5, hx239_6, hl239_3, hi239_3, hl239_6, hi239_6⟩ := at_T70 HR0.out 0 p239 q239; cases e239; have qi239 : (0 < l0.length) = True := eq_true (by omega); (try rw [show ((0 : Int)).toNat = 0 from rfl] at hx239_0); (try rw [show 0 * 7 = 0 from rfl] at hx239_0); (try rw [Addr.add_zero'] at hx239_0); (try rw [show ((0 : Int)).toNat = 0 from rfl] at hx239_1); (try rw [show 0 * 7 = 0 from rfl] at hx239_1); (try rw [Addr.add_zero'] at hx239_1); (try rw [show ((0 : Int)).toNat = 0 from rfl] at hx239_2); (try rw [show 0 * 7 = 0 from rfl] at hx239_2); (try rw [Addr.add_zero'] at hx239_2); (try rw [show ((0 : Int)).toNat = 0 from rfl] at hx239_3); (try rw [show 0 * 7 = 0 from rfl] at hx239_3); (try rw [Addr.add_zero'] at hx239_3); (try rw [show ((0 : Int)).toNat = 0 from rfl] at hx239_4); (try rw [show 0 * 7 = 0 from rfl] at hx239_4); (try rw [Addr.add_zero'] at hx239_4); (try rw [show ((0 : Int)).toNat = 0 from rfl] at hx239_5); (try rw [show 0 * 7 = 0 from rfl] at hx239_5); (try rw [Addr.add_zero'] at hx239_5); (try rw [show ((0 : Int)).toNat = 0 from rfl] at hx239_6); (try rw [show 0 * 7 = 0 from rfl] at hx239_6); (try rw [Addr.add_zero'] at hx239_6); replace hx239_0 := (HB.out.cell (World.block_lt_of_cell? w _ hx239_0)).trans hx239_0; replace hx239_1 := (HB.out.cell (World.block_lt_of_cell? w _ hx239_1)).trans hx239_1; replace hx239_2 := (HB.out.cell (World.block_lt_of_cell? w _ hx239_2)).trans hx239_2; replace hx239_3 := (HB.out.cell (World.block_lt_of_cell? w _ hx239_3)).trans hx239_3; replace hx239_4 := (HB.out.cell (World.block_lt_of_cell? w _ hx239_4)).trans hx239_4; replace hx239_5 := (HB.out.cell (World.block_lt_of_cell? w _ hx239_5)).trans hx239_5; replace hx239_6 := (HB.out.cell (World.block_lt_of_cell? w _ hx239_6)).trans hx239_6; have HR239_3 := Aside0.mk hi239_3; have HC239_3 := Aside0.mk hl239_3; clear hi239_3 hl239_3; have HR239_6 := Aside0.mk hi239_6; have HC239_6 := Aside0.mk hl239_6; clear hi239_6 hl239_6; replace p239 := eq_true p239; replace q239 := eq_true q239) | (go_at_call 104; (with_reducible refine (impl_pageOk.calls ((rd_T70 l0 0).f0) ((rd_T70 l0 0).f1) ((rd_T70 l0 0).f2) _ _ ((rd_T70 l0 0).f3) ((rd_T70 l0 0).f4) ((rd_T70 l0 0).f5) _ _ ((rd_T70 l0 0).f6) t240 _ ?side1 ?side2 ?side3 ?side4 A6.out).mono ?_); (case side1 => repeat (first | exact (Kd.C_below HR239_3.out (by repeat (first | (with_reducible first | exact HB.out | apply below_alloc | apply pw_below_drewN | apply below_drew1) | exact HB.out))) | (with_reducible refine Kd.C_alloc ?_ _) | (with_reducible refine Kd.C_drewN ?_ _) | (with_reducible refine Kd.C_drew ?_))); (case side2 => exact HC239_3.out); (case side3 => repeat (first | exact (Kd.C_below HR239_6.out (by repeat (first | (with_reducible first | exact HB.out | apply below_alloc | apply pw_below_drewN | apply below_drew1) | exact HB.out))) | (with_reducible refine Kd.C_alloc ?_ _) | (with_reducible refine Kd.C_drewN ?_ _) | (with_reducible refine Kd.C_drew ?_))); (case side4 => exact HC239_6.out); rintro e w7 ⟨rfl, hb⟩; have n0_ := Aside0.mk (below_step (by repeat (first | (with_reducible first | exact HB.out | apply below_alloc | apply pw_below_drewN | apply below_drew1) | exact HB.out)) hb); clear HB; have HB := n0_; clear n0_; (try clear hb); (try clear hb2); (try clear hk); (try clear hi)))
    go_meet
    case rel => exact ⟨_, (!t240), (by first | rfl | (simp; done) | (simp [*]; done)), (by first | exact H' | (have h_ := H'.out; rw [c5b0] at h_; exact ⟨h_⟩)), ⟨by first | omega | exact Nat.le_refl _⟩, ⟨by repeat (first | (with_reducible first | exact HB.out | apply below_alloc | apply pw_below_drewN | apply below_drew1) | exact HB.out)⟩⟩
   ·rw [if_neg c5] at H
    exact absurd H (by simp)
  ·replace c4 := Bool.eq_false_iff.mpr c4
   subst c4
   have H1 : (impl_TreeOk.j0 k l0 true) = some r := by rw [if_neg (show ¬ (false = true) by decide)] at H; exact H
   clear H
   have H := H1
   clear H1
   have H' := Aside0.mk H
   clear H
   go_wp2_with (first | ((with_reducible refine gate_callee (f := 67) rfl ?_); refine goesL_ (some 7) rfl rfl Try.func67 (by kernel_rfl) rfl #[.int .i64 (l0.length : Int), .int .i64 1, .int .i64 3000] rfl (by (try simp only [List.map_toArray, List.map_cons, List.map_nil]); first | done | rfl | (simp only [List.length_drop, List.length_take]; rfl)) ?_; (with_reducible refine (impl_inRange.calls (l0.length : Int) 1 3000 false _ A3.out).mono ?_); rintro e w' ⟨rfl, ⟨nd, rfl⟩⟩; refine ⟨_, rfl, ?_⟩))
   go_meet
   case rel => exact ⟨_, (true), (by first | rfl | (simp; done) | (simp [*]; done)), H', ⟨by first | omega | exact Nat.le_refl _⟩, ⟨by repeat (first | (with_reducible first | exact HB.out | apply below_alloc | apply pw_below_drewN | apply below_drew1) | exact HB.out)⟩⟩
 case rest =>
  clear HC2
  try clear c2
  try clear p2
  try clear q2
  try clear hx2
  try clear qi2
  try clear c4
  try clear c5
  try clear c5b0
  try clear c5b1
  try clear c6
  try clear hx239_0
  try clear hx239_1
  try clear hx239_2
  try clear hx239_3
  try clear hx239_4
  try clear hx239_5
  try clear hx239_6
  try clear p239
  try clear q239
  obtain ⟨kq, x15_1, rfl, HA, HJ1, HB⟩ := hcut
  cases kq with
  | zero => exact absurd HA.out (by simp [impl_TreeOk.j0])
  | succ kj1 =>
   have H := HA.out
   clear HA
   simp only [impl_TreeOk.j0] at H
   by_cases c8 : x15_1 = true
   ·subst c8
    have H1 : (some false) = some r := by rw [if_pos rfl] at H; exact H
    clear H
    have H := H1
    clear H1
    obtain rfl := Option.some.inj H
    go_wp2
    go_ret
    exact ⟨by first | rfl | (simp [errW_none, errW_some] <;> rfl) | (simp [*, errW_none, errW_some] <;> rfl), by repeat (first | (with_reducible first | exact HB.out | apply below_alloc | apply pw_below_drewN | apply below_drew1) | exact HB.out)⟩
   ·replace c8 := Bool.eq_false_iff.mpr c8
    subst c8
    have H1 : (if 1 ≤ (l0.length : Int) then ((some (l0.drop 1 : List (S70))).bind fun y241 => (impl_TreeOk.l0 kj1 l0 y241 (y241.length : Int) 0)) else (none)) = some r := by rw [if_neg (show ¬ (false = true) by decide)] at H; exact H
    clear H
    have H := H1
    clear H1
    by_cases c9 : 1 ≤ (l0.length : Int)
    ·rw [if_pos c9] at H
     have c9b0 := eq_true c9
     have c9b1 := decide_eq_true c9
     clear c9
     obtain ⟨y241, hy241⟩ : ∃ y_ : List (S70), y_ = (l0.drop 1) := ⟨_, rfl⟩
     replace H : (impl_TreeOk.l0 kj1 l0 y241 (y241.length : Int) 0) = some r := by first | (rw [hy241]; with_reducible exact H) | (have H2_ := (Option.bind_some _ _).symm.trans H; rw [hy241]; with_reducible exact H2_) | (have H2_ := (Option.bind_some _ _).symm.trans H; with_reducible exact H2_) | with_reducible exact H | (rw [hy241]; exact H) | exact H
     have Ny241 := Aside0.mk hy241
     clear hy241
     have H' := Aside0.mk H
     clear H
     have q10 : (1 : Int) ≤ ((l0.length : Int) : Int) := of_decide_eq_true (by first | (with_reducible assumption) | assumption)
     obtain ⟨i010, hi010, _, hsz10, _⟩ := info_parts info70
     have hroom10 : l0.length ≤ c0 := HC0.out
     have hC10 : Kd.C k70 _ A0 l0.length l0 := HR0.out
     have hcut10 := cut_from (P := Try.prog) 30 70 .i64 Try.underlying30 hi010 7 hsz10 A0 l0.length c0 1 (by omega) q10
     have hr10 := Kd.C_drop (m := (1 : Int).toNat) (c := c0) hC10 (by omega) hroom10
     obtain ⟨A10, hA10⟩ : ∃ A1, A1 = (if c0 = (1 : Int).toNat then A0 else (A0 : Option Addr).map (·.add ((1 : Int).toNat * 7))) := ⟨_, rfl⟩
     obtain ⟨c10, hc10⟩ : ∃ c1, c1 = c0 - (1 : Int).toNat := ⟨_, rfl⟩
     have hy10 : y241.length = l0.length - (1 : Int).toNat := (by rw [Ny241.out, List.length_drop] <;> omega)
     rw [show (l0).drop (1 : Int).toNat = y241 from Ny241.out.symm] at hr10
     replace hr10 : Kd.C k70 _ A10 y241.length y241 := (by rw [hA10]; exact hr10)
     rw [← hy10, ← hA10, ← hc10] at hcut10
     have HR244 := Aside0.mk hr10
     have HC244 := Aside0.mk (show y241.length ≤ c10 from by rw [hy10, hc10]; exact Nat.sub_le_sub_right hroom10 _)
     clear hr10 hC10 hroom10 hi010 hsz10 hc10
     have KY10 := Aside0.mk hy10
     have KA10 := Aside0.mk hA10
     clear hy10 hA10
     replace q10 := eq_true q10
     go_wp2
     go_loopg [19] kj1 (fun kq v19 w' => ∃ (x19_2 : Int), v19 = .int .i64 x19_2 ∧ Aside0 (impl_TreeOk.l0 kq l0 y241 (y241.length : Int) x19_2 = some r) ∧ Aside0 (kq ≤ kj1) ∧ Aside0 (Below w.heap.size w w'))
     case atStart => exact ⟨(0), (by first | rfl | (simp; done) | (simp [*]; done)), H', ⟨Nat.le_refl _⟩, ⟨by repeat (first | (with_reducible first | exact HB.out | apply below_alloc | apply pw_below_drewN | apply below_drew1) | exact HB.out)⟩⟩
     case round =>
      clear H'
      try clear c1
      try clear q1
      try clear c2
      try clear p2
      try clear q2
      try clear hx2
      try clear qi2
      try clear c4
      try clear c5
      try clear c5b0
      try clear c5b1
      try clear c6
      try clear c8
      try clear c9
      try clear c9b0
      try clear c9b1
      try clear c10
      try clear q10
      try clear hx239_0
      try clear hx239_1
      try clear hx239_2
      try clear hx239_3
      try clear hx239_4
      try clear hx239_5
      try clear hx239_6
      try clear p2
      try clear p239
      try clear q10
      try clear q2
      try clear q239
      obtain ⟨x19_2, rfl, HA, HK2, HB⟩ := hrel
      cases gk with
      | zero => exact absurd HA.out (by simp [impl_TreeOk.l0])
      | succ k2 =>
       have H := HA.out
       clear HA
       simp only [impl_TreeOk.l0] at H
       by_cases c11 : x19_2 < (y241.length : Int)
       ·rw [if_pos c11] at H
        have c11b0 := decide_eq_true c11
        clear c11
        by_cases c12 : 0 ≤ x19_2
        ·rw [if_pos c12] at H
         have c12b0 := decide_eq_true c12
         clear c12
         by_cases c13 : x19_2 < (y241.length : Int)
         ·rw [if_pos c13] at H
          have c13b0 := decide_eq_true c13
          clear c13
          replace H := Option.bind_eq_some_iff.mp H
          obtain ⟨t251, A140, H⟩ := H
          replace H : (if t251 = true then ((impl_inRange.f ((rd_T70 y241 x19_2).f5) 0 (wrap64 ((l0.length : Int) - 1))).bind fun t252 => (if t252 = true then (if 0 ≤ ((rd_T70 y241 x19_2).f5) then (if ((rd_T70 y241 x19_2).f5) < (l0.length : Int) then ((impl_hasKids.f ((rd_T70 l0 ((rd_T70 y241 x19_2).f5)).f0)).bind fun t254 => (if t254 = true then (impl_TreeOk.l0 k2 l0 y241 (y241.length : Int) (wrap64 (x19_2 + 1))) else (some false))) else (none)) else (none)) else (some false))) else (some false)) = some r := H
          have A14 := Aside0.mk A140
          clear A140
          by_cases c15 : t251 = true
          ·subst c15
           have H1 : ((impl_inRange.f ((rd_T70 y241 x19_2).f5) 0 (wrap64 ((l0.length : Int) - 1))).bind fun t252 => (if t252 = true then (if 0 ≤ ((rd_T70 y241 x19_2).f5) then (if ((rd_T70 y241 x19_2).f5) < (l0.length : Int) then ((impl_hasKids.f ((rd_T70 l0 ((rd_T70 y241 x19_2).f5)).f0)).bind fun t254 => (if t254 = true then (impl_TreeOk.l0 k2 l0 y241 (y241.length : Int) (wrap64 (x19_2 + 1))) else (some false))) else (none)) else (none)) else (some false))) = some r := by rw [if_pos rfl] at H; exact H
           clear H
           have H := H1
           clear H1
           replace H := Option.bind_eq_some_iff.mp H
           obtain ⟨t252, A160, H⟩ := H
           replace H : (if t252 = true then (if 0 ≤ ((rd_T70 y241 x19_2).f5) then (if ((rd_T70 y241 x19_2).f5) < (l0.length : Int) then ((impl_hasKids.f ((rd_T70 l0 ((rd_T70 y241 x19_2).f5)).f0)).bind fun t254 => (if t254 = true then (impl_TreeOk.l0 k2 l0 y241 (y241.length : Int) (wrap64 (x19_2 + 1))) else (some false))) else (none)) else (none)) else (some false)) = some r := H
           have A16 := Aside0.mk A160
           clear A160
           by_cases c17 : t252 = true
           ·subst c17
            have H1 : (if 0 ≤ ((rd_T70 y241 x19_2).f5) then (if ((rd_T70 y241 x19_2).f5) < (l0.length : Int) then ((impl_hasKids.f ((rd_T70 l0 ((rd_T70 y241 x19_2).f5)).f0)).bind fun t254 => (if t254 = true then (impl_TreeOk.l0 k2 l0 y241 (y241.length : Int) (wrap64 (x19_2 + 1))) else (some false))) else (none)) else (none)) = some r := by rw [if_pos rfl] at H; exact H
            clear H
            have H := H1
            clear H1
            by_cases c18 : 0 ≤ ((rd_T70 y241 x19_2).f5)
            ·rw [if_pos c18] at H
             have c18b0 := decide_eq_true c18
             clear c18
             by_cases c19 : ((rd_T70 y241 x19_2).f5) < (l0.length : Int)
             ·rw [if_pos c19] at H
              have c19b0 := decide_eq_true c19
              clear c19
              replace H := Option.bind_eq_some_iff.mp H
              obtain ⟨t254, A200, H⟩ := H
              replace H : (if t254 = true then (impl_TreeOk.l0 k2 l0 y241 (y241.length : Int) (wrap64 (x19_2 + 1))) else (some false)) = some r := H
              have A20 := Aside0.mk A200
              clear A200
              by_cases c21 : t254 = true
              ·subst c21
               have H1 : (impl_TreeOk.l0 k2 l0 y241 (y241.length : Int) (wrap64 (x19_2 + 1))) = some r := by rw [if_pos rfl] at H; exact H
               clear H
               have H := H1
               clear H1
               have H' := Aside0.mk H
               clear H
               have p249 : 0 ≤ (x19_2 : Int) := of_decide_eq_true (by first | (with_reducible assumption) | assumption)
               have q249 : x19_2 < (y241.length : Int) := of_decide_eq_true (by first | (with_reducible assumption) | assumption)
               obtain ⟨ad249, A249_3, c249_3, A249_6, c249_6, e249, hx249_0, hx249_1, hx249_2, hx249_3, hx249_4, hx249_5, hx249_6, hl249_3, hi249_3, hl249_6, hi249_6⟩ := at_T70 HR244.out x19_2 p249 q249
               cases e249
               replace hx249_0 := (HB.out.cell (World.block_lt_of_cell? w _ hx249_0)).trans hx249_0
               replace hx249_1 := (HB.out.cell (World.block_lt_of_cell? w _ hx249_1)).trans hx249_1
               replace hx249_2 := (HB.out.cell (World.block_lt_of_cell? w _ hx249_2)).trans hx249_2
               replace hx249_3 := (HB.out.cell (World.block_lt_of_cell? w _ hx249_3)).trans hx249_3
               replace hx249_4 := (HB.out.cell (World.block_lt_of_cell? w _ hx249_4)).trans hx249_4
               replace hx249_5 := (HB.out.cell (World.block_lt_of_cell? w _ hx249_5)).trans hx249_5
               replace hx249_6 := (HB.out.cell (World.block_lt_of_cell? w _ hx249_6)).trans hx249_6
               have HR249_3 := Aside0.mk hi249_3
               have HC249_3 := Aside0.mk hl249_3
               clear hi249_3 hl249_3
               have HR249_6 := Aside0.mk hi249_6
               have HC249_6 := Aside0.mk hl249_6
               clear hi249_6 hl249_6
               replace p249 := eq_true p249
               replace q249 := eq_true q249
               go_wp2_with (first | ((with_reducible refine gate_dst (N := 4) rfl ?_); (try (refine gate_guard (by rfl) ?_; dsimp only)); refine box_event ?hg (N := 4) ?hd (cs := #[.int .i64 0, .int .i64 0, .string (⟨#[]⟩ : ByteArray), .slice none 0 0, .string (⟨#[]⟩ : ByteArray), .int .i64 0, .slice none 0 0]) (t := 70) ?hr ?_; (case hd => rfl); (case hg => rfl); (case hr => first | (go_simp; done) | (go_simp; rfl)); intro gb250 hg w22 hbox hb; have n0_ := Aside0.mk (below_step (by repeat (first | (with_reducible first | exact HB.out | apply below_alloc | apply pw_below_drewN | apply below_drew1) | exact HB.out)) hb); have n1_ := Aside0.mk (hbox); have n2_ := Aside0.mk ((by rw [hg]; exact (below_size (by repeat (first | (with_reducible first | exact HB.out | apply below_alloc | apply pw_below_drewN | apply below_drew1) | exact HB.out))) : w.heap.size ≤ gb250)); have n3_ := Aside0.mk ((by rw [hg]; exact (below_size (by repeat (first | (with_reducible first | exact HB.out | apply below_alloc | apply pw_below_drewN | apply below_drew1) | exact HB.out))) : w.heap.size ≤ gb250)); clear HB; have HB := n0_; have BK250 := n1_; have GW250 := n2_; have GE250 := n3_; clear n0_ n1_ n2_ n3_; clear hb hbox hg; have hcz23_0 : w22.cell? ⟨gb250, 0, none⟩ = some (.int .i64 0) := (blk_cell BK250.out 0).trans rfl; have hcz23_1 : w22.cell? ⟨gb250, 1, none⟩ = some (.int .i64 0) := (blk_cell BK250.out 1).trans rfl; have hcz23_2 : w22.cell? ⟨gb250, 2, none⟩ = some (.string (⟨#[]⟩ : ByteArray)) := (blk_cell BK250.out 2).trans rfl; have hcz23_3 : w22.cell? ⟨gb250, 3, none⟩ = some (.slice none 0 0) := (blk_cell BK250.out 3).trans rfl; have hcz23_4 : w22.cell? ⟨gb250, 4, none⟩ = some (.string (⟨#[]⟩ : ByteArray)) := (blk_cell BK250.out 4).trans rfl; have hcz23_5 : w22.cell? ⟨gb250, 5, none⟩ = some (.int .i64 0) := (blk_cell BK250.out 5).trans rfl; have hcz23_6 : w22.cell? ⟨gb250, 6, none⟩ = some (.slice none 0 0) := (blk_cell BK250.out 6).trans rfl; have hfz23_0 := blk_frozen BK250.out 0; have hfz23_1 := blk_frozen BK250.out 1; have hfz23_2 := blk_frozen BK250.out 2; have hfz23_3 := blk_frozen BK250.out 3; have hfz23_4 := blk_frozen BK250.out 4; have hfz23_5 := blk_frozen BK250.out 5; have hfz23_6 := blk_frozen BK250.out 6) | ((with_reducible refine gate_callee (f := 105) rfl ?_); refine goesL_ (some 24) rfl rfl Try.func105 (by kernel_rfl) rfl #[.agg #[.int .i64 ((rd_T70 y241 x19_2).f0), .int .i64 ((rd_T70 y241 x19_2).f1), .string ((rd_T70 y241 x19_2).f2), .slice A249_3 ((rd_T70 y241 x19_2).f3).length c249_3, .string ((rd_T70 y241 x19_2).f4), .int .i64 ((rd_T70 y241 x19_2).f5), .slice A249_6 ((rd_T70 y241 x19_2).f6).length c249_6]] rfl (by (try simp only [List.map_toArray, List.map_cons, List.map_nil]); first | done | rfl | (simp only [List.length_drop, List.length_take]; rfl)) ?_; (with_reducible refine (impl_itemOk.calls k2 ((rd_T70 y241 x19_2).f0) ((rd_T70 y241 x19_2).f1) ((rd_T70 y241 x19_2).f2) _ _ ((rd_T70 y241 x19_2).f3) ((rd_T70 y241 x19_2).f4) ((rd_T70 y241 x19_2).f5) _ _ ((rd_T70 y241 x19_2).f6) true _ ?side1 ?side2 ?side3 ?side4 A14.out).mono ?_); (case side1 => exact Kd.C_below HR249_3.out (by repeat (first | (with_reducible first | exact HB.out | apply below_alloc | apply pw_below_drewN | apply below_drew1 | refine below_set ?_ GE250.out) | exact HB.out))); (case side2 => exact HC249_3.out); (case side3 => exact Kd.C_below HR249_6.out (by repeat (first | (with_reducible first | exact HB.out | apply below_alloc | apply pw_below_drewN | apply below_drew1 | refine below_set ?_ GE250.out) | exact HB.out))); (case side4 => exact HC249_6.out); rintro e w24 ⟨rfl, hb⟩; refine ⟨_, rfl, ?_⟩; have n0_ := Aside0.mk (blk_below (g := gb250) (o := .cells #[.int .i64 ((rd_T70 y241 x19_2).f0), .int .i64 ((rd_T70 y241 x19_2).f1), .string ((rd_T70 y241 x19_2).f2), .slice A249_3 ((rd_T70 y241 x19_2).f3).length c249_3, .string ((rd_T70 y241 x19_2).f4), .int .i64 ((rd_T70 y241 x19_2).f5), .slice A249_6 ((rd_T70 y241 x19_2).f6).length c249_6] 70 (0, 0)) (by (with_reducible repeat (first | refine blk_drewN ?_ _ | refine blk_drew ?_ | refine blk_alloc ?_ _)); refine blk_put (cs := #[.int .i64 ((rd_T70 y241 x19_2).f0), .int .i64 ((rd_T70 y241 x19_2).f1), .string ((rd_T70 y241 x19_2).f2), .slice A249_3 ((rd_T70 y241 x19_2).f3).length c249_3, .string ((rd_T70 y241 x19_2).f4), .int .i64 ((rd_T70 y241 x19_2).f5), .slice none 0 0]) ?_ 6 _ rfl; (with_reducible repeat (first | refine blk_drewN ?_ _ | refine blk_drew ?_ | refine blk_alloc ?_ _)); refine blk_put (cs := #[.int .i64 ((rd_T70 y241 x19_2).f0), .int .i64 ((rd_T70 y241 x19_2).f1), .string ((rd_T70 y241 x19_2).f2), .slice A249_3 ((rd_T70 y241 x19_2).f3).length c249_3, .string ((rd_T70 y241 x19_2).f4), .int .i64 0, .slice none 0 0]) ?_ 5 _ rfl; (with_reducible repeat (first | refine blk_drewN ?_ _ | refine blk_drew ?_ | refine blk_alloc ?_ _)); refine blk_put (cs := #[.int .i64 ((rd_T70 y241 x19_2).f0), .int .i64 ((rd_T70 y241 x19_2).f1), .string ((rd_T70 y241 x19_2).f2), .slice A249_3 ((rd_T70 y241 x19_2).f3).length c249_3, .string (⟨#[]⟩ : ByteArray), .int .i64 0, .slice none 0 0]) ?_ 4 _ rfl; (with_reducible repeat (first | refine blk_drewN ?_ _ | refine blk_drew ?_ | refine blk_alloc ?_ _)); refine blk_put (cs := #[.int .i64 ((rd_T70 y241 x19_2).f0), .int .i64 ((rd_T70 y241 x19_2).f1), .string ((rd_T70 y241 x19_2).f2), .slice none 0 0, .string (⟨#[]⟩ : ByteArray), .int .i64 0, .slice none 0 0]) ?_ 3 _ rfl; (with_reducible repeat (first | refine blk_drewN ?_ _ | refine blk_drew ?_ | refine blk_alloc ?_ _)); refine blk_put (cs := #[.int .i64 ((rd_T70 y241 x19_2).f0), .int .i64 ((rd_T70 y241 x19_2).f1), .string (⟨#[]⟩ : ByteArray), .slice none 0 0, .string (⟨#[]⟩ : ByteArray), .int .i64 0, .slice none 0 0]) ?_ 2 _ rfl; (with_reducible repeat (first | refine blk_drewN ?_ _ | refine blk_drew ?_ | refine blk_alloc ?_ _)); refine blk_put (cs := #[.int .i64 ((rd_T70 y241 x19_2).f0), .int .i64 0, .string (⟨#[]⟩ : ByteArray), .slice none 0 0, .string (⟨#[]⟩ : ByteArray), .int .i64 0, .slice none 0 0]) ?_ 1 _ rfl; (with_reducible repeat (first | refine blk_drewN ?_ _ | refine blk_drew ?_ | refine blk_alloc ?_ _)); refine blk_put (cs := #[.int .i64 0, .int .i64 0, .string (⟨#[]⟩ : ByteArray), .slice none 0 0, .string (⟨#[]⟩ : ByteArray), .int .i64 0, .slice none 0 0]) ?_ 0 _ rfl; (with_reducible repeat (first | refine blk_drewN ?_ _ | refine blk_drew ?_ | refine blk_alloc ?_ _)); exact BK250.out) hb); have n1_ := Aside0.mk (below_step (by repeat (first | (with_reducible first | exact HB.out | apply below_alloc | apply pw_below_drewN | apply below_drew1 | refine below_set ?_ GE250.out) | exact HB.out)) hb); clear BK250; clear HB; have BK250 := n0_; have HB := n1_; clear n0_ n1_; (try clear hb); (try clear hb2); (try clear hk); (try clear hi); have hcz25_0 : w24.cell? ⟨gb250, 0, none⟩ = some (.int .i64 ((rd_T70 y241 x19_2).f0)) := (blk_cell BK250.out 0).trans rfl; have hcz25_1 : w24.cell? ⟨gb250, 1, none⟩ = some (.int .i64 ((rd_T70 y241 x19_2).f1)) := (blk_cell BK250.out 1).trans rfl; have hcz25_2 : w24.cell? ⟨gb250, 2, none⟩ = some (.string ((rd_T70 y241 x19_2).f2)) := (blk_cell BK250.out 2).trans rfl; have hcz25_3 : w24.cell? ⟨gb250, 3, none⟩ = some (.slice A249_3 ((rd_T70 y241 x19_2).f3).length c249_3) := (blk_cell BK250.out 3).trans rfl; have hcz25_4 : w24.cell? ⟨gb250, 4, none⟩ = some (.string ((rd_T70 y241 x19_2).f4)) := (blk_cell BK250.out 4).trans rfl; have hcz25_5 : w24.cell? ⟨gb250, 5, none⟩ = some (.int .i64 ((rd_T70 y241 x19_2).f5)) := (blk_cell BK250.out 5).trans rfl; have hcz25_6 : w24.cell? ⟨gb250, 6, none⟩ = some (.slice A249_6 ((rd_T70 y241 x19_2).f6).length c249_6) := (blk_cell BK250.out 6).trans rfl; have hfz25_0 := blk_frozen BK250.out 0; have hfz25_1 := blk_frozen BK250.out 1; have hfz25_2 := blk_frozen BK250.out 2; have hfz25_3 := blk_frozen BK250.out 3; have hfz25_4 := blk_frozen BK250.out 4; have hfz25_5 := blk_frozen BK250.out 5; have hfz25_6 := blk_frozen BK250.out 6) | (go_at_call 67; (with_reducible refine (impl_inRange.calls ((rd_T70 y241 x19_2).f5) 0 (wrap64 ((l0.length : Int) - 1)) true _ A16.out).mono ?_); rintro e w' ⟨rfl, ⟨nd, rfl⟩⟩; have p253 : 0 ≤ (((rd_T70 y241 x19_2).f5) : Int) := of_decide_eq_true (by first | (with_reducible assumption) | assumption); have q253 : ((rd_T70 y241 x19_2).f5) < (l0.length : Int) := of_decide_eq_true (by first | (with_reducible assumption) | assumption); obtain ⟨ad253, A253_3, c253_3, A253_6, c253_6, e253, hx253_0, hx253_1, hx253_2, hx253_3, hx253_4, hx253_5, hx253_6, hl253_3, hi253_3, hl253_6, hi253_6⟩ := at_T70 HR0.out ((rd_T70 y241 x19_2).f5) p253 q253; cases e253; replace hx253_0 := (HB.out.cell (World.block_lt_of_cell? w _ hx253_0)).trans hx253_0; replace hx253_1 := (HB.out.cell (World.block_lt_of_cell? w _ hx253_1)).trans hx253_1; replace hx253_2 := (HB.out.cell (World.block_lt_of_cell? w _ hx253_2)).trans hx253_2; replace hx253_3 := (HB.out.cell (World.block_lt_of_cell? w _ hx253_3)).trans hx253_3; replace hx253_4 := (HB.out.cell (World.block_lt_of_cell? w _ hx253_4)).trans hx253_4; replace hx253_5 := (HB.out.cell (World.block_lt_of_cell? w _ hx253_5)).trans hx253_5; replace hx253_6 := (HB.out.cell (World.block_lt_of_cell? w _ hx253_6)).trans hx253_6; have HR253_3 := Aside0.mk hi253_3; have HC253_3 := Aside0.mk hl253_3; clear hi253_3 hl253_3; have HR253_6 := Aside0.mk hi253_6; have HC253_6 := Aside0.mk hl253_6; clear hi253_6 hl253_6; replace p253 := eq_true p253; replace q253 := eq_true q253) | (go_at_call 106; (with_reducible refine (impl_hasKids.calls ((rd_T70 l0 ((rd_T70 y241 x19_2).f5)).f0) true _ A20.out).mono ?_); rintro e w' ⟨rfl, ⟨nd, rfl⟩⟩))
               go_roundg k2
               case measure => have := HJ1.out; have := HK2.out; omega
               case rel => exact ⟨(wrap64 (x19_2 + 1)), (by first | rfl | (simp; done) | (simp [*]; done)), H', ⟨by have := HJ1.out; have := HK2.out; omega⟩, ⟨by repeat (first | (with_reducible first | exact HB.out | apply below_alloc | apply pw_below_drewN | apply below_drew1 | refine below_set ?_ GE250.out) | exact HB.out)⟩⟩
              ·replace c21 := Bool.eq_false_iff.mpr c21
               subst c21
               have H1 : (some false) = some r := by rw [if_neg (show ¬ (false = true) by decide)] at H; exact H
               clear H
               have H := H1
               clear H1
               obtain rfl := Option.some.inj H
               have p249 : 0 ≤ (x19_2 : Int) := of_decide_eq_true (by first | (with_reducible assumption) | assumption)
               have q249 : x19_2 < (y241.length : Int) := of_decide_eq_true (by first | (with_reducible assumption) | assumption)
               obtain ⟨ad249, A249_3, c249_3, A249_6, c249_6, e249, hx249_0, hx249_1, hx249_2, hx249_3, hx249_4, hx249_5, hx249_6, hl249_3, hi249_3, hl249_6, hi249_6⟩ := at_T70 HR244.out x19_2 p249 q249
               cases e249
               replace hx249_0 := (HB.out.cell (World.block_lt_of_cell? w _ hx249_0)).trans hx249_0
               replace hx249_1 := (HB.out.cell (World.block_lt_of_cell? w _ hx249_1)).trans hx249_1
               replace hx249_2 := (HB.out.cell (World.block_lt_of_cell? w _ hx249_2)).trans hx249_2
               replace hx249_3 := (HB.out.cell (World.block_lt_of_cell? w _ hx249_3)).trans hx249_3
               replace hx249_4 := (HB.out.cell (World.block_lt_of_cell? w _ hx249_4)).trans hx249_4
               replace hx249_5 := (HB.out.cell (World.block_lt_of_cell? w _ hx249_5)).trans hx249_5
               replace hx249_6 := (HB.out.cell (World.block_lt_of_cell? w _ hx249_6)).trans hx249_6
               have HR249_3 := Aside0.mk hi249_3
               have HC249_3 := Aside0.mk hl249_3
               clear hi249_3 hl249_3
               have HR249_6 := Aside0.mk hi249_6
               have HC249_6 := Aside0.mk hl249_6
               clear hi249_6 hl249_6
               replace p249 := eq_true p249
               replace q249 := eq_true q249
               go_wp2_with (first | ((with_reducible refine gate_dst (N := 4) rfl ?_); (try (refine gate_guard (by rfl) ?_; dsimp only)); refine box_event ?hg (N := 4) ?hd (cs := #[.int .i64 0, .int .i64 0, .string (⟨#[]⟩ : ByteArray), .slice none 0 0, .string (⟨#[]⟩ : ByteArray), .int .i64 0, .slice none 0 0]) (t := 70) ?hr ?_; (case hd => rfl); (case hg => rfl); (case hr => first | (go_simp; done) | (go_simp; rfl)); intro gb250 hg w26 hbox hb; have n0_ := Aside0.mk (below_step (by repeat (first | (with_reducible first | exact HB.out | apply below_alloc | apply pw_below_drewN | apply below_drew1) | exact HB.out)) hb); have n1_ := Aside0.mk (hbox); have n2_ := Aside0.mk ((by rw [hg]; exact (below_size (by repeat (first | (with_reducible first | exact HB.out | apply below_alloc | apply pw_below_drewN | apply below_drew1) | exact HB.out))) : w.heap.size ≤ gb250)); have n3_ := Aside0.mk ((by rw [hg]; exact (below_size (by repeat (first | (with_reducible first | exact HB.out | apply below_alloc | apply pw_below_drewN | apply below_drew1) | exact HB.out))) : w.heap.size ≤ gb250)); clear HB; have HB := n0_; have BK250 := n1_; have GW250 := n2_; have GE250 := n3_; clear n0_ n1_ n2_ n3_; clear hb hbox hg; have hcz27_0 : w26.cell? ⟨gb250, 0, none⟩ = some (.int .i64 0) := (blk_cell BK250.out 0).trans rfl; have hcz27_1 : w26.cell? ⟨gb250, 1, none⟩ = some (.int .i64 0) := (blk_cell BK250.out 1).trans rfl; have hcz27_2 : w26.cell? ⟨gb250, 2, none⟩ = some (.string (⟨#[]⟩ : ByteArray)) := (blk_cell BK250.out 2).trans rfl; have hcz27_3 : w26.cell? ⟨gb250, 3, none⟩ = some (.slice none 0 0) := (blk_cell BK250.out 3).trans rfl; have hcz27_4 : w26.cell? ⟨gb250, 4, none⟩ = some (.string (⟨#[]⟩ : ByteArray)) := (blk_cell BK250.out 4).trans rfl; have hcz27_5 : w26.cell? ⟨gb250, 5, none⟩ = some (.int .i64 0) := (blk_cell BK250.out 5).trans rfl; have hcz27_6 : w26.cell? ⟨gb250, 6, none⟩ = some (.slice none 0 0) := (blk_cell BK250.out 6).trans rfl; have hfz27_0 := blk_frozen BK250.out 0; have hfz27_1 := blk_frozen BK250.out 1; have hfz27_2 := blk_frozen BK250.out 2; have hfz27_3 := blk_frozen BK250.out 3; have hfz27_4 := blk_frozen BK250.out 4; have hfz27_5 := blk_frozen BK250.out 5; have hfz27_6 := blk_frozen BK250.out 6) | ((with_reducible refine gate_callee (f := 105) rfl ?_); refine goesL_ (some 24) rfl rfl Try.func105 (by kernel_rfl) rfl #[.agg #[.int .i64 ((rd_T70 y241 x19_2).f0), .int .i64 ((rd_T70 y241 x19_2).f1), .string ((rd_T70 y241 x19_2).f2), .slice A249_3 ((rd_T70 y241 x19_2).f3).length c249_3, .string ((rd_T70 y241 x19_2).f4), .int .i64 ((rd_T70 y241 x19_2).f5), .slice A249_6 ((rd_T70 y241 x19_2).f6).length c249_6]] rfl (by (try simp only [List.map_toArray, List.map_cons, List.map_nil]); first | done | rfl | (simp only [List.length_drop, List.length_take]; rfl)) ?_; (with_reducible refine (impl_itemOk.calls k2 ((rd_T70 y241 x19_2).f0) ((rd_T70 y241 x19_2).f1) ((rd_T70 y241 x19_2).f2) _ _ ((rd_T70 y241 x19_2).f3) ((rd_T70 y241 x19_2).f4) ((rd_T70 y241 x19_2).f5) _ _ ((rd_T70 y241 x19_2).f6) true _ ?side1 ?side2 ?side3 ?side4 A14.out).mono ?_); (case side1 => exact Kd.C_below HR249_3.out (by repeat (first | (with_reducible first | exact HB.out | apply below_alloc | apply pw_below_drewN | apply below_drew1 | refine below_set ?_ GE250.out) | exact HB.out))); (case side2 => exact HC249_3.out); (case side3 => exact Kd.C_below HR249_6.out (by repeat (first | (with_reducible first | exact HB.out | apply below_alloc | apply pw_below_drewN | apply below_drew1 | refine below_set ?_ GE250.out) | exact HB.out))); (case side4 => exact HC249_6.out); rintro e w28 ⟨rfl, hb⟩; refine ⟨_, rfl, ?_⟩; have n0_ := Aside0.mk (blk_below (g := gb250) (o := .cells #[.int .i64 ((rd_T70 y241 x19_2).f0), .int .i64 ((rd_T70 y241 x19_2).f1), .string ((rd_T70 y241 x19_2).f2), .slice A249_3 ((rd_T70 y241 x19_2).f3).length c249_3, .string ((rd_T70 y241 x19_2).f4), .int .i64 ((rd_T70 y241 x19_2).f5), .slice A249_6 ((rd_T70 y241 x19_2).f6).length c249_6] 70 (0, 0)) (by (with_reducible repeat (first | refine blk_drewN ?_ _ | refine blk_drew ?_ | refine blk_alloc ?_ _)); refine blk_put (cs := #[.int .i64 ((rd_T70 y241 x19_2).f0), .int .i64 ((rd_T70 y241 x19_2).f1), .string ((rd_T70 y241 x19_2).f2), .slice A249_3 ((rd_T70 y241 x19_2).f3).length c249_3, .string ((rd_T70 y241 x19_2).f4), .int .i64 ((rd_T70 y241 x19_2).f5), .slice none 0 0]) ?_ 6 _ rfl; (with_reducible repeat (first | refine blk_drewN ?_ _ | refine blk_drew ?_ | refine blk_alloc ?_ _)); refine blk_put (cs := #[.int .i64 ((rd_T70 y241 x19_2).f0), .int .i64 ((rd_T70 y241 x19_2).f1), .string ((rd_T70 y241 x19_2).f2), .slice A249_3 ((rd_T70 y241 x19_2).f3).length c249_3, .string ((rd_T70 y241 x19_2).f4), .int .i64 0, .slice none 0 0]) ?_ 5 _ rfl; (with_reducible repeat (first | refine blk_drewN ?_ _ | refine blk_drew ?_ | refine blk_alloc ?_ _)); refine blk_put (cs := #[.int .i64 ((rd_T70 y241 x19_2).f0), .int .i64 ((rd_T70 y241 x19_2).f1), .string ((rd_T70 y241 x19_2).f2), .slice A249_3 ((rd_T70 y241 x19_2).f3).length c249_3, .string (⟨#[]⟩ : ByteArray), .int .i64 0, .slice none 0 0]) ?_ 4 _ rfl; (with_reducible repeat (first | refine blk_drewN ?_ _ | refine blk_drew ?_ | refine blk_alloc ?_ _)); refine blk_put (cs := #[.int .i64 ((rd_T70 y241 x19_2).f0), .int .i64 ((rd_T70 y241 x19_2).f1), .string ((rd_T70 y241 x19_2).f2), .slice none 0 0, .string (⟨#[]⟩ : ByteArray), .int .i64 0, .slice none 0 0]) ?_ 3 _ rfl; (with_reducible repeat (first | refine blk_drewN ?_ _ | refine blk_drew ?_ | refine blk_alloc ?_ _)); refine blk_put (cs := #[.int .i64 ((rd_T70 y241 x19_2).f0), .int .i64 ((rd_T70 y241 x19_2).f1), .string (⟨#[]⟩ : ByteArray), .slice none 0 0, .string (⟨#[]⟩ : ByteArray), .int .i64 0, .slice none 0 0]) ?_ 2 _ rfl; (with_reducible repeat (first | refine blk_drewN ?_ _ | refine blk_drew ?_ | refine blk_alloc ?_ _)); refine blk_put (cs := #[.int .i64 ((rd_T70 y241 x19_2).f0), .int .i64 0, .string (⟨#[]⟩ : ByteArray), .slice none 0 0, .string (⟨#[]⟩ : ByteArray), .int .i64 0, .slice none 0 0]) ?_ 1 _ rfl; (with_reducible repeat (first | refine blk_drewN ?_ _ | refine blk_drew ?_ | refine blk_alloc ?_ _)); refine blk_put (cs := #[.int .i64 0, .int .i64 0, .string (⟨#[]⟩ : ByteArray), .slice none 0 0, .string (⟨#[]⟩ : ByteArray), .int .i64 0, .slice none 0 0]) ?_ 0 _ rfl; (with_reducible repeat (first | refine blk_drewN ?_ _ | refine blk_drew ?_ | refine blk_alloc ?_ _)); exact BK250.out) hb); have n1_ := Aside0.mk (below_step (by repeat (first | (with_reducible first | exact HB.out | apply below_alloc | apply pw_below_drewN | apply below_drew1 | refine below_set ?_ GE250.out) | exact HB.out)) hb); clear BK250; clear HB; have BK250 := n0_; have HB := n1_; clear n0_ n1_; (try clear hb); (try clear hb2); (try clear hk); (try clear hi); have hcz29_0 : w28.cell? ⟨gb250, 0, none⟩ = some (.int .i64 ((rd_T70 y241 x19_2).f0)) := (blk_cell BK250.out 0).trans rfl; have hcz29_1 : w28.cell? ⟨gb250, 1, none⟩ = some (.int .i64 ((rd_T70 y241 x19_2).f1)) := (blk_cell BK250.out 1).trans rfl; have hcz29_2 : w28.cell? ⟨gb250, 2, none⟩ = some (.string ((rd_T70 y241 x19_2).f2)) := (blk_cell BK250.out 2).trans rfl; have hcz29_3 : w28.cell? ⟨gb250, 3, none⟩ = some (.slice A249_3 ((rd_T70 y241 x19_2).f3).length c249_3) := (blk_cell BK250.out 3).trans rfl; have hcz29_4 : w28.cell? ⟨gb250, 4, none⟩ = some (.string ((rd_T70 y241 x19_2).f4)) := (blk_cell BK250.out 4).trans rfl; have hcz29_5 : w28.cell? ⟨gb250, 5, none⟩ = some (.int .i64 ((rd_T70 y241 x19_2).f5)) := (blk_cell BK250.out 5).trans rfl; have hcz29_6 : w28.cell? ⟨gb250, 6, none⟩ = some (.slice A249_6 ((rd_T70 y241 x19_2).f6).length c249_6) := (blk_cell BK250.out 6).trans rfl; have hfz29_0 := blk_frozen BK250.out 0; have hfz29_1 := blk_frozen BK250.out 1; have hfz29_2 := blk_frozen BK250.out 2; have hfz29_3 := blk_frozen BK250.out 3; have hfz29_4 := blk_frozen BK250.out 4; have hfz29_5 := blk_frozen BK250.out 5; have hfz29_6 := blk_frozen BK250.out 6) | (go_at_call 67; (with_reducible refine (impl_inRange.calls ((rd_T70 y241 x19_2).f5) 0 (wrap64 ((l0.length : Int) - 1)) true _ A16.out).mono ?_); rintro e w' ⟨rfl, ⟨nd, rfl⟩⟩; have p253 : 0 ≤ (((rd_T70 y241 x19_2).f5) : Int) := of_decide_eq_true (by first | (with_reducible assumption) | assumption); have q253 : ((rd_T70 y241 x19_2).f5) < (l0.length : Int) := of_decide_eq_true (by first | (with_reducible assumption) | assumption); obtain ⟨ad253, A253_3, c253_3, A253_6, c253_6, e253, hx253_0, hx253_1, hx253_2, hx253_3, hx253_4, hx253_5, hx253_6, hl253_3, hi253_3, hl253_6, hi253_6⟩ := at_T70 HR0.out ((rd_T70 y241 x19_2).f5) p253 q253; cases e253; replace hx253_0 := (HB.out.cell (World.block_lt_of_cell? w _ hx253_0)).trans hx253_0; replace hx253_1 := (HB.out.cell (World.block_lt_of_cell? w _ hx253_1)).trans hx253_1; replace hx253_2 := (HB.out.cell (World.block_lt_of_cell? w _ hx253_2)).trans hx253_2; replace hx253_3 := (HB.out.cell (World.block_lt_of_cell? w _ hx253_3)).trans hx253_3; replace hx253_4 := (HB.out.cell (World.block_lt_of_cell? w _ hx253_4)).trans hx253_4; replace hx253_5 := (HB.out.cell (World.block_lt_of_cell? w _ hx253_5)).trans hx253_5; replace hx253_6 := (HB.out.cell (World.block_lt_of_cell? w _ hx253_6)).trans hx253_6; have HR253_3 := Aside0.mk hi253_3; have HC253_3 := Aside0.mk hl253_3; clear hi253_3 hl253_3; have HR253_6 := Aside0.mk hi253_6; have HC253_6 := Aside0.mk hl253_6; clear hi253_6 hl253_6; replace p253 := eq_true p253; replace q253 := eq_true q253) | (go_at_call 106; (with_reducible refine (impl_hasKids.calls ((rd_T70 l0 ((rd_T70 y241 x19_2).f5)).f0) false _ A20.out).mono ?_); rintro e w' ⟨rfl, ⟨nd, rfl⟩⟩))
               go_ret
               exact ⟨by first | rfl | (simp [errW_none, errW_some] <;> rfl) | (simp [*, errW_none, errW_some] <;> rfl), by repeat (first | (with_reducible first | exact HB.out | apply below_alloc | apply pw_below_drewN | apply below_drew1 | refine below_set ?_ GE250.out) | exact HB.out)⟩
             ·rw [if_neg c19] at H
              exact absurd H (by simp)
            ·rw [if_neg c18] at H
             exact absurd H (by simp)
           ·replace c17 := Bool.eq_false_iff.mpr c17
            subst c17
            have H1 : (some false) = some r := by rw [if_neg (show ¬ (false = true) by decide)] at H; exact H
            clear H
            have H := H1
            clear H1
            obtain rfl := Option.some.inj H
            have p249 : 0 ≤ (x19_2 : Int) := of_decide_eq_true (by first | (with_reducible assumption) | assumption)
            have q249 : x19_2 < (y241.length : Int) := of_decide_eq_true (by first | (with_reducible assumption) | assumption)
            obtain ⟨ad249, A249_3, c249_3, A249_6, c249_6, e249, hx249_0, hx249_1, hx249_2, hx249_3, hx249_4, hx249_5, hx249_6, hl249_3, hi249_3, hl249_6, hi249_6⟩ := at_T70 HR244.out x19_2 p249 q249
            cases e249
            replace hx249_0 := (HB.out.cell (World.block_lt_of_cell? w _ hx249_0)).trans hx249_0
            replace hx249_1 := (HB.out.cell (World.block_lt_of_cell? w _ hx249_1)).trans hx249_1
            replace hx249_2 := (HB.out.cell (World.block_lt_of_cell? w _ hx249_2)).trans hx249_2
            replace hx249_3 := (HB.out.cell (World.block_lt_of_cell? w _ hx249_3)).trans hx249_3
            replace hx249_4 := (HB.out.cell (World.block_lt_of_cell? w _ hx249_4)).trans hx249_4
            replace hx249_5 := (HB.out.cell (World.block_lt_of_cell? w _ hx249_5)).trans hx249_5
            replace hx249_6 := (HB.out.cell (World.block_lt_of_cell? w _ hx249_6)).trans hx249_6
            have HR249_3 := Aside0.mk hi249_3
            have HC249_3 := Aside0.mk hl249_3
            clear hi249_3 hl249_3
            have HR249_6 := Aside0.mk hi249_6
            have HC249_6 := Aside0.mk hl249_6
            clear hi249_6 hl249_6
            replace p249 := eq_true p249
            replace q249 := eq_true q249
            go_wp2_with (first | ((with_reducible refine gate_dst (N := 4) rfl ?_); (try (refine gate_guard (by rfl) ?_; dsimp only)); refine box_event ?hg (N := 4) ?hd (cs := #[.int .i64 0, .int .i64 0, .string (⟨#[]⟩ : ByteArray), .slice none 0 0, .string (⟨#[]⟩ : ByteArray), .int .i64 0, .slice none 0 0]) (t := 70) ?hr ?_; (case hd => rfl); (case hg => rfl); (case hr => first | (go_simp; done) | (go_simp; rfl)); intro gb250 hg w30 hbox hb; have n0_ := Aside0.mk (below_step (by repeat (first | (with_reducible first | exact HB.out | apply below_alloc | apply pw_below_drewN | apply below_drew1) | exact HB.out)) hb); have n1_ := Aside0.mk (hbox); have n2_ := Aside0.mk ((by rw [hg]; exact (below_size (by repeat (first | (with_reducible first | exact HB.out | apply below_alloc | apply pw_below_drewN | apply below_drew1) | exact HB.out))) : w.heap.size ≤ gb250)); have n3_ := Aside0.mk ((by rw [hg]; exact (below_size (by repeat (first | (with_reducible first | exact HB.out | apply below_alloc | apply pw_below_drewN | apply below_drew1) | exact HB.out))) : w.heap.size ≤ gb250)); clear HB; have HB := n0_; have BK250 := n1_; have GW250 := n2_; have GE250 := n3_; clear n0_ n1_ n2_ n3_; clear hb hbox hg; have hcz31_0 : w30.cell? ⟨gb250, 0, none⟩ = some (.int .i64 0) := (blk_cell BK250.out 0).trans rfl; have hcz31_1 : w30.cell? ⟨gb250, 1, none⟩ = some (.int .i64 0) := (blk_cell BK250.out 1).trans rfl; have hcz31_2 : w30.cell? ⟨gb250, 2, none⟩ = some (.string (⟨#[]⟩ : ByteArray)) := (blk_cell BK250.out 2).trans rfl; have hcz31_3 : w30.cell? ⟨gb250, 3, none⟩ = some (.slice none 0 0) := (blk_cell BK250.out 3).trans rfl; have hcz31_4 : w30.cell? ⟨gb250, 4, none⟩ = some (.string (⟨#[]⟩ : ByteArray)) := (blk_cell BK250.out 4).trans rfl; have hcz31_5 : w30.cell? ⟨gb250, 5, none⟩ = some (.int .i64 0) := (blk_cell BK250.out 5).trans rfl; have hcz31_6 : w30.cell? ⟨gb250, 6, none⟩ = some (.slice none 0 0) := (blk_cell BK250.out 6).trans rfl; have hfz31_0 := blk_frozen BK250.out 0; have hfz31_1 := blk_frozen BK250.out 1; have hfz31_2 := blk_frozen BK250.out 2; have hfz31_3 := blk_frozen BK250.out 3; have hfz31_4 := blk_frozen BK250.out 4; have hfz31_5 := blk_frozen BK250.out 5; have hfz31_6 := blk_frozen BK250.out 6) | ((with_reducible refine gate_callee (f := 105) rfl ?_); refine goesL_ (some 24) rfl rfl Try.func105 (by kernel_rfl) rfl #[.agg #[.int .i64 ((rd_T70 y241 x19_2).f0), .int .i64 ((rd_T70 y241 x19_2).f1), .string ((rd_T70 y241 x19_2).f2), .slice A249_3 ((rd_T70 y241 x19_2).f3).length c249_3, .string ((rd_T70 y241 x19_2).f4), .int .i64 ((rd_T70 y241 x19_2).f5), .slice A249_6 ((rd_T70 y241 x19_2).f6).length c249_6]] rfl (by (try simp only [List.map_toArray, List.map_cons, List.map_nil]); first | done | rfl | (simp only [List.length_drop, List.length_take]; rfl)) ?_; (with_reducible refine (impl_itemOk.calls k2 ((rd_T70 y241 x19_2).f0) ((rd_T70 y241 x19_2).f1) ((rd_T70 y241 x19_2).f2) _ _ ((rd_T70 y241 x19_2).f3) ((rd_T70 y241 x19_2).f4) ((rd_T70 y241 x19_2).f5) _ _ ((rd_T70 y241 x19_2).f6) true _ ?side1 ?side2 ?side3 ?side4 A14.out).mono ?_); (case side1 => exact Kd.C_below HR249_3.out (by repeat (first | (with_reducible first | exact HB.out | apply below_alloc | apply pw_below_drewN | apply below_drew1 | refine below_set ?_ GE250.out) | exact HB.out))); (case side2 => exact HC249_3.out); (case side3 => exact Kd.C_below HR249_6.out (by repeat (first | (with_reducible first | exact HB.out | apply below_alloc | apply pw_below_drewN | apply below_drew1 | refine below_set ?_ GE250.out) | exact HB.out))); (case side4 => exact HC249_6.out); rintro e w32 ⟨rfl, hb⟩; refine ⟨_, rfl, ?_⟩; have n0_ := Aside0.mk (blk_below (g := gb250) (o := .cells #[.int .i64 ((rd_T70 y241 x19_2).f0), .int .i64 ((rd_T70 y241 x19_2).f1), .string ((rd_T70 y241 x19_2).f2), .slice A249_3 ((rd_T70 y241 x19_2).f3).length c249_3, .string ((rd_T70 y241 x19_2).f4), .int .i64 ((rd_T70 y241 x19_2).f5), .slice A249_6 ((rd_T70 y241 x19_2).f6).length c249_6] 70 (0, 0)) (by (with_reducible repeat (first | refine blk_drewN ?_ _ | refine blk_drew ?_ | refine blk_alloc ?_ _)); refine blk_put (cs := #[.int .i64 ((rd_T70 y241 x19_2).f0), .int .i64 ((rd_T70 y241 x19_2).f1), .string ((rd_T70 y241 x19_2).f2), .slice A249_3 ((rd_T70 y241 x19_2).f3).length c249_3, .string ((rd_T70 y241 x19_2).f4), .int .i64 ((rd_T70 y241 x19_2).f5), .slice none 0 0]) ?_ 6 _ rfl; (with_reducible repeat (first | refine blk_drewN ?_ _ | refine blk_drew ?_ | refine blk_alloc ?_ _)); refine blk_put (cs := #[.int .i64 ((rd_T70 y241 x19_2).f0), .int .i64 ((rd_T70 y241 x19_2).f1), .string ((rd_T70 y241 x19_2).f2), .slice A249_3 ((rd_T70 y241 x19_2).f3).length c249_3, .string ((rd_T70 y241 x19_2).f4), .int .i64 0, .slice none 0 0]) ?_ 5 _ rfl; (with_reducible repeat (first | refine blk_drewN ?_ _ | refine blk_drew ?_ | refine blk_alloc ?_ _)); refine blk_put (cs := #[.int .i64 ((rd_T70 y241 x19_2).f0), .int .i64 ((rd_T70 y241 x19_2).f1), .string ((rd_T70 y241 x19_2).f2), .slice A249_3 ((rd_T70 y241 x19_2).f3).length c249_3, .string (⟨#[]⟩ : ByteArray), .int .i64 0, .slice none 0 0]) ?_ 4 _ rfl; (with_reducible repeat (first | refine blk_drewN ?_ _ | refine blk_drew ?_ | refine blk_alloc ?_ _)); refine blk_put (cs := #[.int .i64 ((rd_T70 y241 x19_2).f0), .int .i64 ((rd_T70 y241 x19_2).f1), .string ((rd_T70 y241 x19_2).f2), .slice none 0 0, .string (⟨#[]⟩ : ByteArray), .int .i64 0, .slice none 0 0]) ?_ 3 _ rfl; (with_reducible repeat (first | refine blk_drewN ?_ _ | refine blk_drew ?_ | refine blk_alloc ?_ _)); refine blk_put (cs := #[.int .i64 ((rd_T70 y241 x19_2).f0), .int .i64 ((rd_T70 y241 x19_2).f1), .string (⟨#[]⟩ : ByteArray), .slice none 0 0, .string (⟨#[]⟩ : ByteArray), .int .i64 0, .slice none 0 0]) ?_ 2 _ rfl; (with_reducible repeat (first | refine blk_drewN ?_ _ | refine blk_drew ?_ | refine blk_alloc ?_ _)); refine blk_put (cs := #[.int .i64 ((rd_T70 y241 x19_2).f0), .int .i64 0, .string (⟨#[]⟩ : ByteArray), .slice none 0 0, .string (⟨#[]⟩ : ByteArray), .int .i64 0, .slice none 0 0]) ?_ 1 _ rfl; (with_reducible repeat (first | refine blk_drewN ?_ _ | refine blk_drew ?_ | refine blk_alloc ?_ _)); refine blk_put (cs := #[.int .i64 0, .int .i64 0, .string (⟨#[]⟩ : ByteArray), .slice none 0 0, .string (⟨#[]⟩ : ByteArray), .int .i64 0, .slice none 0 0]) ?_ 0 _ rfl; (with_reducible repeat (first | refine blk_drewN ?_ _ | refine blk_drew ?_ | refine blk_alloc ?_ _)); exact BK250.out) hb); have n1_ := Aside0.mk (below_step (by repeat (first | (with_reducible first | exact HB.out | apply below_alloc | apply pw_below_drewN | apply below_drew1 | refine below_set ?_ GE250.out) | exact HB.out)) hb); clear BK250; clear HB; have BK250 := n0_; have HB := n1_; clear n0_ n1_; (try clear hb); (try clear hb2); (try clear hk); (try clear hi); have hcz33_0 : w32.cell? ⟨gb250, 0, none⟩ = some (.int .i64 ((rd_T70 y241 x19_2).f0)) := (blk_cell BK250.out 0).trans rfl; have hcz33_1 : w32.cell? ⟨gb250, 1, none⟩ = some (.int .i64 ((rd_T70 y241 x19_2).f1)) := (blk_cell BK250.out 1).trans rfl; have hcz33_2 : w32.cell? ⟨gb250, 2, none⟩ = some (.string ((rd_T70 y241 x19_2).f2)) := (blk_cell BK250.out 2).trans rfl; have hcz33_3 : w32.cell? ⟨gb250, 3, none⟩ = some (.slice A249_3 ((rd_T70 y241 x19_2).f3).length c249_3) := (blk_cell BK250.out 3).trans rfl; have hcz33_4 : w32.cell? ⟨gb250, 4, none⟩ = some (.string ((rd_T70 y241 x19_2).f4)) := (blk_cell BK250.out 4).trans rfl; have hcz33_5 : w32.cell? ⟨gb250, 5, none⟩ = some (.int .i64 ((rd_T70 y241 x19_2).f5)) := (blk_cell BK250.out 5).trans rfl; have hcz33_6 : w32.cell? ⟨gb250, 6, none⟩ = some (.slice A249_6 ((rd_T70 y241 x19_2).f6).length c249_6) := (blk_cell BK250.out 6).trans rfl; have hfz33_0 := blk_frozen BK250.out 0; have hfz33_1 := blk_frozen BK250.out 1; have hfz33_2 := blk_frozen BK250.out 2; have hfz33_3 := blk_frozen BK250.out 3; have hfz33_4 := blk_frozen BK250.out 4; have hfz33_5 := blk_frozen BK250.out 5; have hfz33_6 := blk_frozen BK250.out 6) | (go_at_call 67; (with_reducible refine (impl_inRange.calls ((rd_T70 y241 x19_2).f5) 0 (wrap64 ((l0.length : Int) - 1)) false _ A16.out).mono ?_); rintro e w' ⟨rfl, ⟨nd, rfl⟩⟩))
            go_ret
            exact ⟨by first | rfl | (simp [errW_none, errW_some] <;> rfl) | (simp [*, errW_none, errW_some] <;> rfl), by repeat (first | (with_reducible first | exact HB.out | apply below_alloc | apply pw_below_drewN | apply below_drew1 | refine below_set ?_ GE250.out) | exact HB.out)⟩
          ·replace c15 := Bool.eq_false_iff.mpr c15
           subst c15
           have H1 : (some false) = some r := by rw [if_neg (show ¬ (false = true) by decide)] at H; exact H
           clear H
           have H := H1
           clear H1
           obtain rfl := Option.some.inj H
           have p249 : 0 ≤ (x19_2 : Int) := of_decide_eq_true (by first | (with_reducible assumption) | assumption)
           have q249 : x19_2 < (y241.length : Int) := of_decide_eq_true (by first | (with_reducible assumption) | assumption)
           obtain ⟨ad249, A249_3, c249_3, A249_6, c249_6, e249, hx249_0, hx249_1, hx249_2, hx249_3, hx249_4, hx249_5, hx249_6, hl249_3, hi249_3, hl249_6, hi249_6⟩ := at_T70 HR244.out x19_2 p249 q249
           cases e249
           replace hx249_0 := (HB.out.cell (World.block_lt_of_cell? w _ hx249_0)).trans hx249_0
           replace hx249_1 := (HB.out.cell (World.block_lt_of_cell? w _ hx249_1)).trans hx249_1
           replace hx249_2 := (HB.out.cell (World.block_lt_of_cell? w _ hx249_2)).trans hx249_2
           replace hx249_3 := (HB.out.cell (World.block_lt_of_cell? w _ hx249_3)).trans hx249_3
           replace hx249_4 := (HB.out.cell (World.block_lt_of_cell? w _ hx249_4)).trans hx249_4
           replace hx249_5 := (HB.out.cell (World.block_lt_of_cell? w _ hx249_5)).trans hx249_5
           replace hx249_6 := (HB.out.cell (World.block_lt_of_cell? w _ hx249_6)).trans hx249_6
           have HR249_3 := Aside0.mk hi249_3
           have HC249_3 := Aside0.mk hl249_3
           clear hi249_3 hl249_3
           have HR249_6 := Aside0.mk hi249_6
           have HC249_6 := Aside0.mk hl249_6
           clear hi249_6 hl249_6
           replace p249 := eq_true p249
           replace q249 := eq_true q249
           go_wp2_with (first | ((with_reducible refine gate_dst (N := 4) rfl ?_); (try (refine gate_guard (by rfl) ?_; dsimp only)); refine box_event ?hg (N := 4) ?hd (cs := #[.int .i64 0, .int .i64 0, .string (⟨#[]⟩ : ByteArray), .slice none 0 0, .string (⟨#[]⟩ : ByteArray), .int .i64 0, .slice none 0 0]) (t := 70) ?hr ?_; (case hd => rfl); (case hg => rfl); (case hr => first | (go_simp; done) | (go_simp; rfl)); intro gb250 hg w34 hbox hb; have n0_ := Aside0.mk (below_step (by repeat (first | (with_reducible first | exact HB.out | apply below_alloc | apply pw_below_drewN | apply below_drew1) | exact HB.out)) hb); have n1_ := Aside0.mk (hbox); have n2_ := Aside0.mk ((by rw [hg]; exact (below_size (by repeat (first | (with_reducible first | exact HB.out | apply below_alloc | apply pw_below_drewN | apply below_drew1) | exact HB.out))) : w.heap.size ≤ gb250)); have n3_ := Aside0.mk ((by rw [hg]; exact (below_size (by repeat (first | (with_reducible first | exact HB.out | apply below_alloc | apply pw_below_drewN | apply below_drew1) | exact HB.out))) : w.heap.size ≤ gb250)); clear HB; have HB := n0_; have BK250 := n1_; have GW250 := n2_; have GE250 := n3_; clear n0_ n1_ n2_ n3_; clear hb hbox hg; have hcz35_0 : w34.cell? ⟨gb250, 0, none⟩ = some (.int .i64 0) := (blk_cell BK250.out 0).trans rfl; have hcz35_1 : w34.cell? ⟨gb250, 1, none⟩ = some (.int .i64 0) := (blk_cell BK250.out 1).trans rfl; have hcz35_2 : w34.cell? ⟨gb250, 2, none⟩ = some (.string (⟨#[]⟩ : ByteArray)) := (blk_cell BK250.out 2).trans rfl; have hcz35_3 : w34.cell? ⟨gb250, 3, none⟩ = some (.slice none 0 0) := (blk_cell BK250.out 3).trans rfl; have hcz35_4 : w34.cell? ⟨gb250, 4, none⟩ = some (.string (⟨#[]⟩ : ByteArray)) := (blk_cell BK250.out 4).trans rfl; have hcz35_5 : w34.cell? ⟨gb250, 5, none⟩ = some (.int .i64 0) := (blk_cell BK250.out 5).trans rfl; have hcz35_6 : w34.cell? ⟨gb250, 6, none⟩ = some (.slice none 0 0) := (blk_cell BK250.out 6).trans rfl; have hfz35_0 := blk_frozen BK250.out 0; have hfz35_1 := blk_frozen BK250.out 1; have hfz35_2 := blk_frozen BK250.out 2; have hfz35_3 := blk_frozen BK250.out 3; have hfz35_4 := blk_frozen BK250.out 4; have hfz35_5 := blk_frozen BK250.out 5; have hfz35_6 := blk_frozen BK250.out 6) | ((with_reducible refine gate_callee (f := 105) rfl ?_); refine goesL_ (some 24) rfl rfl Try.func105 (by kernel_rfl) rfl #[.agg #[.int .i64 ((rd_T70 y241 x19_2).f0), .int .i64 ((rd_T70 y241 x19_2).f1), .string ((rd_T70 y241 x19_2).f2), .slice A249_3 ((rd_T70 y241 x19_2).f3).length c249_3, .string ((rd_T70 y241 x19_2).f4), .int .i64 ((rd_T70 y241 x19_2).f5), .slice A249_6 ((rd_T70 y241 x19_2).f6).length c249_6]] rfl (by (try simp only [List.map_toArray, List.map_cons, List.map_nil]); first | done | rfl | (simp only [List.length_drop, List.length_take]; rfl)) ?_; (with_reducible refine (impl_itemOk.calls k2 ((rd_T70 y241 x19_2).f0) ((rd_T70 y241 x19_2).f1) ((rd_T70 y241 x19_2).f2) _ _ ((rd_T70 y241 x19_2).f3) ((rd_T70 y241 x19_2).f4) ((rd_T70 y241 x19_2).f5) _ _ ((rd_T70 y241 x19_2).f6) false _ ?side1 ?side2 ?side3 ?side4 A14.out).mono ?_); (case side1 => exact Kd.C_below HR249_3.out (by repeat (first | (with_reducible first | exact HB.out | apply below_alloc | apply pw_below_drewN | apply below_drew1 | refine below_set ?_ GE250.out) | exact HB.out))); (case side2 => exact HC249_3.out); (case side3 => exact Kd.C_below HR249_6.out (by repeat (first | (with_reducible first | exact HB.out | apply below_alloc | apply pw_below_drewN | apply below_drew1 | refine below_set ?_ GE250.out) | exact HB.out))); (case side4 => exact HC249_6.out); rintro e w36 ⟨rfl, hb⟩; refine ⟨_, rfl, ?_⟩; have n0_ := Aside0.mk (blk_below (g := gb250) (o := .cells #[.int .i64 ((rd_T70 y241 x19_2).f0), .int .i64 ((rd_T70 y241 x19_2).f1), .string ((rd_T70 y241 x19_2).f2), .slice A249_3 ((rd_T70 y241 x19_2).f3).length c249_3, .string ((rd_T70 y241 x19_2).f4), .int .i64 ((rd_T70 y241 x19_2).f5), .slice A249_6 ((rd_T70 y241 x19_2).f6).length c249_6] 70 (0, 0)) (by (with_reducible repeat (first | refine blk_drewN ?_ _ | refine blk_drew ?_ | refine blk_alloc ?_ _)); refine blk_put (cs := #[.int .i64 ((rd_T70 y241 x19_2).f0), .int .i64 ((rd_T70 y241 x19_2).f1), .string ((rd_T70 y241 x19_2).f2), .slice A249_3 ((rd_T70 y241 x19_2).f3).length c249_3, .string ((rd_T70 y241 x19_2).f4), .int .i64 ((rd_T70 y241 x19_2).f5), .slice none 0 0]) ?_ 6 _ rfl; (with_reducible repeat (first | refine blk_drewN ?_ _ | refine blk_drew ?_ | refine blk_alloc ?_ _)); refine blk_put (cs := #[.int .i64 ((rd_T70 y241 x19_2).f0), .int .i64 ((rd_T70 y241 x19_2).f1), .string ((rd_T70 y241 x19_2).f2), .slice A249_3 ((rd_T70 y241 x19_2).f3).length c249_3, .string ((rd_T70 y241 x19_2).f4), .int .i64 0, .slice none 0 0]) ?_ 5 _ rfl; (with_reducible repeat (first | refine blk_drewN ?_ _ | refine blk_drew ?_ | refine blk_alloc ?_ _)); refine blk_put (cs := #[.int .i64 ((rd_T70 y241 x19_2).f0), .int .i64 ((rd_T70 y241 x19_2).f1), .string ((rd_T70 y241 x19_2).f2), .slice A249_3 ((rd_T70 y241 x19_2).f3).length c249_3, .string (⟨#[]⟩ : ByteArray), .int .i64 0, .slice none 0 0]) ?_ 4 _ rfl; (with_reducible repeat (first | refine blk_drewN ?_ _ | refine blk_drew ?_ | refine blk_alloc ?_ _)); refine blk_put (cs := #[.int .i64 ((rd_T70 y241 x19_2).f0), .int .i64 ((rd_T70 y241 x19_2).f1), .string ((rd_T70 y241 x19_2).f2), .slice none 0 0, .string (⟨#[]⟩ : ByteArray), .int .i64 0, .slice none 0 0]) ?_ 3 _ rfl; (with_reducible repeat (first | refine blk_drewN ?_ _ | refine blk_drew ?_ | refine blk_alloc ?_ _)); refine blk_put (cs := #[.int .i64 ((rd_T70 y241 x19_2).f0), .int .i64 ((rd_T70 y241 x19_2).f1), .string (⟨#[]⟩ : ByteArray), .slice none 0 0, .string (⟨#[]⟩ : ByteArray), .int .i64 0, .slice none 0 0]) ?_ 2 _ rfl; (with_reducible repeat (first | refine blk_drewN ?_ _ | refine blk_drew ?_ | refine blk_alloc ?_ _)); refine blk_put (cs := #[.int .i64 ((rd_T70 y241 x19_2).f0), .int .i64 0, .string (⟨#[]⟩ : ByteArray), .slice none 0 0, .string (⟨#[]⟩ : ByteArray), .int .i64 0, .slice none 0 0]) ?_ 1 _ rfl; (with_reducible repeat (first | refine blk_drewN ?_ _ | refine blk_drew ?_ | refine blk_alloc ?_ _)); refine blk_put (cs := #[.int .i64 0, .int .i64 0, .string (⟨#[]⟩ : ByteArray), .slice none 0 0, .string (⟨#[]⟩ : ByteArray), .int .i64 0, .slice none 0 0]) ?_ 0 _ rfl; (with_reducible repeat (first | refine blk_drewN ?_ _ | refine blk_drew ?_ | refine blk_alloc ?_ _)); exact BK250.out) hb); have n1_ := Aside0.mk (below_step (by repeat (first | (with_reducible first | exact HB.out | apply below_alloc | apply pw_below_drewN | apply below_drew1 | refine below_set ?_ GE250.out) | exact HB.out)) hb); clear BK250; clear HB; have BK250 := n0_; have HB := n1_; clear n0_ n1_; (try clear hb); (try clear hb2); (try clear hk); (try clear hi)))
           go_ret
           exact ⟨by first | rfl | (simp [errW_none, errW_some] <;> rfl) | (simp [*, errW_none, errW_some] <;> rfl), by repeat (first | (with_reducible first | exact HB.out | apply below_alloc | apply pw_below_drewN | apply below_drew1 | refine below_set ?_ GE250.out) | exact HB.out)⟩
         ·rw [if_neg c13] at H
          exact absurd H (by simp)
        ·rw [if_neg c12] at H
         exact absurd H (by simp)
       ·rw [if_neg c11] at H
        have c11b0 := decide_eq_false c11
        clear c11
        replace H := Option.bind_eq_some_iff.mp H
        obtain ⟨t245, A370, H⟩ := H
        replace H : (if t245 = true then ((impl_order.f k2 l0).bind fun t246 => (some ((t246.length : Int) == (l0.length : Int)))) else (some false)) = some r := H
        have A37 := Aside0.mk A370
        clear A370
        by_cases c38 : t245 = true
        ·subst c38
         have H1 : ((impl_order.f k2 l0).bind fun t246 => (some ((t246.length : Int) == (l0.length : Int)))) = some r := by rw [if_pos rfl] at H; exact H
         clear H
         have H := H1
         clear H1
         replace H := Option.bind_eq_some_iff.mp H
         obtain ⟨t246, A390, H⟩ := H
         replace H : (some ((t246.length : Int) == (l0.length : Int))) = some r := H
         have A39 := Aside0.mk A390
         clear A390
         obtain rfl := Option.some.inj H
         go_wp2_with (first | ((with_reducible refine gate_callee (f := 107) rfl ?_); refine goesL_ (some 47) rfl rfl Try.func107 (by kernel_rfl) rfl #[.slice A0 l0.length c0] rfl (by (try simp only [List.map_toArray, List.map_cons, List.map_nil]); first | done | rfl | (simp only [List.length_drop, List.length_take]; rfl)) ?_; (with_reducible refine (impl_kidsOk.calls k2 _ _ l0 true _ ?side1 ?side2 A37.out).mono ?_); (case side1 => repeat (first | exact (Kd.C_below HR0.out HB.out) | (with_reducible refine Kd.C_alloc ?_ _) | (with_reducible refine Kd.C_drewN ?_ _) | (with_reducible refine Kd.C_drew ?_))); (case side2 => exact HC0.out); rintro e w40 ⟨rfl, hb⟩; refine ⟨_, rfl, ?_⟩; have n0_ := Aside0.mk (below_step (by repeat (first | (with_reducible first | exact HB.out | apply below_alloc | apply pw_below_drewN | apply below_drew1) | exact HB.out)) hb); clear HB; have HB := n0_; clear n0_; (try clear hb); (try clear hb2); (try clear hk); (try clear hi)) | (go_at_call 108; (with_reducible refine (impl_order.calls k2 _ _ l0 t246 _ ?side1 ?side2 A39.out).mono ?_); (case side1 => repeat (first | exact (Kd.C_below HR0.out HB.out) | (with_reducible refine Kd.C_alloc ?_ _) | (with_reducible refine Kd.C_drewN ?_ _) | (with_reducible refine Kd.C_drew ?_))); (case side2 => exact HC0.out); rintro e w41 ⟨v247, rfl, ho0, hb⟩; have n0_ := Aside0.mk (Kd.R_lower ho0 (below_size (by repeat (first | (with_reducible first | exact HB.out | apply below_alloc | apply pw_below_drewN | apply below_drew1) | exact HB.out)))); have n1_ := Aside0.mk (below_step (by repeat (first | (with_reducible first | exact HB.out | apply below_alloc | apply pw_below_drewN | apply below_drew1) | exact HB.out)) hb); clear HB; have HO248 := n0_; have HB := n1_; clear n0_ n1_; (try clear hb); (try clear hb2); (try clear hk); (try clear hi); (try clear ho0); obtain ⟨Ao42, co42, eo42⟩ := Kd.R_slice HO248.out; subst eo42))
         go_ret
         exact ⟨by first | rfl | (simp [errW_none, errW_some] <;> rfl) | (simp [*, errW_none, errW_some] <;> rfl), by repeat (first | (with_reducible first | exact HB.out | apply below_alloc | apply pw_below_drewN | apply below_drew1) | exact HB.out)⟩
        ·replace c38 := Bool.eq_false_iff.mpr c38
         subst c38
         have H1 : (some false) = some r := by rw [if_neg (show ¬ (false = true) by decide)] at H; exact H
         clear H
         have H := H1
         clear H1
         obtain rfl := Option.some.inj H
         go_wp2_with (first | ((with_reducible refine gate_callee (f := 107) rfl ?_); refine goesL_ (some 47) rfl rfl Try.func107 (by kernel_rfl) rfl #[.slice A0 l0.length c0] rfl (by (try simp only [List.map_toArray, List.map_cons, List.map_nil]); first | done | rfl | (simp only [List.length_drop, List.length_take]; rfl)) ?_; (with_reducible refine (impl_kidsOk.calls k2 _ _ l0 false _ ?side1 ?side2 A37.out).mono ?_); (case side1 => repeat (first | exact (Kd.C_below HR0.out HB.out) | (with_reducible refine Kd.C_alloc ?_ _) | (with_reducible refine Kd.C_drewN ?_ _) | (with_reducible refine Kd.C_drew ?_))); (case side2 => exact HC0.out); rintro e w43 ⟨rfl, hb⟩; refine ⟨_, rfl, ?_⟩; have n0_ := Aside0.mk (below_step (by repeat (first | (with_reducible first | exact HB.out | apply below_alloc | apply pw_below_drewN | apply below_drew1) | exact HB.out)) hb); clear HB; have HB := n0_; clear n0_; (try clear hb); (try clear hb2); (try clear hk); (try clear hi)))
         go_ret
         exact ⟨by first | rfl | (simp [errW_none, errW_some] <;> rfl) | (simp [*, errW_none, errW_some] <;> rfl), by repeat (first | (with_reducible first | exact HB.out | apply below_alloc | apply pw_below_drewN | apply below_drew1) | exact HB.out)⟩
    ·rw [if_neg c9] at H
     exact absurd H (by simp)

/-! ### impl_depths: function 63 -/
def impl_depths.l0 : Nat → List (S70) → List Int → List Int → Int → Int → Option (List Int)
 | 0, _, _, _, _, _ => none
 | k + 1, x0, x3, x10, x11, x12 => if x12 < x11 then (if 0 ≤ x12 then (if x12 < (x10.length : Int) then (if 0 ≤ (rd x10 x12) then (if (rd x10 x12) < (x3.length : Int) then ((some (x3.set ((rd x10 x12) : Int).toNat 1 : List Int)).bind fun y262 => (if (rd x10 x12) > 0 then (if (rd x10 x12) < (x0.length : Int) then (if 0 ≤ ((rd_T70 x0 (rd x10 x12)).f5) then (if ((rd_T70 x0 (rd x10 x12)).f5) < (x3.length : Int) then (impl_depths.l0 k x0 (y262.set ((rd x10 x12) : Int).toNat (wrap64 ((rd y262 ((rd_T70 x0 (rd x10 x12)).f5)) + 1))) x10 x11 (wrap64 (x12 + 1))) else (none)) else (none)) else (none)) else (impl_depths.l0 k x0 y262 x10 x11 (wrap64 (x12 + 1))))) else (none)) else (none)) else (none)) else (none)) else (some x3)
def impl_depths.f (k : Nat) (l0 : List (S70)) : Option (List Int) := if 0 ≤ (l0.length : Int) then (if ((l0.length : Int) : Int).toNat ≤ 35184372088832 then ((impl_order.f k l0).bind fun t258 => (impl_depths.l0 k l0 (List.replicate ((l0.length : Int) : Int).toNat 0) t258 (t258.length : Int) 0)) else (none)) else (none)
theorem impl_depths.mono_l : ∀ k, (∀ y0 y1 y2 y3 y4, LeO (impl_depths.l0 k y0 y1 y2 y3 y4) (impl_depths.l0 (k + 1) y0 y1 y2 y3 y4))
 | 0 => fun _ _ _ _ _ r h => by simp [impl_depths.l0] at h
 | k + 1 => by
  have ih0 := impl_depths.mono_l k
  ·intro y0 y1 y2 y3 y4
   unfold impl_depths.l0
   repeat' first
   | (with_reducible exact ih0 _ _ _ _ _)
   | (with_reducible exact impl_order.mono _ _)
   | (with_reducible exact LeO.refl _)
   | (with_reducible exact LeO.none _)
   | (with_reducible refine LeO.ite ?_ ?_)
   | (with_reducible refine LeO.bind ?_ (fun _ => ?_))
   | exact ih0 _ _ _ _ _
   | exact impl_order.mono _ _
   | exact LeO.none _
   | refine LeO.ite ?_ ?_
   | refine LeO.bind ?_ (fun _ => ?_)
theorem impl_depths.mono : ∀ a0 k, LeO (impl_depths.f k a0) (impl_depths.f (k + 1) a0) := by
 intro a0 k
 have ih0 := impl_depths.mono_l k
 unfold impl_depths.f
 repeat' first
   | (with_reducible exact ih0 _ _ _ _ _)
   | (with_reducible exact impl_order.mono _ _)
   | (with_reducible exact LeO.refl _)
   | (with_reducible exact LeO.none _)
   | (with_reducible refine LeO.ite ?_ ?_)
   | (with_reducible refine LeO.bind ?_ (fun _ => ?_))
   | exact ih0 _ _ _ _ _
   | exact impl_order.mono _ _
   | exact LeO.none _
   | refine LeO.ite ?_ ?_
   | refine LeO.bind ?_ (fun _ => ?_)
set_option maxHeartbeats 8000000 in
set_option maxRecDepth 100000 in
theorem impl_depths.calls (k : Nat) (A0 : Option Addr) (c0 : Nat) (l0 : List (S70)) (r : List Int) (w : World) (hr0 : Kd.C k70 w A0 l0.length l0) (hc0 : l0.length ≤ c0) (h : impl_depths.f k l0 = some r) :
  Calls Try.prog 63 #[.slice A0 l0.length c0] w fun e w' => ∃ v0_ : Value, e = .returned (v0_) ∧ Kd.R (Kd.int .i64) 3 w' w.heap.size (fun _ => True) v0_ r ∧ Below w.heap.size w w' := by
 have HR0 := Aside0.mk hr0
 have HC0 := Aside0.mk hc0
 clear hr0 hc0
 have HB := Aside0.mk (Below.refl w.heap.size w)
 have H : (if 0 ≤ (l0.length : Int) then (if ((l0.length : Int) : Int).toNat ≤ 35184372088832 then ((impl_order.f k l0).bind fun t258 => (impl_depths.l0 k l0 (List.replicate ((l0.length : Int) : Int).toNat 0) t258 (t258.length : Int) 0)) else (none)) else (none)) = some r := h
 clear h
 by_cases c2 : 0 ≤ (l0.length : Int)
 ·rw [if_pos c2] at H
  have c2b0 := eq_true c2
  have c2b1 := decide_eq_true c2
  clear c2
  by_cases c3 : ((l0.length : Int) : Int).toNat ≤ 35184372088832
  ·rw [if_pos c3] at H
   have c3b0 := eq_true c3
   have c3b1 := decide_eq_true c3
   clear c3
   obtain ⟨y255, hy255⟩ : ∃ y_ : List Int, y_ = (List.replicate ((l0.length : Int) : Int).toNat 0) := ⟨_, rfl⟩
   replace H : ((impl_order.f k l0).bind fun t258 => (impl_depths.l0 k l0 y255 t258 (t258.length : Int) 0)) = some r := by first | (rw [hy255]; with_reducible exact H) | (have H2_ := (Option.bind_some _ _).symm.trans H; rw [hy255]; with_reducible exact H2_) | (have H2_ := (Option.bind_some _ _).symm.trans H; with_reducible exact H2_) | with_reducible exact H | (rw [hy255]; exact H) | exact H
   have Ny255 := Aside0.mk hy255
   clear hy255
   replace H := Option.bind_eq_some_iff.mp H
   obtain ⟨t258, A40, H⟩ := H
   replace H : (impl_depths.l0 k l0 y255 t258 (t258.length : Int) 0) = some r := H
   have A4 := Aside0.mk A40
   clear A40
   have H' := Aside0.mk H
   clear H
   go_enter Try.func63, Try.ntmps63
   go_wp2_with (first | ((with_reducible refine gate_dst (N := 8) rfl ?_); refine Kd.R_make (Kd.int .i64) _ 3 rfl (N := 8) rfl 36 _ _ rfl (l0.length : Int) rfl rfl Try.underlying36 (.int .i64 0) 8 info3 rfl (by decide) (by omega) 0 (ok := fun _ => True) (okp := fun _ => True) rfl (fun _ hk => hk) trivial (of_decide_eq_true (by first | (with_reducible assumption) | assumption)) (Nat.le_trans (Nat.mul_le_mul_right _ (of_decide_eq_true (by first | (with_reducible assumption) | assumption) : (l0.length : Int).toNat ≤ 35184372088832)) (by omega)) (Below.refl _ _) (Nat.le_refl _) ?_; intro v256 w5 ho6 hb hg_ hnew_; clear hg_ hnew_; (first | rw [← Ny255.out] at ho6 | (simp only [Int.reduceToNat] at ho6; rw [← Ny255.out] at ho6)); have n0_ := Aside0.mk (Kd.R_lower ho6 (below_size (by repeat (first | (with_reducible first | exact HB.out | apply below_alloc | apply pw_below_drewN | apply below_drew1) | exact HB.out)))); have n1_ := Aside0.mk (below_step (by repeat (first | (with_reducible first | exact HB.out | apply below_alloc | apply pw_below_drewN | apply below_drew1) | exact HB.out)) hb); clear HB; have HO257 := n0_; have HB := n1_; clear n0_ n1_; clear hb ho6) | ((with_reducible refine gate_callee (f := 108) rfl ?_); refine goesL_ (some 10) rfl rfl Try.func108 (by kernel_rfl) rfl #[.slice A0 l0.length c0] rfl (by (try simp only [List.map_toArray, List.map_cons, List.map_nil]); first | done | rfl | (simp only [List.length_drop, List.length_take]; rfl)) ?_; (with_reducible refine (impl_order.calls k _ _ l0 t258 _ ?side1 ?side2 A4.out).mono ?_); (case side1 => repeat (first | exact (Kd.C_below HR0.out HB.out) | (with_reducible refine Kd.C_alloc ?_ _) | (with_reducible refine Kd.C_drewN ?_ _) | (with_reducible refine Kd.C_drew ?_))); (case side2 => exact HC0.out); rintro e w7 ⟨v259, rfl, ho0, hb⟩; refine ⟨_, rfl, ?_⟩; have n0_ := Aside0.mk (Kd.R_elder' (by (with_reducible repeat (first | apply Kd.R_alloc | apply Kd.R_drewN | apply Kd.R_drew)); exact HO257.out) (Kd.R_base ho0) hb); have n1_ := Aside0.mk (Kd.R_lower (Kd.R_new' ho0 (Kd.R_lt (by (with_reducible repeat (first | apply Kd.R_alloc | apply Kd.R_drewN | apply Kd.R_drew)); exact HO257.out))) (below_size (by repeat (first | (with_reducible first | exact HB.out | apply below_alloc | apply pw_below_drewN | apply below_drew1) | exact HB.out)))); have n2_ := Aside0.mk (below_step (by repeat (first | (with_reducible first | exact HB.out | apply below_alloc | apply pw_below_drewN | apply below_drew1) | exact HB.out)) hb); clear HO257; clear HB; have HO257 := n0_; have HO260 := n1_; have HB := n2_; clear n0_ n1_ n2_; (try clear hb); (try clear hb2); (try clear hk); (try clear hi); (try clear ho0); obtain ⟨Ao8, co8, eo8⟩ := Kd.R_slice HO260.out; subst eo8))
   go_loopg [12] k (fun kq v12 w' => ∃ (x3_1 : List Int) (x12_1 : Int), v12 = .int .i64 x12_1 ∧ Aside0 (impl_depths.l0 kq l0 x3_1 t258 (t258.length : Int) x12_1 = some r) ∧ Aside0 (kq ≤ k) ∧ Aside0 (Kd.R (Kd.int .i64) 3 w' w.heap.size (fun k_ => some k_ ≠ ((.slice Ao8 t258.length co8) : Value).ownBlock) v256 x3_1) ∧ Aside0 (Kd.R (Kd.int .i64) 3 w' w.heap.size (fun k_ => some k_ ≠ (v256 : Value).ownBlock) (.slice Ao8 t258.length co8) t258) ∧ Aside0 (Below w.heap.size w w'))
   case atStart => exact ⟨(y255), (0), (by first | rfl | (simp; done) | (simp [*]; done)), H', ⟨Nat.le_refl _⟩, ⟨by (with_reducible repeat (first | apply Kd.R_alloc | apply Kd.R_drewN | apply Kd.R_drew)); exact Kd.R_mono HO257.out (fun _ hk => hk.2)⟩, ⟨by (with_reducible repeat (first | apply Kd.R_alloc | apply Kd.R_drewN | apply Kd.R_drew)); exact Kd.R_mono HO260.out (fun _ hk => hk.2)⟩, ⟨by repeat (first | (with_reducible first | exact HB.out | apply below_alloc | apply pw_below_drewN | apply below_drew1) | exact HB.out)⟩⟩
   case round =>
    clear H'
    try clear c1
    try clear c2
    try clear c2b0
    try clear c2b1
    try clear p2
    try clear c3
    try clear c3b0
    try clear c3b1
    try clear c6
    obtain ⟨x3_1, x12_1, rfl, HA, HK1, HO_3, HO_10, HB⟩ := hrel
    cases gk with
    | zero => exact absurd HA.out (by simp [impl_depths.l0])
    | succ k1 =>
     have H := HA.out
     clear HA
     simp only [impl_depths.l0] at H
     by_cases c9 : x12_1 < (t258.length : Int)
     ·rw [if_pos c9] at H
      have c9b0 := decide_eq_true c9
      clear c9
      by_cases c10 : 0 ≤ x12_1
      ·rw [if_pos c10] at H
       have c10b0 := decide_eq_true c10
       clear c10
       by_cases c11 : x12_1 < (t258.length : Int)
       ·rw [if_pos c11] at H
        have c11b0 := decide_eq_true c11
        clear c11
        by_cases c12 : 0 ≤ (rd t258 x12_1)
        ·rw [if_pos c12] at H
         have c12b0 := decide_eq_true c12
         clear c12
         by_cases c13 : (rd t258 x12_1) < (x3_1.length : Int)
         ·rw [if_pos c13] at H
          have c13b0 := decide_eq_true c13
          clear c13
          obtain ⟨y262, hy262⟩ : ∃ y_ : List Int, y_ = (x3_1.set ((rd t258 x12_1) : Int).toNat 1) := ⟨_, rfl⟩
          replace H : (if (rd t258 x12_1) > 0 then (if (rd t258 x12_1) < (l0.length : Int) then (if 0 ≤ ((rd_T70 l0 (rd t258 x12_1)).f5) then (if ((rd_T70 l0 (rd t258 x12_1)).f5) < (x3_1.length : Int) then (impl_depths.l0 k1 l0 (y262.set ((rd t258 x12_1) : Int).toNat (wrap64 ((rd y262 ((rd_T70 l0 (rd t258 x12_1)).f5)) + 1))) t258 (t258.length : Int) (wrap64 (x12_1 + 1))) else (none)) else (none)) else (none)) else (impl_depths.l0 k1 l0 y262 t258 (t258.length : Int) (wrap64 (x12_1 + 1)))) = some r := by first | (rw [hy262]; with_reducible exact H) | (have H2_ := (Option.bind_some _ _).symm.trans H; rw [hy262]; with_reducible exact H2_) | (have H2_ := (Option.bind_some _ _).symm.trans H; with_reducible exact H2_) | with_reducible exact H | (rw [hy262]; exact H) | exact H
          have Ny262 := Aside0.mk hy262
          clear hy262
          by_cases c15 : (rd t258 x12_1) > 0
          ·rw [if_pos c15] at H
           have c15b0 : decide (0 < (rd t258 x12_1)) = true := decide_eq_true c15
           clear c15
           by_cases c16 : (rd t258 x12_1) < (l0.length : Int)
           ·rw [if_pos c16] at H
            have c16b0 := decide_eq_true c16
            clear c16
            by_cases c17 : 0 ≤ ((rd_T70 l0 (rd t258 x12_1)).f5)
            ·rw [if_pos c17] at H
             have c17b0 := decide_eq_true c17
             clear c17
             by_cases c18 : ((rd_T70 l0 (rd t258 x12_1)).f5) < (x3_1.length : Int)
             ·rw [if_pos c18] at H
              have c18b0 := decide_eq_true c18
              clear c18
              obtain ⟨y265, hy265⟩ : ∃ y_ : List Int, y_ = (y262.set ((rd t258 x12_1) : Int).toNat (wrap64 ((rd y262 ((rd_T70 l0 (rd t258 x12_1)).f5)) + 1))) := ⟨_, rfl⟩
              replace H : (impl_depths.l0 k1 l0 y265 t258 (t258.length : Int) (wrap64 (x12_1 + 1))) = some r := by first | (rw [hy265]; with_reducible exact H) | (have H2_ := (Option.bind_some _ _).symm.trans H; rw [hy265]; with_reducible exact H2_) | (have H2_ := (Option.bind_some _ _).symm.trans H; with_reducible exact H2_) | with_reducible exact H | (rw [hy265]; exact H) | exact H
              have Ny265 := Aside0.mk hy265
              clear hy265
              have H' := Aside0.mk H
              clear H
              have p261 : 0 ≤ (x12_1 : Int) := of_decide_eq_true (by first | (with_reducible assumption) | assumption)
              have q261 : x12_1 < (t258.length : Int) := of_decide_eq_true (by first | (with_reducible assumption) | assumption)
              obtain ⟨ad261, e261, hx261_0⟩ := Kd.at_int (Kd.R_reads' HO_10.out).2.2 x12_1 p261 q261
              cases e261
              replace p261 := eq_true p261
              replace q261 := eq_true q261
              have p14 : 0 ≤ ((rd t258 x12_1) : Int) := of_decide_eq_true (by first | (with_reducible assumption) | assumption)
              have q14 : ((rd t258 x12_1) : Int) < ((x3_1.length : Int) : Int) := of_decide_eq_true (by first | (with_reducible assumption) | assumption)
              obtain ⟨go14, co14, eo14, gb14, gl14, cl14, HG14⟩ := Kd.R_form HO_3.out (by omega)
              (first | cases eo14 | (injection eo14 with ea_ en_ ec_; (first | subst ea_ | (injection ea_ with ea_; subst ea_)); subst ec_; clear en_))
              have GB14 := Aside0.mk gb14
              have GG14 := Aside0.mk HG14
              clear gb14 gl14 HG14
              obtain ⟨hx14_0, hf14_0⟩ := Kd.R_celln 0 HO_3.out ((rd t258 x12_1) : Int) p14 q14
              replace p14 := eq_true p14
              replace q14 := eq_true q14
              have HP20 := Kd.R_putg HO_3.out ((rd t258 x12_1) : Int) 1
              go_wp2_with (first | ((with_reducible refine gate_store (t := 3) (p := 18) rfl ?_); refine store_event (t := 3) (p := 18) (v := ?vo_w21) (w1 := (wr.setCell ⟨go14, ((rd t258 x12_1) : Int).toNat, none⟩ (.int .i64 1))) ?hg ?ho ?hn ?hr ?_; (case ho => rfl); (case hg => rfl); (case hn => rfl); (case hr => first | (go_simp; done) | (go_simp; rfl)); intro w21 hw; have hg : wr.grownBy w21 (some go14) := (by rw [hw]; exact HP20.2); have hp_ : Kd.R (Kd.int .i64) 3 w21 w.heap.size (fun k_ => some k_ ≠ (.slice (some ad261) t258.length co8 : Value).ownBlock) (.slice (some ⟨go14, 0, none⟩) x3_1.length co14) y262 := (by rw [hw, Ny262.out]; exact HP20.1); clear HP20; have n0_ := Aside0.mk (hp_); have n1_ := Aside0.mk (Kd.R_after (v := (.slice (some ⟨go14, 0, none⟩) x3_1.length co14)) (v1 := (.slice (some ⟨go14, 0, none⟩) x3_1.length co14)) (ok := (fun _ => True)) (by (with_reducible repeat (first | apply Kd.R_alloc | apply Kd.R_drewN | apply Kd.R_drew)); exact Kd.R_mono HO_10.out (fun _ hk => ⟨trivial, hk⟩)) hg (.inl rfl)); have n2_ := Aside0.mk ((by rw [hw]; exact below_set (HB.out) GB14.out : Below w.heap.size w w21)); clear HO_3; clear HO_10; clear HB; have HO_3 := n0_; have HO_10 := n1_; have HB := n2_; clear n0_ n1_ n2_; clear hg hw hp_; have p263 : 0 ≤ ((rd t258 x12_1) : Int) := of_decide_eq_true (by first | (with_reducible assumption) | assumption); have q263 : (rd t258 x12_1) < (l0.length : Int) := of_decide_eq_true (by first | (with_reducible assumption) | assumption); obtain ⟨ad263, A263_3, c263_3, A263_6, c263_6, e263, hx263_0, hx263_1, hx263_2, hx263_3, hx263_4, hx263_5, hx263_6, hl263_3, hi263_3, hl263_6, hi263_6⟩ := at_T70 HR0.out (rd t258 x12_1) p263 q263; cases e263; replace hx263_0 := (HB.out.cell (World.block_lt_of_cell? w _ hx263_0)).trans hx263_0; replace hx263_1 := (HB.out.cell (World.block_lt_of_cell? w _ hx263_1)).trans hx263_1; replace hx263_2 := (HB.out.cell (World.block_lt_of_cell? w _ hx263_2)).trans hx263_2; replace hx263_3 := (HB.out.cell (World.block_lt_of_cell? w _ hx263_3)).trans hx263_3; replace hx263_4 := (HB.out.cell (World.block_lt_of_cell? w _ hx263_4)).trans hx263_4; replace hx263_5 := (HB.out.cell (World.block_lt_of_cell? w _ hx263_5)).trans hx263_5; replace hx263_6 := (HB.out.cell (World.block_lt_of_cell? w _ hx263_6)).trans hx263_6; have HR263_3 := Aside0.mk hi263_3; have HC263_3 := Aside0.mk hl263_3; clear hi263_3 hl263_3; have HR263_6 := Aside0.mk hi263_6; have HC263_6 := Aside0.mk hl263_6; clear hi263_6 hl263_6; replace p263 := eq_true p263; replace q263 := eq_true q263; have p264 : 0 ≤ (((rd_T70 l0 (rd t258 x12_1)).f5) : Int) := of_decide_eq_true (by first | (with_reducible assumption) | assumption); have q264 : ((rd_T70 l0 (rd t258 x12_1)).f5) < (y262.length : Int) := (by have h_ : (((rd_T70 l0 (rd t258 x12_1)).f5) : Int) < ((x3_1.length : Int) : Int) := of_decide_eq_true (by first | (with_reducible assumption) | assumption); first | (have e_ := (Kd.R_reads' HO_3.out).1; omega) | simpa only [Ny262.out, List.length_set] using h_); have ql264 : ((((rd_T70 l0 (rd t258 x12_1)).f5) : Int) < ((x3_1.length : Int) : Int)) = True := eq_true (of_decide_eq_true (by first | (with_reducible assumption) | assumption)); obtain ⟨ad264, e264, hx264_0⟩ := Kd.at_int (Kd.R_reads' HO_3.out).2.2 ((rd_T70 l0 (rd t258 x12_1)).f5) p264 q264; obtain rfl : (⟨go14, 0, none⟩ : Addr) = ad264 := (by injection e264); (first | simp only [add_plain] at hx264_0 | simp only [add_at] at hx264_0 | simp only [Addr.add, Nat.zero_add] at hx264_0 | skip); replace p264 := eq_true p264; replace q264 := eq_true q264; have p19 : 0 ≤ ((rd t258 x12_1) : Int) := of_decide_eq_true (by first | (with_reducible assumption) | assumption); have q19 : ((rd t258 x12_1) : Int) < ((x3_1.length : Int) : Int) := of_decide_eq_true (by first | (with_reducible assumption) | assumption); obtain ⟨hx19_0, hf19_0⟩ := Kd.R_celln 0 HO_3.out ((rd t258 x12_1) : Int) p19 q19; replace p19 := eq_true p19; replace q19 := eq_true q19; obtain ⟨hy22_, hz22_⟩ := Kd.R_celln 0 HO_3.out ((rd t258 x12_1) : Int) (of_decide_eq_true (by first | (with_reducible assumption) | assumption)) (of_decide_eq_true (by first | (with_reducible assumption) | assumption)); have HP22 := Kd.R_putg HO_3.out ((rd t258 x12_1) : Int) (wrap64 ((rd y262 ((rd_T70 l0 (rd t258 x12_1)).f5)) + 1))) | ((with_reducible refine gate_store (t := 3) (p := 32) rfl ?_); refine store_event (t := 3) (p := 32) (v := ?vo_w23) (w1 := (w21.setCell ⟨go14, ((rd t258 x12_1) : Int).toNat, none⟩ (.int .i64 (wrap64 ((rd y262 ((rd_T70 l0 (rd t258 x12_1)).f5)) + 1))))) ?hg ?ho ?hn ?hr ?_; (case ho => rfl); (case hg => rfl); (case hn => rfl); (case hr => first | (go_simp; done) | (go_simp; rfl)); intro w23 hw; have hg : w21.grownBy w23 (some go14) := (by rw [hw]; exact HP22.2); have hp_ : Kd.R (Kd.int .i64) 3 w23 w.heap.size (fun k_ => some k_ ≠ (.slice (some ad261) t258.length co8 : Value).ownBlock) (.slice (some ⟨go14, 0, none⟩) x3_1.length co14) y265 := (by rw [hw, Ny265.out]; exact HP22.1); clear HP22; have n0_ := Aside0.mk (hp_); have n1_ := Aside0.mk (Kd.R_after (v := (.slice (some ⟨go14, 0, none⟩) x3_1.length co14)) (v1 := (.slice (some ⟨go14, 0, none⟩) x3_1.length co14)) (ok := (fun _ => True)) (by (with_reducible repeat (first | apply Kd.R_alloc | apply Kd.R_drewN | apply Kd.R_drew)); exact HO_10.out) hg (.inl rfl)); have n2_ := Aside0.mk ((by rw [hw]; exact below_set (HB.out) GB14.out : Below w.heap.size w w23)); clear HO_3; clear HO_10; clear HB; have HO_3 := n0_; have HO_10 := n1_; have HB := n2_; clear n0_ n1_ n2_; clear hg hw hp_))
              go_roundg k1
              case measure => have := HK1.out; omega
              case rel => exact ⟨(y265), (wrap64 (x12_1 + 1)), (by first | rfl | (simp; done) | (simp [*]; done)), H', ⟨by have := HK1.out; omega⟩, ⟨by (with_reducible repeat (first | apply Kd.R_alloc | apply Kd.R_drewN | apply Kd.R_drew)); exact HO_3.out⟩, ⟨by (with_reducible repeat (first | apply Kd.R_alloc | apply Kd.R_drewN | apply Kd.R_drew)); exact Kd.R_mono HO_10.out (fun _ hk => hk.2)⟩, ⟨by repeat (first | (with_reducible first | exact HB.out | apply below_alloc | apply pw_below_drewN | apply below_drew1) | exact HB.out)⟩⟩
             ·rw [if_neg c18] at H
              exact absurd H (by simp)
            ·rw [if_neg c17] at H
             exact absurd H (by simp)
           ·rw [if_neg c16] at H
            exact absurd H (by simp)
          ·rw [if_neg c15] at H
           have c15b0 : decide (0 < (rd t258 x12_1)) = false := decide_eq_false c15
           clear c15
           have H' := Aside0.mk H
           clear H
           have p261 : 0 ≤ (x12_1 : Int) := of_decide_eq_true (by first | (with_reducible assumption) | assumption)
           have q261 : x12_1 < (t258.length : Int) := of_decide_eq_true (by first | (with_reducible assumption) | assumption)
           obtain ⟨ad261, e261, hx261_0⟩ := Kd.at_int (Kd.R_reads' HO_10.out).2.2 x12_1 p261 q261
           cases e261
           replace p261 := eq_true p261
           replace q261 := eq_true q261
           have p14 : 0 ≤ ((rd t258 x12_1) : Int) := of_decide_eq_true (by first | (with_reducible assumption) | assumption)
           have q14 : ((rd t258 x12_1) : Int) < ((x3_1.length : Int) : Int) := of_decide_eq_true (by first | (with_reducible assumption) | assumption)
           obtain ⟨go14, co14, eo14, gb14, gl14, cl14, HG14⟩ := Kd.R_form HO_3.out (by omega)
           (first | cases eo14 | (injection eo14 with ea_ en_ ec_; (first | subst ea_ | (injection ea_ with ea_; subst ea_)); subst ec_; clear en_))
           have GB14 := Aside0.mk gb14
           have GG14 := Aside0.mk HG14
           clear gb14 gl14 HG14
           obtain ⟨hx14_0, hf14_0⟩ := Kd.R_celln 0 HO_3.out ((rd t258 x12_1) : Int) p14 q14
           replace p14 := eq_true p14
           replace q14 := eq_true q14
           have HP24 := Kd.R_putg HO_3.out ((rd t258 x12_1) : Int) 1
           go_wp2_with (first | ((with_reducible refine gate_store (t := 3) (p := 18) rfl ?_); refine store_event (t := 3) (p := 18) (v := ?vo_w25) (w1 := (wr.setCell ⟨go14, ((rd t258 x12_1) : Int).toNat, none⟩ (.int .i64 1))) ?hg ?ho ?hn ?hr ?_; (case ho => rfl); (case hg => rfl); (case hn => rfl); (case hr => first | (go_simp; done) | (go_simp; rfl)); intro w25 hw; have hg : wr.grownBy w25 (some go14) := (by rw [hw]; exact HP24.2); have hp_ : Kd.R (Kd.int .i64) 3 w25 w.heap.size (fun k_ => some k_ ≠ (.slice (some ad261) t258.length co8 : Value).ownBlock) (.slice (some ⟨go14, 0, none⟩) x3_1.length co14) y262 := (by rw [hw, Ny262.out]; exact HP24.1); clear HP24; have n0_ := Aside0.mk (hp_); have n1_ := Aside0.mk (Kd.R_after (v := (.slice (some ⟨go14, 0, none⟩) x3_1.length co14)) (v1 := (.slice (some ⟨go14, 0, none⟩) x3_1.length co14)) (ok := (fun _ => True)) (by (with_reducible repeat (first | apply Kd.R_alloc | apply Kd.R_drewN | apply Kd.R_drew)); exact Kd.R_mono HO_10.out (fun _ hk => ⟨trivial, hk⟩)) hg (.inl rfl)); have n2_ := Aside0.mk ((by rw [hw]; exact below_set (HB.out) GB14.out : Below w.heap.size w w25)); clear HO_3; clear HO_10; clear HB; have HO_3 := n0_; have HO_10 := n1_; have HB := n2_; clear n0_ n1_ n2_; clear hg hw hp_))
           go_roundg k1
           case measure => have := HK1.out; omega
           case rel => exact ⟨(y262), (wrap64 (x12_1 + 1)), (by first | rfl | (simp; done) | (simp [*]; done)), H', ⟨by have := HK1.out; omega⟩, ⟨by (with_reducible repeat (first | apply Kd.R_alloc | apply Kd.R_drewN | apply Kd.R_drew)); exact HO_3.out⟩, ⟨by (with_reducible repeat (first | apply Kd.R_alloc | apply Kd.R_drewN | apply Kd.R_drew)); exact Kd.R_mono HO_10.out (fun _ hk => hk.2)⟩, ⟨by repeat (first | (with_reducible first | exact HB.out | apply below_alloc | apply pw_below_drewN | apply below_drew1) | exact HB.out)⟩⟩
         ·rw [if_neg c13] at H
          exact absurd H (by simp)
        ·rw [if_neg c12] at H
         exact absurd H (by simp)
       ·rw [if_neg c11] at H
        exact absurd H (by simp)
      ·rw [if_neg c10] at H
       exact absurd H (by simp)
     ·rw [if_neg c9] at H
      have c9b0 := decide_eq_false c9
      clear c9
      obtain rfl := Option.some.inj H
      go_wp2
      go_ret
      exact ⟨_, by first | rfl | (simp [errW_none, errW_some] <;> rfl) | (simp [*, errW_none, errW_some] <;> rfl), by (with_reducible repeat (first | apply Kd.R_alloc | apply Kd.R_drewN | apply Kd.R_drew)); exact Kd.R_mono HO_3.out (fun _ hk => trivial), by repeat (first | (with_reducible first | exact HB.out | apply below_alloc | apply pw_below_drewN | apply below_drew1) | exact HB.out)⟩
  ·rw [if_neg c3] at H
   exact absurd H (by simp)
 ·rw [if_neg c2] at H
  exact absurd H (by simp)

/-! ### impl_Deep: function 22 -/
def impl_Deep.l0 : Nat → Int → List Int → Int → Int → Option (Int)
 | 0, _, _, _, _ => none
 | k + 1, x3, x10, x11, x12 => if x12 < x11 then (if 0 ≤ x12 then (if x12 < (x10.length : Int) then (impl_Deep.l0 k (mx x3 (rd x10 x12)) x10 x11 (wrap64 (x12 + 1))) else (none)) else (none)) else (some x3)
def impl_Deep.f (k : Nat) (l0 : List (S70)) : Option (Int) := (impl_TreeOk.f k l0).bind fun t266 => (if t266 = true then ((impl_depths.f k l0).bind fun t267 => (impl_Deep.l0 k 0 t267 (t267.length : Int) 0)) else (some 0))
theorem impl_Deep.mono_l : ∀ k, (∀ y0 y1 y2 y3, LeO (impl_Deep.l0 k y0 y1 y2 y3) (impl_Deep.l0 (k + 1) y0 y1 y2 y3))
 | 0 => fun _ _ _ _ r h => by simp [impl_Deep.l0] at h
 | k + 1 => by
  have ih0 := impl_Deep.mono_l k
  ·intro y0 y1 y2 y3
   unfold impl_Deep.l0
   repeat' first
   | (with_reducible exact ih0 _ _ _ _)
   | (with_reducible exact impl_TreeOk.mono _ _)
   | (with_reducible exact impl_depths.mono _ _)
   | (with_reducible exact LeO.refl _)
   | (with_reducible exact LeO.none _)
   | (with_reducible refine LeO.ite ?_ ?_)
   | (with_reducible refine LeO.bind ?_ (fun _ => ?_))
   | exact ih0 _ _ _ _
   | exact impl_TreeOk.mono _ _
   | exact impl_depths.mono _ _
   | exact LeO.none _
   | refine LeO.ite ?_ ?_
   | refine LeO.bind ?_ (fun _ => ?_)
theorem impl_Deep.mono : ∀ a0 k, LeO (impl_Deep.f k a0) (impl_Deep.f (k + 1) a0) := by
 intro a0 k
 have ih0 := impl_Deep.mono_l k
 unfold impl_Deep.f
 repeat' first
   | (with_reducible exact ih0 _ _ _ _)
   | (with_reducible exact impl_TreeOk.mono _ _)
   | (with_reducible exact impl_depths.mono _ _)
   | (with_reducible exact LeO.refl _)
   | (with_reducible exact LeO.none _)
   | (with_reducible refine LeO.ite ?_ ?_)
   | (with_reducible refine LeO.bind ?_ (fun _ => ?_))
   | exact ih0 _ _ _ _
   | exact impl_TreeOk.mono _ _
   | exact impl_depths.mono _ _
   | exact LeO.none _
   | refine LeO.ite ?_ ?_
   | refine LeO.bind ?_ (fun _ => ?_)
set_option maxHeartbeats 8000000 in
set_option maxRecDepth 100000 in
theorem impl_Deep.calls (k : Nat) (A0 : Option Addr) (c0 : Nat) (l0 : List (S70)) (r : Int) (w : World) (hr0 : Kd.C k70 w A0 l0.length l0) (hc0 : l0.length ≤ c0) (h : impl_Deep.f k l0 = some r) :
  Calls Try.prog 22 #[.slice A0 l0.length c0] w fun e w' => e = .returned (.int .i64 r) ∧ Below w.heap.size w w' := by
 have HR0 := Aside0.mk hr0
 have HC0 := Aside0.mk hc0
 clear hr0 hc0
 have HB := Aside0.mk (Below.refl w.heap.size w)
 have H : ((impl_TreeOk.f k l0).bind fun t266 => (if t266 = true then ((impl_depths.f k l0).bind fun t267 => (impl_Deep.l0 k 0 t267 (t267.length : Int) 0)) else (some 0))) = some r := h
 clear h
 replace H := Option.bind_eq_some_iff.mp H
 obtain ⟨t266, A20, H⟩ := H
 replace H : (if t266 = true then ((impl_depths.f k l0).bind fun t267 => (impl_Deep.l0 k 0 t267 (t267.length : Int) 0)) else (some 0)) = some r := H
 have A2 := Aside0.mk A20
 clear A20
 by_cases c3 : t266 = true
 ·subst c3
  have H1 : ((impl_depths.f k l0).bind fun t267 => (impl_Deep.l0 k 0 t267 (t267.length : Int) 0)) = some r := by rw [if_pos rfl] at H; exact H
  clear H
  have H := H1
  clear H1
  replace H := Option.bind_eq_some_iff.mp H
  obtain ⟨t267, A40, H⟩ := H
  replace H : (impl_Deep.l0 k 0 t267 (t267.length : Int) 0) = some r := H
  have A4 := Aside0.mk A40
  clear A40
  have H' := Aside0.mk H
  clear H
  go_enter Try.func22, Try.ntmps22
  go_wp2_with (first | ((with_reducible refine gate_callee (f := 62) rfl ?_); refine goesL_ (some 7) rfl rfl Try.func62 (by kernel_rfl) rfl #[.slice A0 l0.length c0] rfl (by (try simp only [List.map_toArray, List.map_cons, List.map_nil]); first | done | rfl | (simp only [List.length_drop, List.length_take]; rfl)) ?_; (with_reducible refine (impl_TreeOk.calls k _ _ l0 true _ ?side1 ?side2 A2.out).mono ?_); (case side1 => repeat (first | exact HR0.out | (with_reducible refine Kd.C_alloc ?_ _) | (with_reducible refine Kd.C_drewN ?_ _) | (with_reducible refine Kd.C_drew ?_))); (case side2 => exact HC0.out); rintro e w5 ⟨rfl, hb⟩; refine ⟨_, rfl, ?_⟩; have n0_ := Aside0.mk (below_step (by repeat (first | (with_reducible first | exact HB.out | apply below_alloc | apply pw_below_drewN | apply below_drew1) | exact HB.out)) hb); clear HB; have HB := n0_; clear n0_; (try clear hb); (try clear hb2); (try clear hk); (try clear hi)) | ((with_reducible refine gate_callee (f := 63) rfl ?_); refine goesL_ (some 10) rfl rfl Try.func63 (by kernel_rfl) rfl #[.slice A0 l0.length c0] rfl (by (try simp only [List.map_toArray, List.map_cons, List.map_nil]); first | done | rfl | (simp only [List.length_drop, List.length_take]; rfl)) ?_; (with_reducible refine (impl_depths.calls k _ _ l0 t267 _ ?side1 ?side2 A4.out).mono ?_); (case side1 => repeat (first | exact (Kd.C_below HR0.out HB.out) | (with_reducible refine Kd.C_alloc ?_ _) | (with_reducible refine Kd.C_drewN ?_ _) | (with_reducible refine Kd.C_drew ?_))); (case side2 => exact HC0.out); rintro e w6 ⟨v268, rfl, ho0, hb⟩; refine ⟨_, rfl, ?_⟩; have n0_ := Aside0.mk (Kd.R_lower ho0 (below_size (by repeat (first | (with_reducible first | exact HB.out | apply below_alloc | apply pw_below_drewN | apply below_drew1) | exact HB.out)))); have n1_ := Aside0.mk (below_step (by repeat (first | (with_reducible first | exact HB.out | apply below_alloc | apply pw_below_drewN | apply below_drew1) | exact HB.out)) hb); clear HB; have HO269 := n0_; have HB := n1_; clear n0_ n1_; (try clear hb); (try clear hb2); (try clear hk); (try clear hi); (try clear ho0); obtain ⟨Ao7, co7, eo7⟩ := Kd.R_slice HO269.out; subst eo7))
  go_loopg [3, 12] k (fun kq v3 v12 w' => ∃ (x3_1 : Int) (x12_1 : Int), v3 = .int .i64 x3_1 ∧ v12 = .int .i64 x12_1 ∧ Aside0 (impl_Deep.l0 kq x3_1 t267 (t267.length : Int) x12_1 = some r) ∧ Aside0 (kq ≤ k) ∧ Aside0 (Kd.R (Kd.int .i64) 3 w' w.heap.size (fun _ => True) (.slice Ao7 t267.length co7) t267) ∧ Aside0 (Below w.heap.size w w'))
  case atStart => exact ⟨(0), (0), (by first | rfl | (simp; done) | (simp [*]; done)), (by first | rfl | (simp; done) | (simp [*]; done)), H', ⟨Nat.le_refl _⟩, ⟨by (with_reducible repeat (first | apply Kd.R_alloc | apply Kd.R_drewN | apply Kd.R_drew)); exact HO269.out⟩, ⟨by repeat (first | (with_reducible first | exact HB.out | apply below_alloc | apply pw_below_drewN | apply below_drew1) | exact HB.out)⟩⟩
  case round =>
   clear H'
   try clear c2
   try clear p2
   try clear c3
   try clear c6
   obtain ⟨x3_1, x12_1, rfl, rfl, HA, HK1, HO_10, HB⟩ := hrel
   cases gk with
   | zero => exact absurd HA.out (by simp [impl_Deep.l0])
   | succ k1 =>
    have H := HA.out
    clear HA
    simp only [impl_Deep.l0] at H
    by_cases c8 : x12_1 < (t267.length : Int)
    ·rw [if_pos c8] at H
     have c8b0 := decide_eq_true c8
     clear c8
     by_cases c9 : 0 ≤ x12_1
     ·rw [if_pos c9] at H
      have c9b0 := decide_eq_true c9
      clear c9
      by_cases c10 : x12_1 < (t267.length : Int)
      ·rw [if_pos c10] at H
       have c10b0 := decide_eq_true c10
       clear c10
       obtain ⟨ji11, hji11⟩ : ∃ j_ : Int, (mx x3_1 (rd t267 x12_1)) = j_ := ⟨_, rfl⟩
       replace H : (impl_Deep.l0 k1 ji11 t267 (t267.length : Int) (wrap64 (x12_1 + 1))) = some r := by first | (rw [hji11] at H; exact H) | (simp only [hji11] at H ⊢; exact H)
       have hji11_ : (if x3_1 < (rd t267 x12_1) then (rd t267 x12_1) else x3_1) = ji11 := hji11
       have H' := Aside0.mk H
       clear H
       have p270 : 0 ≤ (x12_1 : Int) := of_decide_eq_true (by first | (with_reducible assumption) | assumption)
       have q270 : x12_1 < (t267.length : Int) := of_decide_eq_true (by first | (with_reducible assumption) | assumption)
       obtain ⟨ad270, e270, hx270_0⟩ := Kd.at_int (Kd.R_reads' HO_10.out).2.2 x12_1 p270 q270
       cases e270
       replace p270 := eq_true p270
       replace q270 := eq_true q270
       go_wp2
       go_roundg k1
       case measure => have := HK1.out; omega
       case rel => exact ⟨(ji11), (wrap64 (x12_1 + 1)), (by first | rfl | (simp; done) | (simp only [← hji11] <;> (first | rfl | simp)) | (simp [*]; done)), (by first | rfl | (simp; done) | (simp [*]; done)), H', ⟨by have := HK1.out; omega⟩, ⟨by (with_reducible repeat (first | apply Kd.R_alloc | apply Kd.R_drewN | apply Kd.R_drew)); exact HO_10.out⟩, ⟨by repeat (first | (with_reducible first | exact HB.out | apply below_alloc | apply pw_below_drewN | apply below_drew1) | exact HB.out)⟩⟩
      ·rw [if_neg c10] at H
       exact absurd H (by simp)
     ·rw [if_neg c9] at H
      exact absurd H (by simp)
    ·rw [if_neg c8] at H
     have c8b0 := decide_eq_false c8
     clear c8
     obtain rfl := Option.some.inj H
     go_wp2
     go_ret
     exact ⟨by first | rfl | (simp [errW_none, errW_some] <;> rfl) | (simp [*, errW_none, errW_some] <;> rfl), by repeat (first | (with_reducible first | exact HB.out | apply below_alloc | apply pw_below_drewN | apply below_drew1) | exact HB.out)⟩
 ·replace c3 := Bool.eq_false_iff.mpr c3
  subst c3
  have H1 : (some 0) = some r := by rw [if_neg (show ¬ (false = true) by decide)] at H; exact H
  clear H
  have H := H1
  clear H1
  obtain rfl := Option.some.inj H
  go_enter Try.func22, Try.ntmps22
  go_wp2_with (first | ((with_reducible refine gate_callee (f := 62) rfl ?_); refine goesL_ (some 7) rfl rfl Try.func62 (by kernel_rfl) rfl #[.slice A0 l0.length c0] rfl (by (try simp only [List.map_toArray, List.map_cons, List.map_nil]); first | done | rfl | (simp only [List.length_drop, List.length_take]; rfl)) ?_; (with_reducible refine (impl_TreeOk.calls k _ _ l0 false _ ?side1 ?side2 A2.out).mono ?_); (case side1 => repeat (first | exact HR0.out | (with_reducible refine Kd.C_alloc ?_ _) | (with_reducible refine Kd.C_drewN ?_ _) | (with_reducible refine Kd.C_drew ?_))); (case side2 => exact HC0.out); rintro e w12 ⟨rfl, hb⟩; refine ⟨_, rfl, ?_⟩; have n0_ := Aside0.mk (below_step (by repeat (first | (with_reducible first | exact HB.out | apply below_alloc | apply pw_below_drewN | apply below_drew1) | exact HB.out)) hb); clear HB; have HB := n0_; clear n0_; (try clear hb); (try clear hb2); (try clear hk); (try clear hi)))
  go_ret
  exact ⟨by first | rfl | (simp [errW_none, errW_some] <;> rfl) | (simp [*, errW_none, errW_some] <;> rfl), by repeat (first | (with_reducible first | exact HB.out | apply below_alloc | apply pw_below_drewN | apply below_drew1) | exact HB.out)⟩

end Go.Proofs.Ytfjheckgigppiaa.P
