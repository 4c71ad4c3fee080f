-- WRITTEN BY hprint.py, this session's own program, over the kit's printer: not typed by hand; Lean checks it
import Derived.Test.YtfjheckgigppiaaPw0
import Derived.Test.YtfjheckgigppiaaPw5
import Derived.Test.YtfjheckgigppiaaPw6
import Derived.Test.YtfjheckgigppiaaPw7
namespace Go.Proofs.Ytfjheckgigppiaa.P
open Go.RowKit Go.Proofs.YtfjheckgigppiaaW.PrintWords Go.Proofs.YtfjheckgigppiaaW.PrintLast Go.Proofs.YtfjheckgigppiaaW.PrintMore
attribute [local go_sem] max2_int min2_int max_two min_two max_three min_three max_four min_four   -- for this text's walks alone
set_option linter.unusedVariables false
set_option linter.unusedSimpArgs false

/-! ### spec_l6Order: function 100 -/
mutual
def spec_l6Order.l0 : Nat → List (S70) → Int → List Int → Int → Option (List Int)
 | 0, _, _, _, _ => none
 | k + 1, x0, x1, x2, x7 => if 0 ≤ x1 then (if x1 < (x0.length : Int) then (if x7 < (((rd_T70 x0 x1).f6).length : Int) then (if 0 ≤ x7 then ((spec_l6Order.f k x0 (rd ((rd_T70 x0 x1).f6) x7) x2).bind fun t201 => (spec_l6Order.l0 k x0 x1 t201 (wrap64 (x7 + 1)))) else (none)) else (some x2)) else (none)) else (none)
def spec_l6Order.f : Nat → List (S70) → Int → List Int → Option (List Int)
 | 0, _, _, _ => none
 | k + 1, l0, a1, l2 => if (l2.length : Int) ≥ (l0.length : Int) then (some l2) else (if l2.length < 17592186044416 then (spec_l6Order.l0 k l0 a1 (l2 ++ [a1]) 0) else (none))
end
theorem spec_l6Order.mono_l : ∀ k, (∀ y0 y1 y2, LeO (spec_l6Order.f k y0 y1 y2) (spec_l6Order.f (k + 1) y0 y1 y2)) ∧ (∀ y0 y1 y2 y3, LeO (spec_l6Order.l0 k y0 y1 y2 y3) (spec_l6Order.l0 (k + 1) y0 y1 y2 y3))
 | 0 => ⟨fun _ _ _ r h => by simp [spec_l6Order.f] at h, fun _ _ _ _ r h => by simp [spec_l6Order.l0] at h⟩
 | k + 1 => by
  obtain ⟨ih0, ih1⟩ := spec_l6Order.mono_l k
  refine ⟨?_, ?_⟩
  ·intro y0 y1 y2
   unfold spec_l6Order.f
   repeat' first
   | (with_reducible exact ih0 _ _ _)
   | (with_reducible exact ih1 _ _ _ _)
   | (with_reducible exact LeO.refl _)
   | (with_reducible exact LeO.none _)
   | (with_reducible refine LeO.ite ?_ ?_)
   | (with_reducible refine LeO.bind ?_ (fun _ => ?_))
  ·intro y0 y1 y2 y3
   unfold spec_l6Order.l0
   repeat' first
   | (with_reducible exact ih0 _ _ _)
   | (with_reducible exact ih1 _ _ _ _)
   | (with_reducible exact LeO.refl _)
   | (with_reducible exact LeO.none _)
   | (with_reducible refine LeO.ite ?_ ?_)
   | (with_reducible refine LeO.bind ?_ (fun _ => ?_))
theorem spec_l6Order.mono : ∀ a0 a1 a2 k, LeO (spec_l6Order.f k a0 a1 a2) (spec_l6Order.f (k + 1) a0 a1 a2) := by
 intro a0 a1 a2 k
 obtain ⟨ih0, ih1⟩ := spec_l6Order.mono_l k
 exact ih0 a0 a1 a2
set_option maxHeartbeats 8000000 in
set_option maxRecDepth 100000 in
theorem spec_l6Order.calls (k : Nat) : ∀ (A0 : Option Addr) (c0 : Nat) (l0 : List (S70)) (a1 : Int) (P2_ : Nat → Prop) (u9000_ : Value) (l2 : List Int) (r : List Int) (w0 w : World) (hB : Below w0.heap.size w0 w) (hr0 : ∀ W_, Kept w W_ (fun k_ => P2_ k_) → Kd.C k70 W_ A0 l0.length l0) (hc0 : l0.length ≤ c0) (ho2 : Kd.R (Kd.int .i64) 3 w w0.heap.size P2_ u9000_ l2) (h : spec_l6Order.f k l0 a1 l2 = some r),
  Calls Try.prog 100 #[.slice A0 l0.length c0, .int .i64 a1, u9000_] w fun e w' => ∃ v0_ : Value, e = .returned (v0_) ∧ Kd.R (Kd.int .i64) 3 w' w0.heap.size (fun k_ => (P2_ k_ ∨ w.heap.size ≤ k_)) v0_ r ∧ Below w0.heap.size w0 w' ∧ Kept w w' (fun k_ => P2_ k_) := by
 induction k using Nat.strongRecOn with
 | _ k ih =>
 intro A0 c0 l0 a1 P2_ u9000_ l2 r w0 w hB hr0 hc0 ho2 h
 cases k with
 | zero => exact absurd h (by simp [spec_l6Order.f])
 | succ k =>
 simp only [spec_l6Order.f] at h
 have HR0 := Aside0.mk hr0
 have HC0 := Aside0.mk hc0
 clear hr0 hc0
 have HO2 := Aside0.mk (show Kd.R (Kd.int .i64) 3 w w0.heap.size (fun k_ => (P2_ k_ ∨ w.heap.size ≤ k_)) u9000_ l2 from Kd.R_mono ho2 (fun k_ hk => (.inl hk)))
 have HK := Aside0.mk (Kept.refl w (fun k_ => P2_ k_))
 have HW0 := Aside0.mk hB.size
 have HB := Aside0.mk hB
 clear hB
 have H : (if (l2.length : Int) ≥ (l0.length : Int) then (some l2) else (if l2.length < 17592186044416 then (spec_l6Order.l0 k l0 a1 (l2 ++ [a1]) 0) else (none))) = some r := h
 clear h
 by_cases c4 : (l2.length : Int) ≥ (l0.length : Int)
 ·rw [if_pos c4] at H
  have c4b0 : decide ((l0.length : Int) ≤ (l2.length : Int)) = true := decide_eq_true c4
  have c4b1 : decide (l0.length ≤ l2.length) = true := decide_eq_true (Int.ofNat_le.mp c4)
  clear c4
  obtain rfl := Option.some.inj H
  obtain ⟨Ao5, co5, eo5⟩ := Kd.R_slice HO2.out
  subst eo5
  go_enter Try.func100, Try.ntmps100
  go_wp2
  go_ret
  exact ⟨_, ab7, ab8 HO2, ab1, by repeat (first | (with_reducible first | exact HK.out | apply Kept.alloc | apply Kept.drewN | apply Kept.drew) | exact HK.out)⟩
 ·rw [if_neg c4] at H
  have c4b0 : decide ((l0.length : Int) ≤ (l2.length : Int)) = false := decide_eq_false c4
  have c4b1 : decide (l0.length ≤ l2.length) = false := decide_eq_false (fun h => c4 (Int.ofNat_le.mpr h))
  clear c4
  by_cases c6 : l2.length < 17592186044416
  case neg => rw [if_neg c6] at H; exact absurd H (by simp)
  rw [if_pos c6] at H
  have LMc6 := Aside0.mk c6
  clear c6
  obtain ⟨y195, hy195⟩ : ∃ y_ : List Int, y_ = (l2 ++ [a1]) := ⟨_, rfl⟩
  replace H : (spec_l6Order.l0 k l0 a1 y195 0) = some r := by first | (rw [hy195]; with_reducible exact H) | (have H2_ := (Option.bind_some _ _).symm.trans H; rw [hy195]; with_reducible exact H2_) | (have H2_ := (Option.bind_some _ _).symm.trans H; with_reducible exact H2_) | with_reducible exact H | (rw [hy195]; exact H) | exact H
  have Ny195 := Aside0.mk hy195
  clear hy195
  have H' := Aside0.mk H
  clear H
  obtain ⟨Ao7, co7, eo7⟩ := Kd.R_slice HO2.out
  subst eo7
  go_enter Try.func100, Try.ntmps100
  go_wp2_with (first | ((with_reducible refine gate_builtin (b := .append) (xs := #[.tmp 14, .tmp 16]) rfl ?_); at_builtin; refine Kd.R_append (Kd.int .i64) (w0 := w0) w0.heap.size rfl (.tmp 14) (.tmp 16) 36 3 (.int .i64 0) 8 rfl Try.underlying36 info3 rfl (by decide) (by omega) (.slice Ao7 l2.length co7) l2 a1 [.int .i64 a1] (fun k_ => (P2_ k_ ∨ w.heap.size ≤ k_)) (fun _ => False) rfl rfl ?aP (fun _ hk => hk.elim) ?aF ?aO ?aB ?aS ?aL ?_; (case aP => exact rfl); (case aB => exact ab1); (case aF => exact (fun k_ hk => (.inr (Nat.le_trans (by first | exact HK.out.1 | exact (show Kept w _ (fun k_ => P2_ k_) from by repeat (first | (with_reducible first | exact HK.out | apply Kept.alloc | apply Kept.drewN | apply Kept.drew) | exact HK.out)).1) hk)))); (case aO => exact (ab8 HO2)); (case aS => exact (below_size ab1)); (case aL => have := LMc6.out; omega); intro v196 w8 ho hb hg hat; rw [← Ny195.out] at ho; have n0_ := Aside0.mk (hb); have n1_ := Aside0.mk (Kept.of_grown (S := (fun k_ => P2_ k_)) hg (by repeat (first | (with_reducible first | exact HK.out | apply Kept.alloc | apply Kept.drewN | apply Kept.drew) | exact HK.out)) (fun k_ e_ => (HO2.out.1 k_ e_))); have n2_ := Aside0.mk (ho); clear HB; clear HK; clear HO2; have HB := n0_; have HK := n1_; have HO197 := n2_; clear n0_ n1_ n2_; clear ho hb hg hat))
  go_loopg [2, 7] k (fun kq v2 v7 w' => ∃ (x2_1 : List Int) (x7_1 : Int), v7 = .int .i64 x7_1 ∧ Aside0 (spec_l6Order.l0 kq l0 a1 x2_1 x7_1 = some r) ∧ Aside0 (kq ≤ k) ∧ Aside0 (Kd.R (Kd.int .i64) 3 w' w0.heap.size (fun k_ => (P2_ k_ ∨ w.heap.size ≤ k_)) v2 x2_1) ∧ Aside0 (Kept w w' (fun k_ => P2_ k_)) ∧ Aside0 (Below w0.heap.size w0 w'))
  case atStart => exact ⟨(y195), (0), ab6, H', ⟨Nat.le_refl _⟩, ⟨ab8 HO197⟩, ⟨by repeat (first | (with_reducible first | exact HK.out | apply Kept.alloc | apply Kept.drewN | apply Kept.drew) | exact HK.out)⟩, ⟨ab1⟩⟩
  case round =>
   clear H'
   (try clear c1); (try clear p2); (try clear c4); (try clear c4b0); (try clear c4b1); (try clear c6)
   obtain ⟨x2_1, x7_1, rfl, HA, HK1, HO_2, HK, HB⟩ := hrel
   cases gk with
   | zero => exact absurd HA.out (by simp [spec_l6Order.l0])
   | succ k1 =>
    have H := HA.out
    clear HA
    simp only [spec_l6Order.l0] at H
    by_cases c9 : 0 ≤ a1
    case neg => rw [if_neg c9] at H; exact absurd H (by simp)
    rw [if_pos c9] at H
    have c9b0 := decide_eq_true c9
    clear c9
    by_cases c10 : a1 < (l0.length : Int)
    case neg => rw [if_neg c10] at H; exact absurd H (by simp)
    rw [if_pos c10] at H
    have c10b0 := decide_eq_true c10
    clear c10
    by_cases c11 : x7_1 < (((rd_T70 l0 a1).f6).length : Int)
    ·rw [if_pos c11] at H
     have c11b0 := decide_eq_true c11
     clear c11
     by_cases c12 : 0 ≤ x7_1
     case neg => rw [if_neg c12] at H; exact absurd H (by simp)
     rw [if_pos c12] at H
     have c12b0 := decide_eq_true c12
     clear c12
     replace H := Option.bind_eq_some_iff.mp H
     obtain ⟨t201, A130, H⟩ := H
     try dsimp only at H
     have A13 := Aside0.mk A130
     clear A130
     have H' := Aside0.mk H
     clear H
     have p198 : 0 ≤ (a1 : Int) := of_decide_eq_true ab4
     have q198 : a1 < (l0.length : Int) := of_decide_eq_true ab4
     obtain ⟨ad198, A198_3, c198_3, A198_6, c198_6, e198, hx198_0, hx198_1, hx198_2, hx198_3, hx198_4, hx198_5, hx198_6, hl198_3, hi198_3, hl198_6, hi198_6⟩ := at_T70 (Kd.C_kept_now HR0.out HK.out) a1 p198 q198
     cases e198
     have HR198_3 := Aside0.mk hi198_3
     have HC198_3 := Aside0.mk hl198_3
     clear hi198_3 hl198_3
     have HR198_6 := Aside0.mk hi198_6
     have HC198_6 := Aside0.mk hl198_6
     clear hi198_6 hl198_6
     replace p198 := eq_true p198
     replace q198 := eq_true q198
     have p199 : 0 ≤ (a1 : Int) := of_decide_eq_true ab4
     have q199 : a1 < (l0.length : Int) := of_decide_eq_true ab4
     obtain ⟨ad199, A199_3, c199_3, A199_6, c199_6, e199, hx199_0, hx199_1, hx199_2, hx199_3, hx199_4, hx199_5, hx199_6, hl199_3, hi199_3, hl199_6, hi199_6⟩ := at_T70 (Kd.C_kept_now HR0.out HK.out) a1 p199 q199
     obtain rfl : ad198 = ad199 := (by injection e199)
     have HR199_3 := Aside0.mk hi199_3
     have HC199_3 := Aside0.mk hl199_3
     clear hi199_3 hl199_3
     have HR199_6 := Aside0.mk hi199_6
     have HC199_6 := Aside0.mk hl199_6
     clear hi199_6 hl199_6
     replace p199 := eq_true p199
     replace q199 := eq_true q199
     have ea_ := Option.some.inj (hx198_3.symm.trans hx199_3)
     injection ea_ with ea_ en_ ec_
     subst ea_
     subst ec_
     clear en_
     have ea_ := Option.some.inj (hx198_6.symm.trans hx199_6)
     injection ea_ with ea_ en_ ec_
     subst ea_
     subst ec_
     clear en_
     have p200 : 0 ≤ (x7_1 : Int) := of_decide_eq_true ab4
     have q200 : x7_1 < (((rd_T70 l0 a1).f6).length : Int) := of_decide_eq_true ab4
     obtain ⟨ad200, e200, hx200_0⟩ := Kd.at_int (by repeat (first | (with_reducible exact HR199_6.out) | (with_reducible refine Kd.C_alloc ?_ _) | (with_reducible refine Kd.C_drewN ?_ _) | (with_reducible refine Kd.C_drew ?_) | exact HR199_6.out)) x7_1 p200 q200
     cases e200
     replace p200 := eq_true p200
     replace q200 := eq_true q200
     obtain ⟨Ao14, co14, eo14⟩ := Kd.R_slice HO_2.out
     subst eo14
     go_wp2_with (first | ((with_reducible refine gate_callee (f := 100) rfl ?_); refine goesL_ (some 38) rfl rfl Try.func100 (by kernel_rfl) rfl #[.slice (some ad198) l0.length c0, .int .i64 (rd ((rd_T70 l0 a1).f6) x7_1), .slice Ao14 x2_1.length co14] rfl ab5 ?_; (with_reducible refine (ih k1 (by have := HK1.out; omega) _ _ l0 (rd ((rd_T70 l0 a1).f6) x7_1) (fun k_ => some k_ = (.slice Ao14 x2_1.length co14 : Value).ownBlock) (.slice Ao14 x2_1.length co14) x2_1 t201 w0 _ ?side1 ?side2 ?side3 ?side4 A13.out).mono ?_); (case side1 => repeat (first | (with_reducible first | exact HB.out | apply below_alloc | apply pw_below_drewN | apply below_drew1) | exact HB.out)); (case side2 => exact Kd.C_kept_call HR0.out (by repeat (first | (with_reducible first | exact HK.out | apply Kept.alloc | apply Kept.drewN | apply Kept.drew) | exact HK.out)) (fun k_ hs_ => (fun e_ => (HO_2.out.1 k_ e_.symm)) hs_)); (case side3 => exact HC0.out); (case side4 => exact Kd.R_tight rfl HO_2.out); rintro e w15 ⟨v202, rfl, ho0, hb, hkp⟩; refine ⟨_, rfl, ?_⟩; have n0_ := Aside0.mk (Kd.R_mono (ok' := fun k_ => (P2_ k_ ∨ w.heap.size ≤ k_)) ho0 (fun k_ hk_ => Or.elim hk_ (fun hs_ => (HO_2.out.1 k_ (hs_).symm)) (fun hn_ => (.inr (Nat.le_trans (by first | exact HK.out.1 | exact (show Kept w _ (fun k_ => P2_ k_) from by repeat (first | (with_reducible first | exact HK.out | apply Kept.alloc | apply Kept.drewN | apply Kept.drew) | exact HK.out)).1) hn_))))); have n1_ := Aside0.mk (Kept.then_ (S := (fun k_ => P2_ k_)) (by repeat (first | (with_reducible first | exact HK.out | apply Kept.alloc | apply Kept.drewN | apply Kept.drew) | exact HK.out)) hkp (fun k_ hs_ => (fun e_ => (HO_2.out.1 k_ e_.symm)) hs_)); have n2_ := Aside0.mk (hb); clear HK; clear HB; clear HO_2; have HO203 := n0_; have HK := n1_; have HB := n2_; clear n0_ n1_ n2_; (try clear hb); (try clear hkp); (try clear ho0)))
     go_roundg k1
     case measure => have := HK1.out; omega
     case rel => exact ⟨(t201), (wrap64 (x7_1 + 1)), ab6, H', ⟨by have := HK1.out; omega⟩, ⟨ab8 HO203⟩, ⟨by repeat (first | (with_reducible first | exact HK.out | apply Kept.alloc | apply Kept.drewN | apply Kept.drew) | exact HK.out)⟩, ⟨ab1⟩⟩
    ·rw [if_neg c11] at H
     have c11b0 := decide_eq_false c11
     clear c11
     obtain rfl := Option.some.inj H
     have p198 : 0 ≤ (a1 : Int) := of_decide_eq_true ab4
     have q198 : a1 < (l0.length : Int) := of_decide_eq_true ab4
     obtain ⟨ad198, A198_3, c198_3, A198_6, c198_6, e198, hx198_0, hx198_1, hx198_2, hx198_3, hx198_4, hx198_5, hx198_6, hl198_3, hi198_3, hl198_6, hi198_6⟩ := at_T70 (Kd.C_kept_now HR0.out HK.out) a1 p198 q198
     cases e198
     have HR198_3 := Aside0.mk hi198_3
     have HC198_3 := Aside0.mk hl198_3
     clear hi198_3 hl198_3
     have HR198_6 := Aside0.mk hi198_6
     have HC198_6 := Aside0.mk hl198_6
     clear hi198_6 hl198_6
     replace p198 := eq_true p198
     replace q198 := eq_true q198
     go_wp2
     go_ret
     exact ⟨_, ab7, ab8 HO_2, ab1, by repeat (first | (with_reducible first | exact HK.out | apply Kept.alloc | apply Kept.drewN | apply Kept.drew) | exact HK.out)⟩

/-! ### spec_TreeOk: function 59 -/
mutual
def spec_TreeOk.j0 : Nat → List (S70) → Bool → Option (Bool)
 | 0, _, _ => none
 | k + 1, x0, x14 => if x14 = true then (some false) else (spec_TreeOk.l0 k x0 0)
def spec_TreeOk.l0 : Nat → List (S70) → Int → Option (Bool)
 | 0, _, _ => none
 | k + 1, x0, x3 => if x3 < (x0.length : Int) then (if 0 ≤ x3 then ((spec_l6Plain.f k ((rd_T70 x0 x3).f0) ((rd_T70 x0 x3).f1) ((rd_T70 x0 x3).f2) ((rd_T70 x0 x3).f3) ((rd_T70 x0 x3).f4) ((rd_T70 x0 x3).f5) ((rd_T70 x0 x3).f6)).bind fun t207 => (if t207 = true then (if x3 > 0 then (if ((rd_T70 x0 x3).f0) = 1 then (some false) else (spec_TreeOk.l0 k x0 (wrap64 (x3 + 1)))) else (spec_TreeOk.l0 k x0 (wrap64 (x3 + 1)))) else (some false))) else (none)) else ((spec_l6Links.f k x0).bind fun t209 => (if t209 = true then ((spec_l6Order.f k x0 0 (([] : List Int))).bind fun t213 => (some ((t213.length : Int) == (x0.length : Int)))) else (some false)))
end
def spec_TreeOk.f (k : Nat) (l0 : List (S70)) : Option (Bool) := (spec_l1In.f (l0.length : Int) 1 3000).bind fun t204 => (if t204 = true then (if 0 < (l0.length : Int) then (spec_TreeOk.j0 k l0 (((rd_T70 l0 0).f0) != 1)) else (none)) else (spec_TreeOk.j0 k l0 true))
theorem spec_TreeOk.mono_l : ∀ k, (∀ y0 y1, LeO (spec_TreeOk.j0 k y0 y1) (spec_TreeOk.j0 (k + 1) y0 y1)) ∧ (∀ y0 y1, LeO (spec_TreeOk.l0 k y0 y1) (spec_TreeOk.l0 (k + 1) y0 y1))
 | 0 => ⟨fun _ _ r h => by simp [spec_TreeOk.j0] at h, fun _ _ r h => by simp [spec_TreeOk.l0] at h⟩
 | k + 1 => by
  obtain ⟨ih0, ih1⟩ := spec_TreeOk.mono_l k
  refine ⟨?_, ?_⟩
  ·intro y0 y1
   unfold spec_TreeOk.j0
   repeat' first
   | (with_reducible exact ih0 _ _)
   | (with_reducible exact ih1 _ _)
   | (with_reducible exact spec_l6Links.mono _ _)
   | (with_reducible exact spec_l6Order.mono _ _ _ _)
   | (with_reducible exact spec_l6Plain.mono _ _ _ _ _ _ _ _)
   | (with_reducible exact LeO.refl _)
   | (with_reducible exact LeO.none _)
   | (with_reducible refine LeO.ite ?_ ?_)
   | (with_reducible refine LeO.bind ?_ (fun _ => ?_))
  ·intro y0 y1
   unfold spec_TreeOk.l0
   repeat' first
   | (with_reducible exact ih0 _ _)
   | (with_reducible exact ih1 _ _)
   | (with_reducible exact spec_l6Links.mono _ _)
   | (with_reducible exact spec_l6Order.mono _ _ _ _)
   | (with_reducible exact spec_l6Plain.mono _ _ _ _ _ _ _ _)
   | (with_reducible exact LeO.refl _)
   | (with_reducible exact LeO.none _)
   | (with_reducible refine LeO.ite ?_ ?_)
   | (with_reducible refine LeO.bind ?_ (fun _ => ?_))
theorem spec_TreeOk.mono : ∀ a0 k, LeO (spec_TreeOk.f k a0) (spec_TreeOk.f (k + 1) a0) := by
 intro a0 k
 obtain ⟨ih0, ih1⟩ := spec_TreeOk.mono_l k
 unfold spec_TreeOk.f
 repeat' first
   | (with_reducible exact ih0 _ _)
   | (with_reducible exact ih1 _ _)
   | (with_reducible exact spec_l6Links.mono _ _)
   | (with_reducible exact spec_l6Order.mono _ _ _ _)
   | (with_reducible exact spec_l6Plain.mono _ _ _ _ _ _ _ _)
   | (with_reducible exact LeO.refl _)
   | (with_reducible exact LeO.none _)
   | (with_reducible refine LeO.ite ?_ ?_)
   | (with_reducible refine LeO.bind ?_ (fun _ => ?_))
set_option maxHeartbeats 8000000 in
set_option maxRecDepth 100000 in
theorem spec_TreeOk.calls (k : Nat) (A0 : Option Addr) (c0 : Nat) (l0 : List (S70)) (r : Bool) (w : World) (hr0 : Kd.C k70 w A0 l0.length l0) (hc0 : l0.length ≤ c0) (h : spec_TreeOk.f k l0 = some r) :
  Calls Try.prog 59 #[.slice A0 l0.length c0] w fun e w' => e = .returned (.bool r) ∧ Below w.heap.size w w' := by
 have hu70 := Try.underlying70
 have HR0 := Aside0.mk hr0
 have HC0 := Aside0.mk hc0
 clear hr0 hc0
 have HB := Aside0.mk (Below.refl w.heap.size w)
 have H : ((spec_l1In.f (l0.length : Int) 1 3000).bind fun t204 => (if t204 = true then (if 0 < (l0.length : Int) then (spec_TreeOk.j0 k l0 (((rd_T70 l0 0).f0) != 1)) else (none)) else (spec_TreeOk.j0 k l0 true))) = some r := h
 clear h
 have HC2 := Aside0.mk H
 clear H
 go_enter Try.func59, Try.ntmps59
 go_upto_region 1 with (fail)
 go_cut [14] (fun v14 wc => ∃ (kq : Nat) (x14_1 : Bool), v14 = .bool x14_1 ∧ Aside0 (spec_TreeOk.j0 kq l0 x14_1 = some r) ∧ Aside0 (kq ≤ k) ∧ Aside0 (Below w.heap.size w wc))
 case first =>
  have H := HC2.out
  clear HC2
  replace H := Option.bind_eq_some_iff.mp H
  obtain ⟨t204, A30, H⟩ := H
  try dsimp only at H
  have A3 := Aside0.mk A30
  clear A30
  by_cases c4 : t204 = true
  ·subst c4
   rw [if_pos rfl] at H
   by_cases c5 : 0 < (l0.length : Int)
   case neg => rw [if_neg c5] at H; exact absurd H (by simp)
   rw [if_pos c5] at H
   have c5b0 := decide_eq_true c5
   have c5b1 : decide (0 < l0.length) = true := decide_eq_true (by omega)
   clear c5
   (first | rw [c5b0] | (simp only [i64_w, i32_w]; rw [c5b0]) | skip)
   (try (generalize hgzc5 : decide (0 < (l0.length : Int)) = bqc5 at *; subst c5b0; have c5b0 := hgzc5; clear hgzc5))
   have H' := Aside0.mk H
   clear H
   go_wp2_with (first | ((with_reducible refine gate_callee (f := 65) rfl ?_); refine goesL_ (some 6) rfl rfl Try.func65 (by kernel_rfl) rfl #[.int .i64 (l0.length : Int), .int .i64 1, .int .i64 3000] rfl ab5 ?_; (with_reducible refine (spec_l1In.calls (l0.length : Int) 1 3000 true _ A3.out).mono ?_); rintro e w' ⟨rfl, ⟨nd, rfl⟩⟩; refine ⟨_, rfl, ?_⟩; have p205 : 0 ≤ (0 : Int) := (by omega); have q205 : 0 < (l0.length : Int) := of_decide_eq_true ab4; obtain ⟨ad205, A205_3, c205_3, A205_6, c205_6, e205, hx205_0, hx205_1, hx205_2, hx205_3, hx205_4, hx205_5, hx205_6, hl205_3, hi205_3, hl205_6, hi205_6⟩ := at_T70 HR0.out 0 p205 q205; cases e205; have qi205 : (0 < l0.length) = True := eq_true (by omega); (try rw [show ((0 : Int)).toNat = 0 from rfl] at hx205_0); (try rw [show 0 * 7 = 0 from rfl] at hx205_0); (try rw [Addr.add_zero'] at hx205_0); (try rw [show ((0 : Int)).toNat = 0 from rfl] at hx205_1); (try rw [show 0 * 7 = 0 from rfl] at hx205_1); (try rw [Addr.add_zero'] at hx205_1); (try rw [show ((0 : Int)).toNat = 0 from rfl] at hx205_2); (try rw [show 0 * 7 = 0 from rfl] at hx205_2); (try rw [Addr.add_zero'] at hx205_2); (try rw [show ((0 : Int)).toNat = 0 from rfl] at hx205_3); (try rw [show 0 * 7 = 0 from rfl] at hx205_3); (try rw [Addr.add_zero'] at hx205_3); (try rw [show ((0 : Int)).toNat = 0 from rfl] at hx205_4); (try rw [show 0 * 7 = 0 from rfl] at hx205_4); (try rw [Addr.add_zero'] at hx205_4); (try rw [show ((0 : Int)).toNat = 0 from rfl] at hx205_5); (try rw [show 0 * 7 = 0 from rfl] at hx205_5); (try rw [Addr.add_zero'] at hx205_5); (try rw [show ((0 : Int)).toNat = 0 from rfl] at hx205_6); (try rw [show 0 * 7 = 0 from rfl] at hx205_6); (try rw [Addr.add_zero'] at hx205_6); replace hx205_0 := pw_cell_below HB.out hx205_0; replace hx205_1 := pw_cell_below HB.out hx205_1; replace hx205_2 := pw_cell_below HB.out hx205_2; replace hx205_3 := pw_cell_below HB.out hx205_3; replace hx205_4 := pw_cell_below HB.out hx205_4; replace hx205_5 := pw_cell_below HB.out hx205_5; replace hx205_6 := pw_cell_below HB.out hx205_6; have HR205_3 := Aside0.mk hi205_3; have HC205_3 := Aside0.mk hl205_3; clear hi205_3 hl205_3; have HR205_6 := Aside0.mk hi205_6; have HC205_6 := Aside0.mk hl205_6; clear hi205_6 hl205_6; replace p205 := eq_true p205; replace q205 := eq_true q205))
   go_meet
   case rel => exact ⟨_, ((((rd_T70 l0 0).f0) != 1)), ab6, (by first | exact H' | (have h_ := H'.out; rw [c5b0] at h_; exact ⟨h_⟩)), ⟨by first | omega | exact Nat.le_refl _⟩, ⟨ab1⟩⟩
  ·replace c4 := Bool.eq_false_iff.mpr c4
   subst c4
   rw [if_neg (show ¬ (false = true) by decide)] at H
   have H' := Aside0.mk H
   clear H
   go_wp2_with (first | ((with_reducible refine gate_callee (f := 65) rfl ?_); refine goesL_ (some 6) rfl rfl Try.func65 (by kernel_rfl) rfl #[.int .i64 (l0.length : Int), .int .i64 1, .int .i64 3000] rfl ab5 ?_; (with_reducible refine (spec_l1In.calls (l0.length : Int) 1 3000 false _ A3.out).mono ?_); rintro e w' ⟨rfl, ⟨nd, rfl⟩⟩; refine ⟨_, rfl, ?_⟩))
   go_meet
   case rel => exact ⟨_, (true), ab6, H', ⟨by first | omega | exact Nat.le_refl _⟩, ⟨ab1⟩⟩
 case rest =>
  clear HC2
  (try clear c2); (try clear p2); (try clear q2); (try clear hx2); (try clear qi2); (try clear c4); (try clear c5); (try clear c5b0); (try clear c5b1); (try clear hx205_0); (try clear hx205_1); (try clear hx205_2); (try clear hx205_3); (try clear hx205_4); (try clear hx205_5); (try clear hx205_6); (try clear p205); (try clear q205)
  obtain ⟨kq, x14_1, rfl, HA, HJ1, HB⟩ := hcut
  cases kq with
  | zero => exact absurd HA.out (by simp [spec_TreeOk.j0])
  | succ kj1 =>
   have H := HA.out
   clear HA
   simp only [spec_TreeOk.j0] at H
   by_cases c6 : x14_1 = true
   ·subst c6
    rw [if_pos rfl] at H
    obtain rfl := Option.some.inj H
    go_wp2
    go_ret
    exact ⟨ab7, ab1⟩
   ·replace c6 := Bool.eq_false_iff.mpr c6
    subst c6
    rw [if_neg (show ¬ (false = true) by decide)] at H
    have H' := Aside0.mk H
    clear H
    go_wp2
    go_loopg [3] kj1 (fun kq v3 w' => ∃ (x3_2 : Int), v3 = .int .i64 x3_2 ∧ Aside0 (spec_TreeOk.l0 kq l0 x3_2 = some r) ∧ Aside0 (kq ≤ kj1) ∧ Aside0 (Below w.heap.size w w'))
    case atStart => exact ⟨(0), ab6, H', ⟨Nat.le_refl _⟩, ⟨ab1⟩⟩
    case round =>
     clear H'
     (try clear c2); (try clear p2); (try clear q2); (try clear hx2); (try clear qi2); (try clear c4); (try clear c5); (try clear c5b0); (try clear c5b1); (try clear c6); (try clear hx205_0); (try clear hx205_1); (try clear hx205_2); (try clear hx205_3); (try clear hx205_4); (try clear hx205_5); (try clear hx205_6); (try clear p2); (try clear p205); (try clear q2); (try clear q205)
     obtain ⟨x3_2, rfl, HA, HK2, HB⟩ := hrel
     cases gk with
     | zero => exact absurd HA.out (by simp [spec_TreeOk.l0])
     | succ k2 =>
      have H := HA.out
      clear HA
      simp only [spec_TreeOk.l0] at H
      by_cases c7 : x3_2 < (l0.length : Int)
      ·rw [if_pos c7] at H
       have c7b0 := decide_eq_true c7
       clear c7
       by_cases c8 : 0 ≤ x3_2
       case neg => rw [if_neg c8] at H; exact absurd H (by simp)
       rw [if_pos c8] at H
       have c8b0 := decide_eq_true c8
       clear c8
       replace H := Option.bind_eq_some_iff.mp H
       obtain ⟨t207, A90, H⟩ := H
       try dsimp only at H
       have A9 := Aside0.mk A90
       clear A90
       by_cases c10 : t207 = true
       ·subst c10
        rw [if_pos rfl] at H
        by_cases c11 : x3_2 > 0
        ·rw [if_pos c11] at H
         have c11b0 : decide (0 < x3_2) = true := decide_eq_true c11
         clear c11
         by_cases c12 : ((rd_T70 l0 x3_2).f0) = 1
         ·rw [if_pos c12] at H
          have c12b0 : (((rd_T70 l0 x3_2).f0) == 1) = true := beq_iff_eq.mpr c12
          have c12b1 : (((rd_T70 l0 x3_2).f0) != 1) = false := bne_eq_false_iff_eq.mpr c12
          clear c12
          obtain rfl := Option.some.inj H
          have p206 : 0 ≤ (x3_2 : Int) := of_decide_eq_true ab4
          have q206 : x3_2 < (l0.length : Int) := of_decide_eq_true ab4
          obtain ⟨ad206, A206_3, c206_3, A206_6, c206_6, e206, hx206_0, hx206_1, hx206_2, hx206_3, hx206_4, hx206_5, hx206_6, hl206_3, hi206_3, hl206_6, hi206_6⟩ := at_T70 HR0.out x3_2 p206 q206
          cases e206
          replace hx206_0 := pw_cell_below HB.out hx206_0
          replace hx206_1 := pw_cell_below HB.out hx206_1
          replace hx206_2 := pw_cell_below HB.out hx206_2
          replace hx206_3 := pw_cell_below HB.out hx206_3
          replace hx206_4 := pw_cell_below HB.out hx206_4
          replace hx206_5 := pw_cell_below HB.out hx206_5
          replace hx206_6 := pw_cell_below HB.out hx206_6
          have HR206_3 := Aside0.mk hi206_3
          have HC206_3 := Aside0.mk hl206_3
          clear hi206_3 hl206_3
          have HR206_6 := Aside0.mk hi206_6
          have HC206_6 := Aside0.mk hl206_6
          clear hi206_6 hl206_6
          replace p206 := eq_true p206
          replace q206 := eq_true q206
          go_wp2_with (first | ((with_reducible refine gate_callee (f := 98) rfl ?_); refine goesL_ (some 25) rfl rfl Try.func98 (by kernel_rfl) rfl #[.agg #[.int .i64 ((rd_T70 l0 x3_2).f0), .int .i64 ((rd_T70 l0 x3_2).f1), .string ((rd_T70 l0 x3_2).f2), .slice A206_3 ((rd_T70 l0 x3_2).f3).length c206_3, .string ((rd_T70 l0 x3_2).f4), .int .i64 ((rd_T70 l0 x3_2).f5), .slice A206_6 ((rd_T70 l0 x3_2).f6).length c206_6]] rfl ab5 ?_; (with_reducible refine (spec_l6Plain.calls k2 ((rd_T70 l0 x3_2).f0) ((rd_T70 l0 x3_2).f1) ((rd_T70 l0 x3_2).f2) _ _ ((rd_T70 l0 x3_2).f3) ((rd_T70 l0 x3_2).f4) ((rd_T70 l0 x3_2).f5) _ _ ((rd_T70 l0 x3_2).f6) true _ ?side1 ?side2 ?side3 ?side4 A9.out).mono ?_); (case side1 => repeat (first | exact (Kd.C_below HR206_3.out HB.out) | (with_reducible refine Kd.C_alloc ?_ _) | (with_reducible refine Kd.C_drewN ?_ _) | (with_reducible refine Kd.C_drew ?_))); (case side2 => exact HC206_3.out); (case side3 => repeat (first | exact (Kd.C_below HR206_6.out HB.out) | (with_reducible refine Kd.C_alloc ?_ _) | (with_reducible refine Kd.C_drewN ?_ _) | (with_reducible refine Kd.C_drew ?_))); (case side4 => exact HC206_6.out); rintro e w13 ⟨rfl, hb⟩; refine ⟨_, rfl, ?_⟩; have n0_ := Aside0.mk (below_step ab1 hb); clear HB; have HB := n0_; clear n0_; (try clear hb); (try clear hb2); (try clear hk); (try clear hi); have p208 : 0 ≤ (x3_2 : Int) := of_decide_eq_true ab4; have q208 : x3_2 < (l0.length : Int) := of_decide_eq_true ab4; obtain ⟨ad208, A208_3, c208_3, A208_6, c208_6, e208, hx208_0, hx208_1, hx208_2, hx208_3, hx208_4, hx208_5, hx208_6, hl208_3, hi208_3, hl208_6, hi208_6⟩ := at_T70 HR0.out x3_2 p208 q208; obtain rfl : ad206 = ad208 := (by injection e208); replace hx208_0 := pw_cell_below HB.out hx208_0; replace hx208_1 := pw_cell_below HB.out hx208_1; replace hx208_2 := pw_cell_below HB.out hx208_2; replace hx208_3 := pw_cell_below HB.out hx208_3; replace hx208_4 := pw_cell_below HB.out hx208_4; replace hx208_5 := pw_cell_below HB.out hx208_5; replace hx208_6 := pw_cell_below HB.out hx208_6; have HR208_3 := Aside0.mk hi208_3; have HC208_3 := Aside0.mk hl208_3; clear hi208_3 hl208_3; have HR208_6 := Aside0.mk hi208_6; have HC208_6 := Aside0.mk hl208_6; clear hi208_6 hl208_6; replace p208 := eq_true p208; replace q208 := eq_true q208))
          go_ret
          exact ⟨ab7, ab1⟩
         ·rw [if_neg c12] at H
          have c12b0 : (((rd_T70 l0 x3_2).f0) == 1) = false := beq_eq_false_iff_ne.mpr c12
          have c12b1 : (((rd_T70 l0 x3_2).f0) != 1) = true := bne_iff_ne.mpr c12
          have H' := Aside0.mk H
          clear H
          have p206 : 0 ≤ (x3_2 : Int) := of_decide_eq_true ab4
          have q206 : x3_2 < (l0.length : Int) := of_decide_eq_true ab4
          obtain ⟨ad206, A206_3, c206_3, A206_6, c206_6, e206, hx206_0, hx206_1, hx206_2, hx206_3, hx206_4, hx206_5, hx206_6, hl206_3, hi206_3, hl206_6, hi206_6⟩ := at_T70 HR0.out x3_2 p206 q206
          cases e206
          replace hx206_0 := pw_cell_below HB.out hx206_0
          replace hx206_1 := pw_cell_below HB.out hx206_1
          replace hx206_2 := pw_cell_below HB.out hx206_2
          replace hx206_3 := pw_cell_below HB.out hx206_3
          replace hx206_4 := pw_cell_below HB.out hx206_4
          replace hx206_5 := pw_cell_below HB.out hx206_5
          replace hx206_6 := pw_cell_below HB.out hx206_6
          have HR206_3 := Aside0.mk hi206_3
          have HC206_3 := Aside0.mk hl206_3
          clear hi206_3 hl206_3
          have HR206_6 := Aside0.mk hi206_6
          have HC206_6 := Aside0.mk hl206_6
          clear hi206_6 hl206_6
          replace p206 := eq_true p206
          replace q206 := eq_true q206
          go_wp2_with (first | ((with_reducible refine gate_callee (f := 98) rfl ?_); refine goesL_ (some 25) rfl rfl Try.func98 (by kernel_rfl) rfl #[.agg #[.int .i64 ((rd_T70 l0 x3_2).f0), .int .i64 ((rd_T70 l0 x3_2).f1), .string ((rd_T70 l0 x3_2).f2), .slice A206_3 ((rd_T70 l0 x3_2).f3).length c206_3, .string ((rd_T70 l0 x3_2).f4), .int .i64 ((rd_T70 l0 x3_2).f5), .slice A206_6 ((rd_T70 l0 x3_2).f6).length c206_6]] rfl ab5 ?_; (with_reducible refine (spec_l6Plain.calls k2 ((rd_T70 l0 x3_2).f0) ((rd_T70 l0 x3_2).f1) ((rd_T70 l0 x3_2).f2) _ _ ((rd_T70 l0 x3_2).f3) ((rd_T70 l0 x3_2).f4) ((rd_T70 l0 x3_2).f5) _ _ ((rd_T70 l0 x3_2).f6) true _ ?side1 ?side2 ?side3 ?side4 A9.out).mono ?_); (case side1 => repeat (first | exact (Kd.C_below HR206_3.out HB.out) | (with_reducible refine Kd.C_alloc ?_ _) | (with_reducible refine Kd.C_drewN ?_ _) | (with_reducible refine Kd.C_drew ?_))); (case side2 => exact HC206_3.out); (case side3 => repeat (first | exact (Kd.C_below HR206_6.out HB.out) | (with_reducible refine Kd.C_alloc ?_ _) | (with_reducible refine Kd.C_drewN ?_ _) | (with_reducible refine Kd.C_drew ?_))); (case side4 => exact HC206_6.out); rintro e w14 ⟨rfl, hb⟩; refine ⟨_, rfl, ?_⟩; have n0_ := Aside0.mk (below_step ab1 hb); clear HB; have HB := n0_; clear n0_; (try clear hb); (try clear hb2); (try clear hk); (try clear hi); have p208 : 0 ≤ (x3_2 : Int) := of_decide_eq_true ab4; have q208 : x3_2 < (l0.length : Int) := of_decide_eq_true ab4; obtain ⟨ad208, A208_3, c208_3, A208_6, c208_6, e208, hx208_0, hx208_1, hx208_2, hx208_3, hx208_4, hx208_5, hx208_6, hl208_3, hi208_3, hl208_6, hi208_6⟩ := at_T70 HR0.out x3_2 p208 q208; obtain rfl : ad206 = ad208 := (by injection e208); replace hx208_0 := pw_cell_below HB.out hx208_0; replace hx208_1 := pw_cell_below HB.out hx208_1; replace hx208_2 := pw_cell_below HB.out hx208_2; replace hx208_3 := pw_cell_below HB.out hx208_3; replace hx208_4 := pw_cell_below HB.out hx208_4; replace hx208_5 := pw_cell_below HB.out hx208_5; replace hx208_6 := pw_cell_below HB.out hx208_6; have HR208_3 := Aside0.mk hi208_3; have HC208_3 := Aside0.mk hl208_3; clear hi208_3 hl208_3; have HR208_6 := Aside0.mk hi208_6; have HC208_6 := Aside0.mk hl208_6; clear hi208_6 hl208_6; replace p208 := eq_true p208; replace q208 := eq_true q208))
          go_roundg k2
          case measure => have := HJ1.out; have := HK2.out; omega
          case rel => exact ⟨(wrap64 (x3_2 + 1)), ab6, H', ⟨by have := HJ1.out; have := HK2.out; omega⟩, ⟨ab1⟩⟩
        ·rw [if_neg c11] at H
         have c11b0 : decide (0 < x3_2) = false := decide_eq_false c11
         clear c11
         have H' := Aside0.mk H
         clear H
         have p206 : 0 ≤ (x3_2 : Int) := of_decide_eq_true ab4
         have q206 : x3_2 < (l0.length : Int) := of_decide_eq_true ab4
         obtain ⟨ad206, A206_3, c206_3, A206_6, c206_6, e206, hx206_0, hx206_1, hx206_2, hx206_3, hx206_4, hx206_5, hx206_6, hl206_3, hi206_3, hl206_6, hi206_6⟩ := at_T70 HR0.out x3_2 p206 q206
         cases e206
         replace hx206_0 := pw_cell_below HB.out hx206_0
         replace hx206_1 := pw_cell_below HB.out hx206_1
         replace hx206_2 := pw_cell_below HB.out hx206_2
         replace hx206_3 := pw_cell_below HB.out hx206_3
         replace hx206_4 := pw_cell_below HB.out hx206_4
         replace hx206_5 := pw_cell_below HB.out hx206_5
         replace hx206_6 := pw_cell_below HB.out hx206_6
         have HR206_3 := Aside0.mk hi206_3
         have HC206_3 := Aside0.mk hl206_3
         clear hi206_3 hl206_3
         have HR206_6 := Aside0.mk hi206_6
         have HC206_6 := Aside0.mk hl206_6
         clear hi206_6 hl206_6
         replace p206 := eq_true p206
         replace q206 := eq_true q206
         go_wp2_with (first | ((with_reducible refine gate_callee (f := 98) rfl ?_); refine goesL_ (some 25) rfl rfl Try.func98 (by kernel_rfl) rfl #[.agg #[.int .i64 ((rd_T70 l0 x3_2).f0), .int .i64 ((rd_T70 l0 x3_2).f1), .string ((rd_T70 l0 x3_2).f2), .slice A206_3 ((rd_T70 l0 x3_2).f3).length c206_3, .string ((rd_T70 l0 x3_2).f4), .int .i64 ((rd_T70 l0 x3_2).f5), .slice A206_6 ((rd_T70 l0 x3_2).f6).length c206_6]] rfl ab5 ?_; (with_reducible refine (spec_l6Plain.calls k2 ((rd_T70 l0 x3_2).f0) ((rd_T70 l0 x3_2).f1) ((rd_T70 l0 x3_2).f2) _ _ ((rd_T70 l0 x3_2).f3) ((rd_T70 l0 x3_2).f4) ((rd_T70 l0 x3_2).f5) _ _ ((rd_T70 l0 x3_2).f6) true _ ?side1 ?side2 ?side3 ?side4 A9.out).mono ?_); (case side1 => repeat (first | exact (Kd.C_below HR206_3.out HB.out) | (with_reducible refine Kd.C_alloc ?_ _) | (with_reducible refine Kd.C_drewN ?_ _) | (with_reducible refine Kd.C_drew ?_))); (case side2 => exact HC206_3.out); (case side3 => repeat (first | exact (Kd.C_below HR206_6.out HB.out) | (with_reducible refine Kd.C_alloc ?_ _) | (with_reducible refine Kd.C_drewN ?_ _) | (with_reducible refine Kd.C_drew ?_))); (case side4 => exact HC206_6.out); rintro e w15 ⟨rfl, hb⟩; refine ⟨_, rfl, ?_⟩; have n0_ := Aside0.mk (below_step ab1 hb); clear HB; have HB := n0_; clear n0_; (try clear hb); (try clear hb2); (try clear hk); (try clear hi)))
         go_roundg k2
         case measure => have := HJ1.out; have := HK2.out; omega
         case rel => exact ⟨(wrap64 (x3_2 + 1)), ab6, H', ⟨by have := HJ1.out; have := HK2.out; omega⟩, ⟨ab1⟩⟩
       ·replace c10 := Bool.eq_false_iff.mpr c10
        subst c10
        rw [if_neg (show ¬ (false = true) by decide)] at H
        obtain rfl := Option.some.inj H
        have p206 : 0 ≤ (x3_2 : Int) := of_decide_eq_true ab4
        have q206 : x3_2 < (l0.length : Int) := of_decide_eq_true ab4
        obtain ⟨ad206, A206_3, c206_3, A206_6, c206_6, e206, hx206_0, hx206_1, hx206_2, hx206_3, hx206_4, hx206_5, hx206_6, hl206_3, hi206_3, hl206_6, hi206_6⟩ := at_T70 HR0.out x3_2 p206 q206
        cases e206
        replace hx206_0 := pw_cell_below HB.out hx206_0
        replace hx206_1 := pw_cell_below HB.out hx206_1
        replace hx206_2 := pw_cell_below HB.out hx206_2
        replace hx206_3 := pw_cell_below HB.out hx206_3
        replace hx206_4 := pw_cell_below HB.out hx206_4
        replace hx206_5 := pw_cell_below HB.out hx206_5
        replace hx206_6 := pw_cell_below HB.out hx206_6
        have HR206_3 := Aside0.mk hi206_3
        have HC206_3 := Aside0.mk hl206_3
        clear hi206_3 hl206_3
        have HR206_6 := Aside0.mk hi206_6
        have HC206_6 := Aside0.mk hl206_6
        clear hi206_6 hl206_6
        replace p206 := eq_true p206
        replace q206 := eq_true q206
        go_wp2_with (first | ((with_reducible refine gate_callee (f := 98) rfl ?_); refine goesL_ (some 25) rfl rfl Try.func98 (by kernel_rfl) rfl #[.agg #[.int .i64 ((rd_T70 l0 x3_2).f0), .int .i64 ((rd_T70 l0 x3_2).f1), .string ((rd_T70 l0 x3_2).f2), .slice A206_3 ((rd_T70 l0 x3_2).f3).length c206_3, .string ((rd_T70 l0 x3_2).f4), .int .i64 ((rd_T70 l0 x3_2).f5), .slice A206_6 ((rd_T70 l0 x3_2).f6).length c206_6]] rfl ab5 ?_; (with_reducible refine (spec_l6Plain.calls k2 ((rd_T70 l0 x3_2).f0) ((rd_T70 l0 x3_2).f1) ((rd_T70 l0 x3_2).f2) _ _ ((rd_T70 l0 x3_2).f3) ((rd_T70 l0 x3_2).f4) ((rd_T70 l0 x3_2).f5) _ _ ((rd_T70 l0 x3_2).f6) false _ ?side1 ?side2 ?side3 ?side4 A9.out).mono ?_); (case side1 => repeat (first | exact (Kd.C_below HR206_3.out HB.out) | (with_reducible refine Kd.C_alloc ?_ _) | (with_reducible refine Kd.C_drewN ?_ _) | (with_reducible refine Kd.C_drew ?_))); (case side2 => exact HC206_3.out); (case side3 => repeat (first | exact (Kd.C_below HR206_6.out HB.out) | (with_reducible refine Kd.C_alloc ?_ _) | (with_reducible refine Kd.C_drewN ?_ _) | (with_reducible refine Kd.C_drew ?_))); (case side4 => exact HC206_6.out); rintro e w16 ⟨rfl, hb⟩; refine ⟨_, rfl, ?_⟩; have n0_ := Aside0.mk (below_step ab1 hb); clear HB; have HB := n0_; clear n0_; (try clear hb); (try clear hb2); (try clear hk); (try clear hi)))
        go_ret
        exact ⟨ab7, ab1⟩
      ·rw [if_neg c7] at H
       have c7b0 := decide_eq_false c7
       clear c7
       replace H := Option.bind_eq_some_iff.mp H
       obtain ⟨t209, A170, H⟩ := H
       try dsimp only at H
       have A17 := Aside0.mk A170
       clear A170
       by_cases c18 : t209 = true
       ·subst c18
        rw [if_pos rfl] at H
        obtain ⟨y210, hy210⟩ : ∃ y_ : List Int, y_ = (([] : List Int)) := ⟨_, rfl⟩
        replace H : ((spec_l6Order.f k2 l0 0 y210).bind fun t213 => (some ((t213.length : Int) == (l0.length : Int)))) = some r := by first | (rw [hy210]; with_reducible exact H) | (have H2_ := (Option.bind_some _ _).symm.trans H; rw [hy210]; with_reducible exact H2_) | (have H2_ := (Option.bind_some _ _).symm.trans H; with_reducible exact H2_) | with_reducible exact H | (rw [hy210]; exact H) | exact H
        have Ny210 := Aside0.mk hy210
        clear hy210
        replace H := Option.bind_eq_some_iff.mp H
        obtain ⟨t213, A190, H⟩ := H
        try dsimp only at H
        have A19 := Aside0.mk A190
        clear A190
        obtain rfl := Option.some.inj H
        go_wp2_with (first | ((with_reducible refine gate_callee (f := 99) rfl ?_); refine goesL_ (some 40) rfl rfl Try.func99 (by kernel_rfl) rfl #[.slice A0 l0.length c0] rfl ab5 ?_; (with_reducible refine (spec_l6Links.calls k2 _ _ l0 true _ ?side1 ?side2 A17.out).mono ?_); (case side1 => repeat (first | exact (Kd.C_below HR0.out HB.out) | (with_reducible refine Kd.C_alloc ?_ _) | (with_reducible refine Kd.C_drewN ?_ _) | (with_reducible refine Kd.C_drew ?_))); (case side2 => exact HC0.out); rintro e w' ⟨rfl, ⟨nd, rfl⟩⟩; refine ⟨_, rfl, ?_⟩) | ((with_reducible refine gate_dst (N := 43) rfl ?_); (try (refine gate_guard (by rfl) ?_; dsimp only)); refine Kd.R_lit (Kd.int .i64) _ 3 ?hg (N := 43) ?hd (xs := ([] : List Int)) (inner := []) (ok := fun _ => True) (okp := fun _ => True) ?hr ?hp (fun _ hk => hk) trivial (Below.refl _ _) (Nat.le_refl _) (by simp) ?_; (case hd => rfl); (case hg => rfl); (case hr => first | (go_simp; done) | (go_simp; rfl)); (case hp => exact (Reps.none _ _)); intro v211 w20 ho21 hb hg_ hnew_; clear hg_ hnew_; (first | rw [← Ny210.out] at ho21 | (simp only [Int.reduceToNat] at ho21; rw [← Ny210.out] at ho21)); have n0_ := Aside0.mk (Kd.R_lower ho21 (below_size ab1)); have n1_ := Aside0.mk (below_step ab1 hb); clear HB; have HO212 := n0_; have HB := n1_; clear n0_ n1_; clear hb ho21; obtain ⟨Ao22, co22, eo22⟩ := Kd.R_slice HO212.out; subst eo22) | (go_at_call 100; (with_reducible refine (spec_l6Order.calls k2 _ _ l0 0 (fun k_ => some k_ = (.slice Ao22 y210.length co22 : Value).ownBlock) (.slice Ao22 y210.length co22) y210 t213 w _ ?side1 ?side2 ?side3 ?side4 A19.out).mono ?_); (case side1 => repeat (first | (with_reducible first | exact HB.out | apply below_alloc | apply pw_below_drewN | apply below_drew1) | exact HB.out)); (case side2 => exact Kd.C_kept_came k70_heap HR0.out ab1 (fun k_ hs_ => (fun e_ => Kd.R_base HO212.out k_ e_.symm) hs_)); (case side3 => exact HC0.out); (case side4 => exact Kd.R_tight rfl HO212.out); rintro e w23 ⟨v214, rfl, ho0, hb, hkp⟩; have n0_ := Aside0.mk (Kd.R_mono (ok' := fun k_ => True) ho0 (fun k_ hk_ => trivial)); have n1_ := Aside0.mk (hb); clear HB; clear HO212; have HO215 := n0_; have HB := n1_; clear n0_ n1_; (try clear hb); (try clear hkp); (try clear ho0); obtain ⟨Ao24, co24, eo24⟩ := Kd.R_slice HO215.out; subst eo24))
        go_ret
        exact ⟨ab7, ab1⟩
       ·replace c18 := Bool.eq_false_iff.mpr c18
        subst c18
        rw [if_neg (show ¬ (false = true) by decide)] at H
        obtain rfl := Option.some.inj H
        go_wp2_with (first | ((with_reducible refine gate_callee (f := 99) rfl ?_); refine goesL_ (some 40) rfl rfl Try.func99 (by kernel_rfl) rfl #[.slice A0 l0.length c0] rfl ab5 ?_; (with_reducible refine (spec_l6Links.calls k2 _ _ l0 false _ ?side1 ?side2 A17.out).mono ?_); (case side1 => repeat (first | exact (Kd.C_below HR0.out HB.out) | (with_reducible refine Kd.C_alloc ?_ _) | (with_reducible refine Kd.C_drewN ?_ _) | (with_reducible refine Kd.C_drew ?_))); (case side2 => exact HC0.out); rintro e w' ⟨rfl, ⟨nd, rfl⟩⟩; refine ⟨_, rfl, ?_⟩))
        go_ret
        exact ⟨ab7, ab1⟩

/-! ### spec_Way: function 34 -/
mutual
def spec_Way.j0 : Nat → List (S70) → Int → List Int → Bool → Option (List Int)
 | 0, _, _, _, _ => none
 | k + 1, x0, x1, x5, x18 => if x18 = true then (some x5) else (spec_Way.l0 k x0 x5 x1)
def spec_Way.l0 : Nat → List (S70) → List Int → Int → Option (List Int)
 | 0, _, _, _ => none
 | k + 1, x0, x5, x6 => if x6 ≥ 0 then ((some (([x6] : List Int) : List Int)).bind fun y221 => (if y221.length + x5.length < 17592186044416 then (if 0 ≤ x6 then (if x6 < (x0.length : Int) then (spec_Way.l0 k x0 (y221 ++ x5) ((rd_T70 x0 x6).f5)) else (none)) else (none)) else (none))) else (some x5)
end
def spec_Way.f (k : Nat) (l0 : List (S70)) (a1 : Int) : Option (List Int) := (some (([] : List Int) : List Int)).bind fun y216 => ((spec_TreeOk.f k l0).bind fun t219 => (if t219 = true then ((spec_l1In.f a1 0 (wrap64 ((l0.length : Int) - 1))).bind fun t220 => (spec_Way.j0 k l0 a1 y216 (!t220))) else (spec_Way.j0 k l0 a1 y216 true)))
theorem spec_Way.mono_l : ∀ k, (∀ y0 y1 y2 y3, LeO (spec_Way.j0 k y0 y1 y2 y3) (spec_Way.j0 (k + 1) y0 y1 y2 y3)) ∧ (∀ y0 y1 y2, LeO (spec_Way.l0 k y0 y1 y2) (spec_Way.l0 (k + 1) y0 y1 y2))
 | 0 => ⟨fun _ _ _ _ r h => by simp [spec_Way.j0] at h, fun _ _ _ r h => by simp [spec_Way.l0] at h⟩
 | k + 1 => by
  obtain ⟨ih0, ih1⟩ := spec_Way.mono_l k
  refine ⟨?_, ?_⟩
  ·intro y0 y1 y2 y3
   unfold spec_Way.j0
   repeat' first
   | (with_reducible exact ih0 _ _ _ _)
   | (with_reducible exact ih1 _ _ _)
   | (with_reducible exact spec_TreeOk.mono _ _)
   | (with_reducible exact LeO.refl _)
   | (with_reducible exact LeO.none _)
   | (with_reducible refine LeO.ite ?_ ?_)
   | (with_reducible refine LeO.bind ?_ (fun _ => ?_))
  ·intro y0 y1 y2
   unfold spec_Way.l0
   repeat' first
   | (with_reducible exact ih0 _ _ _ _)
   | (with_reducible exact ih1 _ _ _)
   | (with_reducible exact spec_TreeOk.mono _ _)
   | (with_reducible exact LeO.refl _)
   | (with_reducible exact LeO.none _)
   | (with_reducible refine LeO.ite ?_ ?_)
   | (with_reducible refine LeO.bind ?_ (fun _ => ?_))
theorem spec_Way.mono : ∀ a0 a1 k, LeO (spec_Way.f k a0 a1) (spec_Way.f (k + 1) a0 a1) := by
 intro a0 a1 k
 obtain ⟨ih0, ih1⟩ := spec_Way.mono_l k
 unfold spec_Way.f
 repeat' first
   | (with_reducible exact ih0 _ _ _ _)
   | (with_reducible exact ih1 _ _ _)
   | (with_reducible exact spec_TreeOk.mono _ _)
   | (with_reducible exact LeO.refl _)
   | (with_reducible exact LeO.none _)
   | (with_reducible refine LeO.ite ?_ ?_)
   | (with_reducible refine LeO.bind ?_ (fun _ => ?_))
set_option maxHeartbeats 8000000 in
set_option maxRecDepth 100000 in
theorem spec_Way.calls (k : Nat) (A0 : Option Addr) (c0 : Nat) (l0 : List (S70)) (a1 : Int) (r : List Int) (w : World) (hr0 : Kd.C k70 w A0 l0.length l0) (hc0 : l0.length ≤ c0) (h : spec_Way.f k l0 a1 = some r) :
  Calls Try.prog 34 #[.slice A0 l0.length c0, .int .i64 a1] w fun e w' => ∃ v0_ : Value, e = .returned (v0_) ∧ Kd.R (Kd.int .i64) 3 w' w.heap.size (fun _ => True) v0_ r ∧ Below w.heap.size w w' := by
 have HR0 := Aside0.mk hr0
 have HC0 := Aside0.mk hc0
 clear hr0 hc0
 have HB := Aside0.mk (Below.refl w.heap.size w)
 have H : ((some (([] : List Int) : List Int)).bind fun y216 => ((spec_TreeOk.f k l0).bind fun t219 => (if t219 = true then ((spec_l1In.f a1 0 (wrap64 ((l0.length : Int) - 1))).bind fun t220 => (spec_Way.j0 k l0 a1 y216 (!t220))) else (spec_Way.j0 k l0 a1 y216 true)))) = some r := h
 clear h
 obtain ⟨y216, hy216⟩ : ∃ y_ : List Int, y_ = (([] : List Int)) := ⟨_, rfl⟩
 replace H : ((spec_TreeOk.f k l0).bind fun t219 => (if t219 = true then ((spec_l1In.f a1 0 (wrap64 ((l0.length : Int) - 1))).bind fun t220 => (spec_Way.j0 k l0 a1 y216 (!t220))) else (spec_Way.j0 k l0 a1 y216 true))) = some r := by first | (rw [hy216]; with_reducible exact H) | (have H2_ := (Option.bind_some _ _).symm.trans H; rw [hy216]; with_reducible exact H2_) | (have H2_ := (Option.bind_some _ _).symm.trans H; with_reducible exact H2_) | with_reducible exact H | (rw [hy216]; exact H) | exact H
 have Ny216 := Aside0.mk hy216
 clear hy216
 have HC3 := Aside0.mk H
 clear H
 go_enter Try.func34, Try.ntmps34
 go_upto_region 2 with (first | ((with_reducible refine gate_dst (N := 7) rfl ?_); (try (refine gate_guard (by rfl) ?_; dsimp only)); refine Kd.R_lit (Kd.int .i64) _ 3 ?hg (N := 7) ?hd (xs := ([] : List Int)) (inner := []) (ok := fun _ => True) (okp := fun _ => True) ?hr ?hp (fun _ hk => hk) trivial (Below.refl _ _) (Nat.le_refl _) (by simp) ?_; (case hd => rfl); (case hg => rfl); (case hr => first | (go_simp; done) | (go_simp; rfl)); (case hp => exact (Reps.none _ _)); intro v217 w4 ho5 hb hg_ hnew_; clear hg_ hnew_; (first | rw [← Ny216.out] at ho5 | (simp only [Int.reduceToNat] at ho5; rw [← Ny216.out] at ho5)); have n0_ := Aside0.mk (Kd.R_lower ho5 (below_size ab1)); have n1_ := Aside0.mk (below_step ab1 hb); clear HB; have HO218 := n0_; have HB := n1_; clear n0_ n1_; clear hb ho5))
 (try simp only [Act.put, List.setIfInBounds_toArray, List.set_cons_zero, List.set_cons_succ])
 go_cut [18] (fun v18 wc => ∃ (kq : Nat) (x18_2 : Bool), v18 = .bool x18_2 ∧ Aside0 (spec_Way.j0 kq l0 a1 y216 x18_2 = some r) ∧ Aside0 (kq ≤ k) ∧ Aside0 (Kd.R (Kd.int .i64) 3 wc w.heap.size (fun _ => True) v217 y216) ∧ Aside0 (Below w.heap.size w wc))
 case first =>
  have H := HC3.out
  clear HC3
  replace H := Option.bind_eq_some_iff.mp H
  obtain ⟨t219, A60, H⟩ := H
  try dsimp only at H
  have A6 := Aside0.mk A60
  clear A60
  by_cases c7 : t219 = true
  ·subst c7
   rw [if_pos rfl] at H
   replace H := Option.bind_eq_some_iff.mp H
   obtain ⟨t220, A80, H⟩ := H
   try dsimp only at H
   have A8 := Aside0.mk A80
   clear A80
   have H' := Aside0.mk H
   clear H
   go_wp2_with (first | ((with_reducible refine gate_callee (f := 59) rfl ?_); refine goesL_ (some 9) rfl rfl Try.func59 (by kernel_rfl) rfl #[.slice A0 l0.length c0] rfl ab5 ?_; (with_reducible refine (spec_TreeOk.calls k _ _ l0 true _ ?side1 ?side2 A6.out).mono ?_); (case side1 => repeat (first | exact (Kd.C_below HR0.out HB.out) | (with_reducible refine Kd.C_alloc ?_ _) | (with_reducible refine Kd.C_drewN ?_ _) | (with_reducible refine Kd.C_drew ?_))); (case side2 => exact HC0.out); rintro e w9 ⟨rfl, hb⟩; refine ⟨_, rfl, ?_⟩; have n0_ := Aside0.mk (Kd.R_below (ab8 HO218) hb); have n1_ := Aside0.mk (below_step ab1 hb); clear HO218; clear HB; have HO218 := n0_; have HB := n1_; clear n0_ n1_; (try clear hb); (try clear hb2); (try clear hk); (try clear hi)) | (go_at_call 65; (with_reducible refine (spec_l1In.calls a1 0 (wrap64 ((l0.length : Int) - 1)) t220 _ A8.out).mono ?_); rintro e w' ⟨rfl, ⟨nd, rfl⟩⟩))
   go_meet
   case rel => exact ⟨_, (!t220), ab6, H', ⟨by first | omega | exact Nat.le_refl _⟩, ⟨ab8 HO218⟩, ⟨ab1⟩⟩
  ·replace c7 := Bool.eq_false_iff.mpr c7
   subst c7
   rw [if_neg (show ¬ (false = true) by decide)] at H
   have H' := Aside0.mk H
   clear H
   go_wp2_with (first | ((with_reducible refine gate_callee (f := 59) rfl ?_); refine goesL_ (some 9) rfl rfl Try.func59 (by kernel_rfl) rfl #[.slice A0 l0.length c0] rfl ab5 ?_; (with_reducible refine (spec_TreeOk.calls k _ _ l0 false _ ?side1 ?side2 A6.out).mono ?_); (case side1 => repeat (first | exact (Kd.C_below HR0.out HB.out) | (with_reducible refine Kd.C_alloc ?_ _) | (with_reducible refine Kd.C_drewN ?_ _) | (with_reducible refine Kd.C_drew ?_))); (case side2 => exact HC0.out); rintro e w10 ⟨rfl, hb⟩; refine ⟨_, rfl, ?_⟩; have n0_ := Aside0.mk (Kd.R_below (ab8 HO218) hb); have n1_ := Aside0.mk (below_step ab1 hb); clear HO218; clear HB; have HO218 := n0_; have HB := n1_; clear n0_ n1_; (try clear hb); (try clear hb2); (try clear hk); (try clear hi)))
   go_meet
   case rel => exact ⟨_, (true), ab6, H', ⟨by first | omega | exact Nat.le_refl _⟩, ⟨ab8 HO218⟩, ⟨ab1⟩⟩
 case rest =>
  clear HC3
  (try clear p2); (try clear c3); (try clear c5); (try clear p6); (try clear c7)
  obtain ⟨kq, x18_2, rfl, HA, HJ2, HO_5, HB⟩ := hcut
  cases kq with
  | zero => exact absurd HA.out (by simp [spec_Way.j0])
  | succ kj2 =>
   have H := HA.out
   clear HA
   simp only [spec_Way.j0] at H
   by_cases c11 : x18_2 = true
   ·subst c11
    rw [if_pos rfl] at H
    obtain rfl := Option.some.inj H
    go_wp2
    go_ret
    exact ⟨_, ab7, ab8 HO_5, ab1⟩
   ·replace c11 := Bool.eq_false_iff.mpr c11
    subst c11
    rw [if_neg (show ¬ (false = true) by decide)] at H
    have H' := Aside0.mk H
    clear H
    go_wp2
    go_loopg [5, 6] kj2 (fun kq v5 v6 w' => ∃ (x5_2 : List Int) (x6_2 : Int), v6 = .int .i64 x6_2 ∧ Aside0 (spec_Way.l0 kq l0 x5_2 x6_2 = some r) ∧ Aside0 (kq ≤ kj2) ∧ Aside0 (Kd.R (Kd.int .i64) 3 w' w.heap.size (fun _ => True) v5 x5_2) ∧ Aside0 (Below w.heap.size w w'))
    case atStart => exact ⟨(y216), (a1), ab6, H', ⟨Nat.le_refl _⟩, ⟨ab8 HO_5⟩, ⟨ab1⟩⟩
    case round =>
     clear H'
     (try clear c1); (try clear p2); (try clear c3); (try clear c5); (try clear p6); (try clear c7); (try clear c11); (try clear p2); (try clear p6)
     obtain ⟨x5_2, x6_2, rfl, HA, HK2, HO_5, HB⟩ := hrel
     cases gk with
     | zero => exact absurd HA.out (by simp [spec_Way.l0])
     | succ k2 =>
      have H := HA.out
      clear HA
      simp only [spec_Way.l0] at H
      by_cases c12 : x6_2 ≥ 0
      ·rw [if_pos c12] at H
       have c12b0 : decide (0 ≤ x6_2) = true := decide_eq_true c12
       clear c12
       obtain ⟨y221, hy221⟩ : ∃ y_ : List Int, y_ = (([x6_2] : List Int)) := ⟨_, rfl⟩
       replace H : (if y221.length + x5_2.length < 17592186044416 then (if 0 ≤ x6_2 then (if x6_2 < (l0.length : Int) then (spec_Way.l0 k2 l0 (y221 ++ x5_2) ((rd_T70 l0 x6_2).f5)) else (none)) else (none)) else (none)) = some r := by first | (rw [hy221]; with_reducible exact H) | (have H2_ := (Option.bind_some _ _).symm.trans H; rw [hy221]; with_reducible exact H2_) | (have H2_ := (Option.bind_some _ _).symm.trans H; with_reducible exact H2_) | with_reducible exact H | (rw [hy221]; exact H) | exact H
       have Ny221 := Aside0.mk hy221
       clear hy221
       by_cases c13 : y221.length + x5_2.length < 17592186044416
       case neg => rw [if_neg c13] at H; exact absurd H (by simp)
       rw [if_pos c13] at H
       have LMc13 := Aside0.mk c13
       clear c13
       obtain ⟨y224, hy224⟩ : ∃ y_ : List Int, y_ = (y221 ++ x5_2) := ⟨_, rfl⟩
       replace H : (if 0 ≤ x6_2 then (if x6_2 < (l0.length : Int) then (spec_Way.l0 k2 l0 y224 ((rd_T70 l0 x6_2).f5)) else (none)) else (none)) = some r := by first | (rw [hy224]; with_reducible exact H) | (have H2_ := (Option.bind_some _ _).symm.trans H; rw [hy224]; with_reducible exact H2_) | (have H2_ := (Option.bind_some _ _).symm.trans H; with_reducible exact H2_) | with_reducible exact H | (rw [hy224]; exact H) | exact H
       have Ny224 := Aside0.mk hy224
       clear hy224
       by_cases c14 : 0 ≤ x6_2
       case neg => rw [if_neg c14] at H; exact absurd H (by simp)
       rw [if_pos c14] at H
       have c14b0 := decide_eq_true c14
       clear c14
       by_cases c15 : x6_2 < (l0.length : Int)
       case neg => rw [if_neg c15] at H; exact absurd H (by simp)
       rw [if_pos c15] at H
       have c15b0 := decide_eq_true c15
       clear c15
       have H' := Aside0.mk H
       clear H
       go_wp2_with (first | ((with_reducible refine gate_dst (N := 29) rfl ?_); (try (refine gate_guard (by rfl) ?_; dsimp only)); refine Kd.R_lit (Kd.int .i64) _ 3 ?hg (N := 29) ?hd (xs := ([x6_2] : List Int)) (inner := [.int .i64 x6_2]) (ok := fun _ => True) (okp := fun _ => True) ?hr ?hp (fun _ hk => hk) trivial (Below.refl _ _) (Nat.le_refl _) (by simp) ?_; (case hd => rfl); (case hg => rfl); (case hr => first | (go_simp; done) | (go_simp; rfl)); (case hp => exact (Reps.one (show Kd.M (Kd.int .i64) _ _ _ x6_2 [.int .i64 x6_2] from rfl) (Reps.none _ _))); intro v222 w16 ho17 hb hg_ hnew_; clear hg_ hnew_; (first | rw [← Ny221.out] at ho17 | (simp only [Int.reduceToNat] at ho17; rw [← Ny221.out] at ho17)); have n0_ := Aside0.mk (Kd.R_elder' (ab8 HO_5) (Kd.R_base ho17) hb); have n1_ := Aside0.mk (Kd.R_lower (Kd.R_new' ho17 (Kd.R_lt (ab8 HO_5))) (below_size ab1)); have n2_ := Aside0.mk (below_step ab1 hb); clear HO_5; clear HB; have HO_5 := n0_; have HO223 := n1_; have HB := n2_; clear n0_ n1_ n2_; clear hb ho17; obtain ⟨Ao19, co19, eo19⟩ := Kd.R_slice HO_5.out; subst eo19) | ((with_reducible refine gate_builtin (b := .append) (xs := #[.tmp 29, .tmp 30]) rfl ?_); (try (refine gate_guard (by rfl) ?_; dsimp only)); at_builtin; refine Kd.R_append_rows (Kd.int .i64) (w0 := w) w.heap.size rfl (.tmp 29) (.tmp 30) 36 3 (.int .i64 0) 8 rfl Try.underlying36 info3 rfl (by decide) (by omega) v222 y221 x5_2 _ _ _ (fun k_ => some k_ ≠ (.slice Ao19 x5_2.length co19 : Value).ownBlock) (fun _ => False) rfl rfl ?aO ?aR (fun _ _ h => h) (fun _ h => h.elim) ?aF ?aB ?aS ?aL ?_; (case aR => repeat (first | exact (Kd.R_reads' HO_5.out).2.2 | (with_reducible refine Kd.C_alloc ?_ _) | (with_reducible refine Kd.C_drewN ?_ _) | (with_reducible refine Kd.C_drew ?_))); (case aB => exact ab1); (case aF => exact (fun k_ hk => Kd.fresh' (Kd.R_lt (ab8 HO_5)) k_ hk)); (case aO => exact (by (with_reducible repeat (first | apply Kd.R_alloc | apply Kd.R_drewN | apply Kd.R_drew)); exact Kd.R_mono HO223.out (fun _ hk => hk.2))); (case aS => exact (below_size ab1)); (case aL => have := LMc13.out; omega); intro v225 w18 ho hb hg hat; rw [← Ny224.out] at ho; have n0_ := Aside0.mk (Kd.R_after (ok := (fun _ => True)) (ab8 HO_5) hg hat); have n1_ := Aside0.mk (hb); have n2_ := Aside0.mk (ho); clear HO_5; clear HB; clear HO223; have HO_5 := n0_; have HB := n1_; have HO226 := n2_; clear n0_ n1_ n2_; clear ho hb hg hat; have p227 : 0 ≤ (x6_2 : Int) := of_decide_eq_true ab4; have q227 : x6_2 < (l0.length : Int) := of_decide_eq_true ab4; obtain ⟨ad227, A227_3, c227_3, A227_6, c227_6, e227, hx227_0, hx227_1, hx227_2, hx227_3, hx227_4, hx227_5, hx227_6, hl227_3, hi227_3, hl227_6, hi227_6⟩ := at_T70 HR0.out x6_2 p227 q227; cases e227; replace hx227_0 := pw_cell_below HB.out hx227_0; replace hx227_1 := pw_cell_below HB.out hx227_1; replace hx227_2 := pw_cell_below HB.out hx227_2; replace hx227_3 := pw_cell_below HB.out hx227_3; replace hx227_4 := pw_cell_below HB.out hx227_4; replace hx227_5 := pw_cell_below HB.out hx227_5; replace hx227_6 := pw_cell_below HB.out hx227_6; have HR227_3 := Aside0.mk hi227_3; have HC227_3 := Aside0.mk hl227_3; clear hi227_3 hl227_3; have HR227_6 := Aside0.mk hi227_6; have HC227_6 := Aside0.mk hl227_6; clear hi227_6 hl227_6; replace p227 := eq_true p227; replace q227 := eq_true q227))
       go_roundg k2
       case measure => have := HJ2.out; have := HK2.out; omega
       case rel => exact ⟨(y224), ((rd_T70 l0 x6_2).f5), ab6, H', ⟨by have := HJ2.out; have := HK2.out; omega⟩, ⟨by (with_reducible repeat (first | apply Kd.R_alloc | apply Kd.R_drewN | apply Kd.R_drew)); exact Kd.R_mono HO226.out (fun _ hk => trivial)⟩, ⟨ab1⟩⟩
      ·rw [if_neg c12] at H
       have c12b0 : decide (0 ≤ x6_2) = false := decide_eq_false c12
       clear c12
       obtain rfl := Option.some.inj H
       go_wp2
       go_ret
       exact ⟨_, ab7, ab8 HO_5, ab1⟩

/-! ### impl_inRange: function 67 -/
def impl_inRange.f (a0 : Int) (a1 : Int) (a2 : Int) : Option (Bool) := if a0 ≥ a1 then (some (decide (a0 ≤ a2))) else (some false)
set_option maxHeartbeats 8000000 in
set_option maxRecDepth 100000 in
theorem impl_inRange.calls (a0 : Int) (a1 : Int) (a2 : Int) (r : Bool) (w : World) (h : impl_inRange.f a0 a1 a2 = some r) :
  Calls Try.prog 67 #[.int .i64 a0, .int .i64 a1, .int .i64 a2] w fun e w' => e = .returned (.bool r) ∧ Drawn0 w w' := by
 have H : (if a0 ≥ a1 then (some (decide (a0 ≤ a2))) else (some false)) = some r := h
 clear h
 by_cases c4 : a0 ≥ a1
 ·rw [if_pos c4] at H
  have c4b0 : decide (a1 ≤ a0) = true := decide_eq_true c4
  clear c4
  obtain rfl := Option.some.inj H
  go_enter Try.func67, Try.ntmps67
  go_wp2
  go_ret
  exact ⟨ab6, by repeat (first | exact Drawn0.refl _ | apply Drawn0.step)⟩
 ·rw [if_neg c4] at H
  have c4b0 : decide (a1 ≤ a0) = false := decide_eq_false c4
  clear c4
  obtain rfl := Option.some.inj H
  go_enter Try.func67, Try.ntmps67
  go_wp2
  go_ret
  exact ⟨ab6, by repeat (first | exact Drawn0.refl _ | apply Drawn0.step)⟩

end Go.Proofs.Ytfjheckgigppiaa.P
