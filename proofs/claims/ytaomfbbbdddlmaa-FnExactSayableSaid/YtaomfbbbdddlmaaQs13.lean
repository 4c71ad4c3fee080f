-- WRITTEN BY hprint.py, this session's own program, over the kit's printer: not typed by hand; Lean checks it
import Derived.Test.YtaomfbbbdddlmaaQs0
import Derived.Test.YtaomfbbbdddlmaaQs6
import Derived.Test.YtaomfbbbdddlmaaQs11
import Derived.Test.YtaomfbbbdddlmaaQs12
namespace Go.Proofs.Ytaomfbbbdddlmaa.P
open Go.RowKit Go.Proofs.YtaomfbbbdddlmaaW.PrintWords Go.Proofs.YtaomfbbbdddlmaaW.PrintLast Go.Proofs.YtaomfbbbdddlmaaW.PrintMore
attribute [local go_sem] max2_int min2_int max_two min_two max_three min_three max_four min_four   -- for this text's walks alone
set_option linter.unusedVariables false
set_option linter.unusedSimpArgs false

/-! ### spec_Sayable: function 34 -/
mutual
def spec_Sayable.l0 : Nat → List (S72) → Int → Option (Bool)
 | 0, _, _ => none
 | k + 1, x0, x3 => if x3 < (x0.length : Int) then (if 0 ≤ x3 then (if ((rd_T72 x0 x3).f0) = 4 then ((spec_l5Token.f k 4 (⟨#[]⟩ : ByteArray) ([] : List (S62)) ((rd_T72 x0 x3).f4) false).bind fun t278 => (if t278 = true then (if ((rd_T72 x0 x3).f0) = 5 then (none) else (spec_Sayable.j1 k x0 x3 false ((rd_T72 x0 x3).f0) ((rd_T72 x0 x3).f1) ((rd_T72 x0 x3).f2) ((rd_T72 x0 x3).f3) ((rd_T72 x0 x3).f4) ((rd_T72 x0 x3).f5) ((rd_T72 x0 x3).f6))) else (spec_Sayable.j1 k x0 x3 true ((rd_T72 x0 x3).f0) ((rd_T72 x0 x3).f1) ((rd_T72 x0 x3).f2) ((rd_T72 x0 x3).f3) ((rd_T72 x0 x3).f4) ((rd_T72 x0 x3).f5) ((rd_T72 x0 x3).f6)))) else (if ((rd_T72 x0 x3).f0) = 5 then ((spec_l5Token.f k 5 (⟨#[]⟩ : ByteArray) ([] : List (S62)) ((rd_T72 x0 x3).f4) false).bind fun t279 => (spec_Sayable.j1 k x0 x3 (!t279) ((rd_T72 x0 x3).f0) ((rd_T72 x0 x3).f1) ((rd_T72 x0 x3).f2) ((rd_T72 x0 x3).f3) ((rd_T72 x0 x3).f4) ((rd_T72 x0 x3).f5) ((rd_T72 x0 x3).f6))) else (spec_Sayable.j1 k x0 x3 false ((rd_T72 x0 x3).f0) ((rd_T72 x0 x3).f1) ((rd_T72 x0 x3).f2) ((rd_T72 x0 x3).f3) ((rd_T72 x0 x3).f4) ((rd_T72 x0 x3).f5) ((rd_T72 x0 x3).f6)))) else (none)) else (some true)
def spec_Sayable.j1 : Nat → List (S72) → Int → Bool → Int → Int → ByteArray → List (S62) → ByteArray → Int → List Int → Option (Bool)
 | 0, _, _, _, _, _, _, _, _, _, _ => none
 | k + 1, x0, x3, x40, x278000, x278001, x278002, x278003, x278004, x278005, x278006 => if x40 = true then (some false) else (if x278000 = 2 then ((spec_Raw.f x278002).bind fun t280 => (if t280 = true then (spec_Sayable.j2 k x0 x3 ((x278006.length : Int) == 0) x278000 x278001 x278002 x278003 x278004 x278005 x278006) else (spec_Sayable.j2 k x0 x3 true x278000 x278001 x278002 x278003 x278004 x278005 x278006))) else (spec_Sayable.j2 k x0 x3 true x278000 x278001 x278002 x278003 x278004 x278005 x278006))
def spec_Sayable.j2 : Nat → List (S72) → Int → Bool → Int → Int → ByteArray → List (S62) → ByteArray → Int → List Int → Option (Bool)
 | 0, _, _, _, _, _, _, _, _, _, _ => none
 | k + 1, x0, x3, x55, x278000, x278001, x278002, x278003, x278004, x278005, x278006 => if x55 = true then (spec_Sayable.l0 k x0 (wrap64 (x3 + 1))) else (if 0 < (x278006.length : Int) then (if 0 ≤ (rd x278006 0) then (if (rd x278006 0) < (x0.length : Int) then (if (x278006.length : Int) > 1 then (some false) else (if ((rd_T72 x0 (rd x278006 0)).f0) = 3 then (if x278002.toList = ([115, 99, 114, 105, 112, 116] : List UInt8) then (if ((rd_T72 x0 (rd x278006 0)).f4).size + 2 ≤ 9223372036854775807 then (if (((rd_T72 x0 (rd x278006 0)).f4) ++ (⟨#[60, 47]⟩ : ByteArray)).size + x278002.size ≤ 9223372036854775807 then (if ((((rd_T72 x0 (rd x278006 0)).f4) ++ (⟨#[60, 47]⟩ : ByteArray)) ++ x278002).size + 1 ≤ 9223372036854775807 then ((spec_RawEnd.f k (((((rd_T72 x0 (rd x278006 0)).f4) ++ (⟨#[60, 47]⟩ : ByteArray)) ++ x278002) ++ (⟨#[62]⟩ : ByteArray)) 0 x278002).bind fun t285 => (if t285 = (((rd_T72 x0 (rd x278006 0)).f4).size : Int) then (spec_Sayable.l0 k x0 (wrap64 (x3 + 1))) else (some false))) else (none)) else (none)) else (none)) else (if x278002.toList = ([115, 116, 121, 108, 101] : List UInt8) then (if ((rd_T72 x0 (rd x278006 0)).f4).size + 2 ≤ 9223372036854775807 then (if (((rd_T72 x0 (rd x278006 0)).f4) ++ (⟨#[60, 47]⟩ : ByteArray)).size + x278002.size ≤ 9223372036854775807 then (if ((((rd_T72 x0 (rd x278006 0)).f4) ++ (⟨#[60, 47]⟩ : ByteArray)) ++ x278002).size + 1 ≤ 9223372036854775807 then ((spec_RawEnd.f k (((((rd_T72 x0 (rd x278006 0)).f4) ++ (⟨#[60, 47]⟩ : ByteArray)) ++ x278002) ++ (⟨#[62]⟩ : ByteArray)) 0 x278002).bind fun t286 => (if t286 = (((rd_T72 x0 (rd x278006 0)).f4).size : Int) then (spec_Sayable.l0 k x0 (wrap64 (x3 + 1))) else (some false))) else (none)) else (none)) else (none)) else (spec_Sayable.l0 k x0 (wrap64 (x3 + 1))))) else (some false))) else (none)) else (none)) else (none))
end
def spec_Sayable.f (k : Nat) (l0 : List (S72)) : Option (Bool) := (spec_TreeOk.f k l0).bind fun t275 => (if t275 = true then (spec_Sayable.l0 k l0 0) else (some false))
theorem spec_Sayable.mono_l : ∀ k, (∀ y0 y1, LeO (spec_Sayable.l0 k y0 y1) (spec_Sayable.l0 (k + 1) y0 y1)) ∧ (∀ y0 y1 y2 y3 y4 y5 y6 y7 y8 y9, LeO (spec_Sayable.j1 k y0 y1 y2 y3 y4 y5 y6 y7 y8 y9) (spec_Sayable.j1 (k + 1) y0 y1 y2 y3 y4 y5 y6 y7 y8 y9)) ∧ (∀ y0 y1 y2 y3 y4 y5 y6 y7 y8 y9, LeO (spec_Sayable.j2 k y0 y1 y2 y3 y4 y5 y6 y7 y8 y9) (spec_Sayable.j2 (k + 1) y0 y1 y2 y3 y4 y5 y6 y7 y8 y9))
 | 0 => ⟨fun _ _ r h => by simp [spec_Sayable.l0] at h, fun _ _ _ _ _ _ _ _ _ _ r h => by simp [spec_Sayable.j1] at h, fun _ _ _ _ _ _ _ _ _ _ r h => by simp [spec_Sayable.j2] at h⟩
 | k + 1 => by
  obtain ⟨ih0, ih1, ih2⟩ := spec_Sayable.mono_l k
  refine ⟨?_, ?_, ?_⟩
  ·intro y0 y1
   unfold spec_Sayable.l0
   repeat' first
   | (with_reducible exact ih0 _ _)
   | (with_reducible exact ih1 _ _ _ _ _ _ _ _ _ _)
   | (with_reducible exact ih2 _ _ _ _ _ _ _ _ _ _)
   | (with_reducible exact spec_RawEnd.mono _ _ _ _)
   | (with_reducible exact spec_TreeOk.mono _ _)
   | (with_reducible exact spec_l5Token.mono _ _ _ _ _ _)
   | (with_reducible exact LeO.refl _)
   | (with_reducible exact LeO.none _)
   | (with_reducible refine LeO.ite ?_ ?_)
   | (with_reducible refine LeO.bind ?_ (fun _ => ?_))
  ·intro y0 y1 y2 y3 y4 y5 y6 y7 y8 y9
   unfold spec_Sayable.j1
   repeat' first
   | (with_reducible exact ih0 _ _)
   | (with_reducible exact ih1 _ _ _ _ _ _ _ _ _ _)
   | (with_reducible exact ih2 _ _ _ _ _ _ _ _ _ _)
   | (with_reducible exact spec_RawEnd.mono _ _ _ _)
   | (with_reducible exact spec_TreeOk.mono _ _)
   | (with_reducible exact spec_l5Token.mono _ _ _ _ _ _)
   | (with_reducible exact LeO.refl _)
   | (with_reducible exact LeO.none _)
   | (with_reducible refine LeO.ite ?_ ?_)
   | (with_reducible refine LeO.bind ?_ (fun _ => ?_))
  ·intro y0 y1 y2 y3 y4 y5 y6 y7 y8 y9
   unfold spec_Sayable.j2
   repeat' first
   | (with_reducible exact ih0 _ _)
   | (with_reducible exact ih1 _ _ _ _ _ _ _ _ _ _)
   | (with_reducible exact ih2 _ _ _ _ _ _ _ _ _ _)
   | (with_reducible exact spec_RawEnd.mono _ _ _ _)
   | (with_reducible exact spec_TreeOk.mono _ _)
   | (with_reducible exact spec_l5Token.mono _ _ _ _ _ _)
   | (with_reducible exact LeO.refl _)
   | (with_reducible exact LeO.none _)
   | (with_reducible refine LeO.ite ?_ ?_)
   | (with_reducible refine LeO.bind ?_ (fun _ => ?_))
theorem spec_Sayable.mono : ∀ a0 k, LeO (spec_Sayable.f k a0) (spec_Sayable.f (k + 1) a0) := by
 intro a0 k
 obtain ⟨ih0, ih1, ih2⟩ := spec_Sayable.mono_l k
 unfold spec_Sayable.f
 repeat' first
   | (with_reducible exact ih0 _ _)
   | (with_reducible exact ih1 _ _ _ _ _ _ _ _ _ _)
   | (with_reducible exact ih2 _ _ _ _ _ _ _ _ _ _)
   | (with_reducible exact spec_RawEnd.mono _ _ _ _)
   | (with_reducible exact spec_TreeOk.mono _ _)
   | (with_reducible exact spec_l5Token.mono _ _ _ _ _ _)
   | (with_reducible exact LeO.refl _)
   | (with_reducible exact LeO.none _)
   | (with_reducible refine LeO.ite ?_ ?_)
   | (with_reducible refine LeO.bind ?_ (fun _ => ?_))
set_option maxHeartbeats 8000000 in
set_option maxRecDepth 100000 in
theorem spec_Sayable.calls (k : Nat) (A0 : Option Addr) (c0 : Nat) (l0 : List (S72)) (r : Bool) (w : World) (hr0 : Kd.C k72 w A0 l0.length l0) (hc0 : l0.length ≤ c0) (h : spec_Sayable.f k l0 = some r) :
  Calls Try.prog 34 #[.slice A0 l0.length c0] w fun e w' => e = .returned (.bool r) ∧ Below w.heap.size w w' := by
 have hu72 := Try.underlying72
 have hu84 := Try.underlying84
 have HR0 := Aside0.mk hr0
 have HC0 := Aside0.mk hc0
 clear hr0 hc0
 have HB := Aside0.mk (Below.refl w.heap.size w)
 have H : ((spec_TreeOk.f k l0).bind fun t275 => (if t275 = true then (spec_Sayable.l0 k l0 0) else (some false))) = some r := h
 clear h
 replace H := Option.bind_eq_some_iff.mp H
 obtain ⟨t275, A20, H⟩ := H
 try dsimp only at H
 have A2 := Aside0.mk A20
 clear A20
 by_cases c3 : t275 = true
 ·subst c3
  rw [if_pos rfl] at H
  have H' := Aside0.mk H
  clear H
  go_enter Try.func34, Try.ntmps34
  go_wp2_with (first | ((with_reducible refine gate_callee (f := 60) rfl ?_); refine goesL_ (some 7) rfl rfl Try.func60 (by kernel_rfl) rfl #[.slice A0 l0.length c0] rfl ab5 ?_; (with_reducible refine (spec_TreeOk.calls k _ _ l0 true _ ?side1 ?side2 A2.out).mono ?_); (case side1 => repeat (first | exact HR0.out | (with_reducible refine Kd.C_alloc ?_ _) | (with_reducible refine Kd.C_drewN ?_ _) | (with_reducible refine Kd.C_drew ?_))); (case side2 => exact HC0.out); rintro e w4 ⟨rfl, hb⟩; refine ⟨_, rfl, ?_⟩; have n0_ := Aside0.mk (below_step ab1 hb); clear HB; have HB := n0_; clear n0_; (try clear hb); (try clear hb2); (try clear hk); (try clear hi)))
  go_loopg [3] k (fun kq v3 w' => ∃ (x3_1 : Int), v3 = .int .i64 x3_1 ∧ Aside0 (spec_Sayable.l0 kq l0 x3_1 = some r) ∧ Aside0 (kq ≤ k) ∧ Aside0 (Below w.heap.size w w'))
  case atStart => exact ⟨(0), ab6, H', ⟨Nat.le_refl _⟩, ⟨ab1⟩⟩
  case round =>
   clear H'
   (try clear p2); (try clear c3)
   obtain ⟨x3_1, rfl, HA, HK1, HB⟩ := hrel
   cases gk with
   | zero => exact absurd HA.out (by simp [spec_Sayable.l0])
   | succ k1 =>
    have H := HA.out
    clear HA
    simp only [spec_Sayable.l0] at H
    by_cases c5 : x3_1 < (l0.length : Int)
    ·rw [if_pos c5] at H
     have c5b0 := decide_eq_true c5
     clear c5
     by_cases c6 : 0 ≤ x3_1
     case neg => rw [if_neg c6] at H; exact absurd H (by simp)
     rw [if_pos c6] at H
     have c6b0 := decide_eq_true c6
     clear c6
     have HC7 := Aside0.mk H
     clear H
     have p276 : 0 ≤ (x3_1 : Int) := of_decide_eq_true ab4
     have q276 : x3_1 < (l0.length : Int) := of_decide_eq_true ab4
     obtain ⟨ad276, A276_3, c276_3, A276_6, c276_6, e276, hx276_0, hx276_1, hx276_2, hx276_3, hx276_4, hx276_5, hx276_6, hl276_3, hi276_3, hl276_6, hi276_6⟩ := at_T72 HR0.out x3_1 p276 q276
     cases e276
     replace hx276_0 := pw_cell_below HB.out hx276_0
     replace hx276_1 := pw_cell_below HB.out hx276_1
     replace hx276_2 := pw_cell_below HB.out hx276_2
     replace hx276_3 := pw_cell_below HB.out hx276_3
     replace hx276_4 := pw_cell_below HB.out hx276_4
     replace hx276_5 := pw_cell_below HB.out hx276_5
     replace hx276_6 := pw_cell_below HB.out hx276_6
     have HR276_3 := Aside0.mk hi276_3
     have HC276_3 := Aside0.mk hl276_3
     clear hi276_3 hl276_3
     have HR276_6 := Aside0.mk hi276_6
     have HC276_6 := Aside0.mk hl276_6
     clear hi276_6 hl276_6
     replace p276 := eq_true p276
     replace q276 := eq_true q276
     go_upto_region 7 with (first | ((with_reducible refine gate_dst (N := 4) rfl ?_); (try (refine gate_guard (by rfl) ?_; dsimp only)); refine box_event ?hg (N := 4) ?hd (cs := #[.int .i64 0, .int .i64 0, .string (⟨#[]⟩ : ByteArray), .slice none 0 0, .string (⟨#[]⟩ : ByteArray), .int .i64 0, .slice none 0 0]) (t := 72) ?hr ?_; (case hd => rfl); (case hg => rfl); (case hr => first | (go_simp; done) | (go_simp; rfl)); intro gb277 hg w8 hbox hb; have n0_ := Aside0.mk (below_step ab1 hb); have n1_ := Aside0.mk (hbox); have n2_ := Aside0.mk ((by rw [hg]; exact (below_size ab1) : w.heap.size ≤ gb277)); have n3_ := Aside0.mk ((by rw [hg]; exact (below_size ab1) : w.heap.size ≤ gb277)); clear HB; have HB := n0_; have BK277 := n1_; have GW277 := n2_; have GE277 := n3_; clear n0_ n1_ n2_ n3_; clear hb hbox hg; obtain ⟨⟨hcz9_0, hcz9_1, hcz9_2, hcz9_3, hcz9_4, hcz9_5, hcz9_6⟩, hfz9_0, hfz9_1, hfz9_2, hfz9_3, hfz9_4, hfz9_5, hfz9_6⟩ := Op.cells7 BK277.out))
     (try simp only [Act.put, List.setIfInBounds_toArray, List.set_cons_zero, List.set_cons_succ])
     go_cut [40] (fun v40 wc => ∃ (kq : Nat) (x40_6 : Bool), v40 = .bool x40_6 ∧ Aside0 (spec_Sayable.j1 kq l0 x3_1 x40_6 ((rd_T72 l0 x3_1).f0) ((rd_T72 l0 x3_1).f1) ((rd_T72 l0 x3_1).f2) ((rd_T72 l0 x3_1).f3) ((rd_T72 l0 x3_1).f4) ((rd_T72 l0 x3_1).f5) ((rd_T72 l0 x3_1).f6) = some r) ∧ Aside0 (kq ≤ k1) ∧ Aside0 (wc.heap[gb277]? = some (.cells #[.int .i64 ((rd_T72 l0 x3_1).f0), .int .i64 ((rd_T72 l0 x3_1).f1), .string ((rd_T72 l0 x3_1).f2), (.slice A276_3 ((rd_T72 l0 x3_1).f3).length c276_3), .string ((rd_T72 l0 x3_1).f4), .int .i64 ((rd_T72 l0 x3_1).f5), (.slice A276_6 ((rd_T72 l0 x3_1).f6).length c276_6)] 72 (0, 0))) ∧ Aside0 (Below w.heap.size w wc))
     case first =>
      have H := HC7.out
      clear HC7
      by_cases c10 : ((rd_T72 l0 x3_1).f0) = 4
      ·rw [if_pos c10] at H
       have c10b0 : (((rd_T72 l0 x3_1).f0) == 4) = true := beq_iff_eq.mpr c10
       have c10b1 : (((rd_T72 l0 x3_1).f0) != 4) = false := bne_eq_false_iff_eq.mpr c10
       clear c10
       (first | rw [c10b0] | (simp only [i64_w, i32_w]; rw [c10b0]) | skip)
       (try (generalize hgzc10 : (((rd_T72 l0 x3_1).f0) == 4) = bqc10 at *; subst c10b0; have c10b0 := hgzc10; clear hgzc10))
       replace H := Option.bind_eq_some_iff.mp H
       obtain ⟨t278, A110, H⟩ := H
       replace H : (if t278 = true then (if ((rd_T72 l0 x3_1).f0) = 5 then (none) else (spec_Sayable.j1 k1 l0 x3_1 false ((rd_T72 l0 x3_1).f0) ((rd_T72 l0 x3_1).f1) ((rd_T72 l0 x3_1).f2) ((rd_T72 l0 x3_1).f3) ((rd_T72 l0 x3_1).f4) ((rd_T72 l0 x3_1).f5) ((rd_T72 l0 x3_1).f6))) else (spec_Sayable.j1 k1 l0 x3_1 true ((rd_T72 l0 x3_1).f0) ((rd_T72 l0 x3_1).f1) ((rd_T72 l0 x3_1).f2) ((rd_T72 l0 x3_1).f3) ((rd_T72 l0 x3_1).f4) ((rd_T72 l0 x3_1).f5) ((rd_T72 l0 x3_1).f6))) = some r := by first | exact H | (rw [c10b0]; exact H)
       have A11 := Aside0.mk A110
       clear A110
       by_cases c12 : t278 = true
       ·subst c12
        rw [if_pos rfl] at H
        by_cases c13 : ((rd_T72 l0 x3_1).f0) = 5
        ·rw [if_pos c13] at H
         exact absurd H (by simp)
        ·rw [if_neg c13] at H
         have c13b0 : (((rd_T72 l0 x3_1).f0) == 5) = false := beq_eq_false_iff_ne.mpr c13
         have c13b1 : (((rd_T72 l0 x3_1).f0) != 5) = true := bne_iff_ne.mpr c13
         have H' := Aside0.mk H
         clear H
         obtain ⟨⟨hcz14_0, hcz14_1, hcz14_2, hcz14_3, hcz14_4, hcz14_5, hcz14_6⟩, hfz14_0, hfz14_1, hfz14_2, hfz14_3, hfz14_4, hfz14_5, hfz14_6⟩ := Op.cells7 BK277.out
         go_wp2_with (first | (go_at_call 61; (refine (spec_l5Token.calls k1 4 (⟨#[]⟩ : ByteArray) _ _ ([] : List (S62)) ((rd_T72 l0 x3_1).f4) false true _ ?side1 ?side2 A11.out).mono ?_); (case side1 => exact Kd.C_nil _ _); (case side2 => exact Nat.le_refl _); rintro e w15 ⟨rfl, hb⟩; have n0_ := Aside0.mk (blk_below (g := gb277) (o := .cells #[.int .i64 ((rd_T72 l0 x3_1).f0), .int .i64 ((rd_T72 l0 x3_1).f1), .string ((rd_T72 l0 x3_1).f2), .slice A276_3 ((rd_T72 l0 x3_1).f3).length c276_3, .string ((rd_T72 l0 x3_1).f4), .int .i64 ((rd_T72 l0 x3_1).f5), .slice A276_6 ((rd_T72 l0 x3_1).f6).length c276_6] 72 (0, 0)) (by (with_reducible repeat (first | refine blk_drewN ?_ _ | refine blk_drew ?_ | refine blk_alloc ?_ _)); refine blk_put (cs := #[.int .i64 ((rd_T72 l0 x3_1).f0), .int .i64 ((rd_T72 l0 x3_1).f1), .string ((rd_T72 l0 x3_1).f2), .slice A276_3 ((rd_T72 l0 x3_1).f3).length c276_3, .string ((rd_T72 l0 x3_1).f4), .int .i64 ((rd_T72 l0 x3_1).f5), .slice none 0 0]) ?_ 6 _ rfl; (with_reducible repeat (first | refine blk_drewN ?_ _ | refine blk_drew ?_ | refine blk_alloc ?_ _)); refine blk_put (cs := #[.int .i64 ((rd_T72 l0 x3_1).f0), .int .i64 ((rd_T72 l0 x3_1).f1), .string ((rd_T72 l0 x3_1).f2), .slice A276_3 ((rd_T72 l0 x3_1).f3).length c276_3, .string ((rd_T72 l0 x3_1).f4), .int .i64 0, .slice none 0 0]) ?_ 5 _ rfl; (with_reducible repeat (first | refine blk_drewN ?_ _ | refine blk_drew ?_ | refine blk_alloc ?_ _)); refine blk_put (cs := #[.int .i64 ((rd_T72 l0 x3_1).f0), .int .i64 ((rd_T72 l0 x3_1).f1), .string ((rd_T72 l0 x3_1).f2), .slice A276_3 ((rd_T72 l0 x3_1).f3).length c276_3, .string (⟨#[]⟩ : ByteArray), .int .i64 0, .slice none 0 0]) ?_ 4 _ rfl; (with_reducible repeat (first | refine blk_drewN ?_ _ | refine blk_drew ?_ | refine blk_alloc ?_ _)); refine blk_put (cs := #[.int .i64 ((rd_T72 l0 x3_1).f0), .int .i64 ((rd_T72 l0 x3_1).f1), .string ((rd_T72 l0 x3_1).f2), .slice none 0 0, .string (⟨#[]⟩ : ByteArray), .int .i64 0, .slice none 0 0]) ?_ 3 _ rfl; (with_reducible repeat (first | refine blk_drewN ?_ _ | refine blk_drew ?_ | refine blk_alloc ?_ _)); refine blk_put (cs := #[.int .i64 ((rd_T72 l0 x3_1).f0), .int .i64 ((rd_T72 l0 x3_1).f1), .string (⟨#[]⟩ : ByteArray), .slice none 0 0, .string (⟨#[]⟩ : ByteArray), .int .i64 0, .slice none 0 0]) ?_ 2 _ rfl; (with_reducible repeat (first | refine blk_drewN ?_ _ | refine blk_drew ?_ | refine blk_alloc ?_ _)); refine blk_put (cs := #[.int .i64 ((rd_T72 l0 x3_1).f0), .int .i64 0, .string (⟨#[]⟩ : ByteArray), .slice none 0 0, .string (⟨#[]⟩ : ByteArray), .int .i64 0, .slice none 0 0]) ?_ 1 _ rfl; (with_reducible repeat (first | refine blk_drewN ?_ _ | refine blk_drew ?_ | refine blk_alloc ?_ _)); refine blk_put (cs := #[.int .i64 0, .int .i64 0, .string (⟨#[]⟩ : ByteArray), .slice none 0 0, .string (⟨#[]⟩ : ByteArray), .int .i64 0, .slice none 0 0]) ?_ 0 _ rfl; (with_reducible repeat (first | refine blk_drewN ?_ _ | refine blk_drew ?_ | refine blk_alloc ?_ _)); exact BK277.out) hb); have n1_ := Aside0.mk (below_step (ab2 GE277) hb); clear BK277; clear HB; have BK277 := n0_; have HB := n1_; clear n0_ n1_; (try clear hb); (try clear hb2); (try clear hk); (try clear hi); obtain ⟨⟨hcz16_0, hcz16_1, hcz16_2, hcz16_3, hcz16_4, hcz16_5, hcz16_6⟩, hfz16_0, hfz16_1, hfz16_2, hfz16_3, hfz16_4, hfz16_5, hfz16_6⟩ := Op.cells7 BK277.out))
         go_meet
         case rel => exact ⟨_, (false), ab6, (by first | exact H' | (have h_ := H'.out; rw [c10b0] at h_; exact ⟨h_⟩)), ⟨by have := HK1.out; first | omega | exact Nat.le_refl _⟩, ⟨ab3 BK277⟩, ⟨ab2 GE277⟩⟩
       ·replace c12 := Bool.eq_false_iff.mpr c12
        subst c12
        rw [if_neg (show ¬ (false = true) by decide)] at H
        have H' := Aside0.mk H
        clear H
        obtain ⟨⟨hcz17_0, hcz17_1, hcz17_2, hcz17_3, hcz17_4, hcz17_5, hcz17_6⟩, hfz17_0, hfz17_1, hfz17_2, hfz17_3, hfz17_4, hfz17_5, hfz17_6⟩ := Op.cells7 BK277.out
        go_wp2_with (first | (go_at_call 61; (refine (spec_l5Token.calls k1 4 (⟨#[]⟩ : ByteArray) _ _ ([] : List (S62)) ((rd_T72 l0 x3_1).f4) false false _ ?side1 ?side2 A11.out).mono ?_); (case side1 => exact Kd.C_nil _ _); (case side2 => exact Nat.le_refl _); rintro e w18 ⟨rfl, hb⟩; have n0_ := Aside0.mk (blk_below (g := gb277) (o := .cells #[.int .i64 ((rd_T72 l0 x3_1).f0), .int .i64 ((rd_T72 l0 x3_1).f1), .string ((rd_T72 l0 x3_1).f2), .slice A276_3 ((rd_T72 l0 x3_1).f3).length c276_3, .string ((rd_T72 l0 x3_1).f4), .int .i64 ((rd_T72 l0 x3_1).f5), .slice A276_6 ((rd_T72 l0 x3_1).f6).length c276_6] 72 (0, 0)) (by (with_reducible repeat (first | refine blk_drewN ?_ _ | refine blk_drew ?_ | refine blk_alloc ?_ _)); refine blk_put (cs := #[.int .i64 ((rd_T72 l0 x3_1).f0), .int .i64 ((rd_T72 l0 x3_1).f1), .string ((rd_T72 l0 x3_1).f2), .slice A276_3 ((rd_T72 l0 x3_1).f3).length c276_3, .string ((rd_T72 l0 x3_1).f4), .int .i64 ((rd_T72 l0 x3_1).f5), .slice none 0 0]) ?_ 6 _ rfl; (with_reducible repeat (first | refine blk_drewN ?_ _ | refine blk_drew ?_ | refine blk_alloc ?_ _)); refine blk_put (cs := #[.int .i64 ((rd_T72 l0 x3_1).f0), .int .i64 ((rd_T72 l0 x3_1).f1), .string ((rd_T72 l0 x3_1).f2), .slice A276_3 ((rd_T72 l0 x3_1).f3).length c276_3, .string ((rd_T72 l0 x3_1).f4), .int .i64 0, .slice none 0 0]) ?_ 5 _ rfl; (with_reducible repeat (first | refine blk_drewN ?_ _ | refine blk_drew ?_ | refine blk_alloc ?_ _)); refine blk_put (cs := #[.int .i64 ((rd_T72 l0 x3_1).f0), .int .i64 ((rd_T72 l0 x3_1).f1), .string ((rd_T72 l0 x3_1).f2), .slice A276_3 ((rd_T72 l0 x3_1).f3).length c276_3, .string (⟨#[]⟩ : ByteArray), .int .i64 0, .slice none 0 0]) ?_ 4 _ rfl; (with_reducible repeat (first | refine blk_drewN ?_ _ | refine blk_drew ?_ | refine blk_alloc ?_ _)); refine blk_put (cs := #[.int .i64 ((rd_T72 l0 x3_1).f0), .int .i64 ((rd_T72 l0 x3_1).f1), .string ((rd_T72 l0 x3_1).f2), .slice none 0 0, .string (⟨#[]⟩ : ByteArray), .int .i64 0, .slice none 0 0]) ?_ 3 _ rfl; (with_reducible repeat (first | refine blk_drewN ?_ _ | refine blk_drew ?_ | refine blk_alloc ?_ _)); refine blk_put (cs := #[.int .i64 ((rd_T72 l0 x3_1).f0), .int .i64 ((rd_T72 l0 x3_1).f1), .string (⟨#[]⟩ : ByteArray), .slice none 0 0, .string (⟨#[]⟩ : ByteArray), .int .i64 0, .slice none 0 0]) ?_ 2 _ rfl; (with_reducible repeat (first | refine blk_drewN ?_ _ | refine blk_drew ?_ | refine blk_alloc ?_ _)); refine blk_put (cs := #[.int .i64 ((rd_T72 l0 x3_1).f0), .int .i64 0, .string (⟨#[]⟩ : ByteArray), .slice none 0 0, .string (⟨#[]⟩ : ByteArray), .int .i64 0, .slice none 0 0]) ?_ 1 _ rfl; (with_reducible repeat (first | refine blk_drewN ?_ _ | refine blk_drew ?_ | refine blk_alloc ?_ _)); refine blk_put (cs := #[.int .i64 0, .int .i64 0, .string (⟨#[]⟩ : ByteArray), .slice none 0 0, .string (⟨#[]⟩ : ByteArray), .int .i64 0, .slice none 0 0]) ?_ 0 _ rfl; (with_reducible repeat (first | refine blk_drewN ?_ _ | refine blk_drew ?_ | refine blk_alloc ?_ _)); exact BK277.out) hb); have n1_ := Aside0.mk (below_step (ab2 GE277) hb); clear BK277; clear HB; have BK277 := n0_; have HB := n1_; clear n0_ n1_; (try clear hb); (try clear hb2); (try clear hk); (try clear hi)))
        go_meet
        case rel => exact ⟨_, (true), ab6, (by first | exact H' | (have h_ := H'.out; rw [c10b0] at h_; exact ⟨h_⟩)), ⟨by have := HK1.out; first | omega | exact Nat.le_refl _⟩, ⟨ab3 BK277⟩, ⟨ab2 GE277⟩⟩
      ·rw [if_neg c10] at H
       have c10b0 : (((rd_T72 l0 x3_1).f0) == 4) = false := beq_eq_false_iff_ne.mpr c10
       have c10b1 : (((rd_T72 l0 x3_1).f0) != 4) = true := bne_iff_ne.mpr c10
       (first | rw [c10b0] | (simp only [i64_w, i32_w]; rw [c10b0]) | skip)
       (try (generalize hgzc10 : (((rd_T72 l0 x3_1).f0) == 4) = bqc10 at *; subst c10b0; have c10b0 := hgzc10; clear hgzc10))
       by_cases c19 : ((rd_T72 l0 x3_1).f0) = 5
       ·rw [if_pos c19] at H
        have c19b0 : (((rd_T72 l0 x3_1).f0) == 5) = true := beq_iff_eq.mpr c19
        have c19b1 : (((rd_T72 l0 x3_1).f0) != 5) = false := bne_eq_false_iff_eq.mpr c19
        clear c19
        replace H := Option.bind_eq_some_iff.mp H
        obtain ⟨t279, A200, H⟩ := H
        replace H : (spec_Sayable.j1 k1 l0 x3_1 (!t279) ((rd_T72 l0 x3_1).f0) ((rd_T72 l0 x3_1).f1) ((rd_T72 l0 x3_1).f2) ((rd_T72 l0 x3_1).f3) ((rd_T72 l0 x3_1).f4) ((rd_T72 l0 x3_1).f5) ((rd_T72 l0 x3_1).f6)) = some r := by first | exact H | (rw [c10b0]; exact H)
        have A20 := Aside0.mk A200
        clear A200
        have H' := Aside0.mk H
        clear H
        obtain ⟨⟨hcz21_0, hcz21_1, hcz21_2, hcz21_3, hcz21_4, hcz21_5, hcz21_6⟩, hfz21_0, hfz21_1, hfz21_2, hfz21_3, hfz21_4, hfz21_5, hfz21_6⟩ := Op.cells7 BK277.out
        go_wp2_with (first | (go_at_call 61; (refine (spec_l5Token.calls k1 5 (⟨#[]⟩ : ByteArray) _ _ ([] : List (S62)) ((rd_T72 l0 x3_1).f4) false t279 _ ?side1 ?side2 A20.out).mono ?_); (case side1 => exact Kd.C_nil _ _); (case side2 => exact Nat.le_refl _); rintro e w22 ⟨rfl, hb⟩; have n0_ := Aside0.mk (blk_below (g := gb277) (o := .cells #[.int .i64 ((rd_T72 l0 x3_1).f0), .int .i64 ((rd_T72 l0 x3_1).f1), .string ((rd_T72 l0 x3_1).f2), .slice A276_3 ((rd_T72 l0 x3_1).f3).length c276_3, .string ((rd_T72 l0 x3_1).f4), .int .i64 ((rd_T72 l0 x3_1).f5), .slice A276_6 ((rd_T72 l0 x3_1).f6).length c276_6] 72 (0, 0)) (by (with_reducible repeat (first | refine blk_drewN ?_ _ | refine blk_drew ?_ | refine blk_alloc ?_ _)); refine blk_put (cs := #[.int .i64 ((rd_T72 l0 x3_1).f0), .int .i64 ((rd_T72 l0 x3_1).f1), .string ((rd_T72 l0 x3_1).f2), .slice A276_3 ((rd_T72 l0 x3_1).f3).length c276_3, .string ((rd_T72 l0 x3_1).f4), .int .i64 ((rd_T72 l0 x3_1).f5), .slice none 0 0]) ?_ 6 _ rfl; (with_reducible repeat (first | refine blk_drewN ?_ _ | refine blk_drew ?_ | refine blk_alloc ?_ _)); refine blk_put (cs := #[.int .i64 ((rd_T72 l0 x3_1).f0), .int .i64 ((rd_T72 l0 x3_1).f1), .string ((rd_T72 l0 x3_1).f2), .slice A276_3 ((rd_T72 l0 x3_1).f3).length c276_3, .string ((rd_T72 l0 x3_1).f4), .int .i64 0, .slice none 0 0]) ?_ 5 _ rfl; (with_reducible repeat (first | refine blk_drewN ?_ _ | refine blk_drew ?_ | refine blk_alloc ?_ _)); refine blk_put (cs := #[.int .i64 ((rd_T72 l0 x3_1).f0), .int .i64 ((rd_T72 l0 x3_1).f1), .string ((rd_T72 l0 x3_1).f2), .slice A276_3 ((rd_T72 l0 x3_1).f3).length c276_3, .string (⟨#[]⟩ : ByteArray), .int .i64 0, .slice none 0 0]) ?_ 4 _ rfl; (with_reducible repeat (first | refine blk_drewN ?_ _ | refine blk_drew ?_ | refine blk_alloc ?_ _)); refine blk_put (cs := #[.int .i64 ((rd_T72 l0 x3_1).f0), .int .i64 ((rd_T72 l0 x3_1).f1), .string ((rd_T72 l0 x3_1).f2), .slice none 0 0, .string (⟨#[]⟩ : ByteArray), .int .i64 0, .slice none 0 0]) ?_ 3 _ rfl; (with_reducible repeat (first | refine blk_drewN ?_ _ | refine blk_drew ?_ | refine blk_alloc ?_ _)); refine blk_put (cs := #[.int .i64 ((rd_T72 l0 x3_1).f0), .int .i64 ((rd_T72 l0 x3_1).f1), .string (⟨#[]⟩ : ByteArray), .slice none 0 0, .string (⟨#[]⟩ : ByteArray), .int .i64 0, .slice none 0 0]) ?_ 2 _ rfl; (with_reducible repeat (first | refine blk_drewN ?_ _ | refine blk_drew ?_ | refine blk_alloc ?_ _)); refine blk_put (cs := #[.int .i64 ((rd_T72 l0 x3_1).f0), .int .i64 0, .string (⟨#[]⟩ : ByteArray), .slice none 0 0, .string (⟨#[]⟩ : ByteArray), .int .i64 0, .slice none 0 0]) ?_ 1 _ rfl; (with_reducible repeat (first | refine blk_drewN ?_ _ | refine blk_drew ?_ | refine blk_alloc ?_ _)); refine blk_put (cs := #[.int .i64 0, .int .i64 0, .string (⟨#[]⟩ : ByteArray), .slice none 0 0, .string (⟨#[]⟩ : ByteArray), .int .i64 0, .slice none 0 0]) ?_ 0 _ rfl; (with_reducible repeat (first | refine blk_drewN ?_ _ | refine blk_drew ?_ | refine blk_alloc ?_ _)); exact BK277.out) hb); have n1_ := Aside0.mk (below_step (ab2 GE277) hb); clear BK277; clear HB; have BK277 := n0_; have HB := n1_; clear n0_ n1_; (try clear hb); (try clear hb2); (try clear hk); (try clear hi)))
        go_meet
        case rel => exact ⟨_, (!t279), ab6, (by first | exact H' | (have h_ := H'.out; rw [c10b0] at h_; exact ⟨h_⟩)), ⟨by have := HK1.out; first | omega | exact Nat.le_refl _⟩, ⟨ab3 BK277⟩, ⟨ab2 GE277⟩⟩
       ·rw [if_neg c19] at H
        have c19b0 : (((rd_T72 l0 x3_1).f0) == 5) = false := beq_eq_false_iff_ne.mpr c19
        have c19b1 : (((rd_T72 l0 x3_1).f0) != 5) = true := bne_iff_ne.mpr c19
        have H' := Aside0.mk H
        clear H
        obtain ⟨⟨hcz23_0, hcz23_1, hcz23_2, hcz23_3, hcz23_4, hcz23_5, hcz23_6⟩, hfz23_0, hfz23_1, hfz23_2, hfz23_3, hfz23_4, hfz23_5, hfz23_6⟩ := Op.cells7 BK277.out
        go_wp2
        go_meet
        case rel => exact ⟨_, (false), ab6, (by first | exact H' | (have h_ := H'.out; rw [c10b0] at h_; exact ⟨h_⟩)), ⟨by have := HK1.out; first | omega | exact Nat.le_refl _⟩, ⟨by (with_reducible repeat (first | refine blk_drewN ?_ _ | refine blk_drew ?_ | refine blk_alloc ?_ _)); refine blk_put (cs := #[.int .i64 ((rd_T72 l0 x3_1).f0), .int .i64 ((rd_T72 l0 x3_1).f1), .string ((rd_T72 l0 x3_1).f2), .slice A276_3 ((rd_T72 l0 x3_1).f3).length c276_3, .string ((rd_T72 l0 x3_1).f4), .int .i64 ((rd_T72 l0 x3_1).f5), .slice none 0 0]) ?_ 6 _ rfl; (with_reducible repeat (first | refine blk_drewN ?_ _ | refine blk_drew ?_ | refine blk_alloc ?_ _)); refine blk_put (cs := #[.int .i64 ((rd_T72 l0 x3_1).f0), .int .i64 ((rd_T72 l0 x3_1).f1), .string ((rd_T72 l0 x3_1).f2), .slice A276_3 ((rd_T72 l0 x3_1).f3).length c276_3, .string ((rd_T72 l0 x3_1).f4), .int .i64 0, .slice none 0 0]) ?_ 5 _ rfl; (with_reducible repeat (first | refine blk_drewN ?_ _ | refine blk_drew ?_ | refine blk_alloc ?_ _)); refine blk_put (cs := #[.int .i64 ((rd_T72 l0 x3_1).f0), .int .i64 ((rd_T72 l0 x3_1).f1), .string ((rd_T72 l0 x3_1).f2), .slice A276_3 ((rd_T72 l0 x3_1).f3).length c276_3, .string (⟨#[]⟩ : ByteArray), .int .i64 0, .slice none 0 0]) ?_ 4 _ rfl; (with_reducible repeat (first | refine blk_drewN ?_ _ | refine blk_drew ?_ | refine blk_alloc ?_ _)); refine blk_put (cs := #[.int .i64 ((rd_T72 l0 x3_1).f0), .int .i64 ((rd_T72 l0 x3_1).f1), .string ((rd_T72 l0 x3_1).f2), .slice none 0 0, .string (⟨#[]⟩ : ByteArray), .int .i64 0, .slice none 0 0]) ?_ 3 _ rfl; (with_reducible repeat (first | refine blk_drewN ?_ _ | refine blk_drew ?_ | refine blk_alloc ?_ _)); refine blk_put (cs := #[.int .i64 ((rd_T72 l0 x3_1).f0), .int .i64 ((rd_T72 l0 x3_1).f1), .string (⟨#[]⟩ : ByteArray), .slice none 0 0, .string (⟨#[]⟩ : ByteArray), .int .i64 0, .slice none 0 0]) ?_ 2 _ rfl; (with_reducible repeat (first | refine blk_drewN ?_ _ | refine blk_drew ?_ | refine blk_alloc ?_ _)); refine blk_put (cs := #[.int .i64 ((rd_T72 l0 x3_1).f0), .int .i64 0, .string (⟨#[]⟩ : ByteArray), .slice none 0 0, .string (⟨#[]⟩ : ByteArray), .int .i64 0, .slice none 0 0]) ?_ 1 _ rfl; (with_reducible repeat (first | refine blk_drewN ?_ _ | refine blk_drew ?_ | refine blk_alloc ?_ _)); refine blk_put (cs := #[.int .i64 0, .int .i64 0, .string (⟨#[]⟩ : ByteArray), .slice none 0 0, .string (⟨#[]⟩ : ByteArray), .int .i64 0, .slice none 0 0]) ?_ 0 _ rfl; (with_reducible repeat (first | refine blk_drewN ?_ _ | refine blk_drew ?_ | refine blk_alloc ?_ _)); exact BK277.out⟩, ⟨ab2 GE277⟩⟩
     case rest =>
      clear HC7
      (try clear c1); (try clear c2); (try clear p2); (try clear q2); (try clear hx2); (try clear c3); (try clear c5); (try clear c5b0); (try clear c6); (try clear c6b0); (try clear c10); (try clear c10b0); (try clear c10b1); (try clear c12); (try clear c13); (try clear c13b0); (try clear c13b1); (try clear c19); (try clear c19b0); (try clear c19b1); (try clear hcz14_0); (try clear hcz14_1); (try clear hcz14_2); (try clear hcz14_3); (try clear hcz14_4); (try clear hcz14_5); (try clear hcz14_6); (try clear hcz16_0); (try clear hcz16_1); (try clear hcz16_2); (try clear hcz16_3); (try clear hcz16_4); (try clear hcz16_5); (try clear hcz16_6); (try clear hcz17_0); (try clear hcz17_1); (try clear hcz17_2); (try clear hcz17_3); (try clear hcz17_4); (try clear hcz17_5); (try clear hcz17_6); (try clear hcz21_0); (try clear hcz21_1); (try clear hcz21_2); (try clear hcz21_3); (try clear hcz21_4); (try clear hcz21_5); (try clear hcz21_6); (try clear hcz23_0); (try clear hcz23_1); (try clear hcz23_2); (try clear hcz23_3); (try clear hcz23_4); (try clear hcz23_5); (try clear hcz23_6); (try clear hcz9_0); (try clear hcz9_1); (try clear hcz9_2); (try clear hcz9_3); (try clear hcz9_4); (try clear hcz9_5); (try clear hcz9_6); (try clear hfz14_0); (try clear hfz14_1); (try clear hfz14_2); (try clear hfz14_3); (try clear hfz14_4); (try clear hfz14_5); (try clear hfz14_6); (try clear hfz16_0); (try clear hfz16_1); (try clear hfz16_2); (try clear hfz16_3); (try clear hfz16_4); (try clear hfz16_5); (try clear hfz16_6); (try clear hfz17_0); (try clear hfz17_1); (try clear hfz17_2); (try clear hfz17_3); (try clear hfz17_4); (try clear hfz17_5); (try clear hfz17_6); (try clear hfz21_0); (try clear hfz21_1); (try clear hfz21_2); (try clear hfz21_3); (try clear hfz21_4); (try clear hfz21_5); (try clear hfz21_6); (try clear hfz23_0); (try clear hfz23_1); (try clear hfz23_2); (try clear hfz23_3); (try clear hfz23_4); (try clear hfz23_5); (try clear hfz23_6); (try clear hfz9_0); (try clear hfz9_1); (try clear hfz9_2); (try clear hfz9_3); (try clear hfz9_4); (try clear hfz9_5); (try clear hfz9_6); (try clear hx276_0); (try clear hx276_1); (try clear hx276_2); (try clear hx276_3); (try clear hx276_4); (try clear hx276_5); (try clear hx276_6); (try clear p2); (try clear p276); (try clear q276)
      obtain ⟨kq, x40_6, rfl, HA, HJ6, BK277, HB⟩ := hcut
      cases kq with
      | zero => exact absurd HA.out (by simp [spec_Sayable.j1])
      | succ kj6 =>
       have H := HA.out
       clear HA
       simp only [spec_Sayable.j1] at H
       by_cases c24 : x40_6 = true
       ·subst c24
        rw [if_pos rfl] at H
        obtain rfl := Option.some.inj H
        go_wp2
        go_ret
        exact ⟨ab7, ab2 GE277⟩
       ·replace c24 := Bool.eq_false_iff.mpr c24
        subst c24
        rw [if_neg (show ¬ (false = true) by decide)] at H
        have HC25 := Aside0.mk H
        clear H
        go_upto_region 9 with (fail)
        go_cut [55] (fun v55 wc => ∃ (kq : Nat) (x55_24 : Bool), v55 = .bool x55_24 ∧ Aside0 (spec_Sayable.j2 kq l0 x3_1 x55_24 ((rd_T72 l0 x3_1).f0) ((rd_T72 l0 x3_1).f1) ((rd_T72 l0 x3_1).f2) ((rd_T72 l0 x3_1).f3) ((rd_T72 l0 x3_1).f4) ((rd_T72 l0 x3_1).f5) ((rd_T72 l0 x3_1).f6) = some r) ∧ Aside0 (kq ≤ kj6) ∧ Aside0 (wc.heap[gb277]? = some (.cells #[.int .i64 ((rd_T72 l0 x3_1).f0), .int .i64 ((rd_T72 l0 x3_1).f1), .string ((rd_T72 l0 x3_1).f2), (.slice A276_3 ((rd_T72 l0 x3_1).f3).length c276_3), .string ((rd_T72 l0 x3_1).f4), .int .i64 ((rd_T72 l0 x3_1).f5), (.slice A276_6 ((rd_T72 l0 x3_1).f6).length c276_6)] 72 (0, 0))) ∧ Aside0 (Below w.heap.size w wc))
        case first =>
         have H := HC25.out
         clear HC25
         by_cases c26 : ((rd_T72 l0 x3_1).f0) = 2
         ·rw [if_pos c26] at H
          have c26b0 : (((rd_T72 l0 x3_1).f0) == 2) = true := beq_iff_eq.mpr c26
          have c26b1 : (((rd_T72 l0 x3_1).f0) != 2) = false := bne_eq_false_iff_eq.mpr c26
          clear c26
          (first | rw [c26b0] | (simp only [i64_w, i32_w]; rw [c26b0]) | skip)
          (try (generalize hgzc26 : (((rd_T72 l0 x3_1).f0) == 2) = bqc26 at *; subst c26b0; have c26b0 := hgzc26; clear hgzc26))
          replace H := Option.bind_eq_some_iff.mp H
          obtain ⟨t280, A270, H⟩ := H
          replace H : (if t280 = true then (spec_Sayable.j2 kj6 l0 x3_1 ((((rd_T72 l0 x3_1).f6).length : Int) == 0) ((rd_T72 l0 x3_1).f0) ((rd_T72 l0 x3_1).f1) ((rd_T72 l0 x3_1).f2) ((rd_T72 l0 x3_1).f3) ((rd_T72 l0 x3_1).f4) ((rd_T72 l0 x3_1).f5) ((rd_T72 l0 x3_1).f6)) else (spec_Sayable.j2 kj6 l0 x3_1 true ((rd_T72 l0 x3_1).f0) ((rd_T72 l0 x3_1).f1) ((rd_T72 l0 x3_1).f2) ((rd_T72 l0 x3_1).f3) ((rd_T72 l0 x3_1).f4) ((rd_T72 l0 x3_1).f5) ((rd_T72 l0 x3_1).f6))) = some r := by first | exact H | (rw [c26b0]; exact H)
          have A27 := Aside0.mk A270
          clear A270
          by_cases c28 : t280 = true
          ·subst c28
           rw [if_pos rfl] at H
           have H' := Aside0.mk H
           clear H
           obtain ⟨⟨hcz29_0, hcz29_1, hcz29_2, hcz29_3, hcz29_4, hcz29_5, hcz29_6⟩, hfz29_0, hfz29_1, hfz29_2, hfz29_3, hfz29_4, hfz29_5, hfz29_6⟩ := Op.cells7 BK277.out
           go_wp2_with (first | (go_at_call 62; (with_reducible refine (spec_Raw.calls ((rd_T72 l0 x3_1).f2) true _ A27.out).mono ?_); rintro e w' ⟨rfl, ⟨nd, rfl⟩⟩))
           go_meet
           case rel => exact ⟨_, (((((rd_T72 l0 x3_1).f6).length : Int) == 0)), ab6, (by first | exact H' | (have h_ := H'.out; rw [c26b0] at h_; exact ⟨h_⟩)), ⟨by have := HK1.out; have := HJ6.out; first | omega | exact Nat.le_refl _⟩, ⟨ab3 BK277⟩, ⟨ab2 GE277⟩⟩
          ·replace c28 := Bool.eq_false_iff.mpr c28
           subst c28
           rw [if_neg (show ¬ (false = true) by decide)] at H
           have H' := Aside0.mk H
           clear H
           obtain ⟨⟨hcz30_0, hcz30_1, hcz30_2, hcz30_3, hcz30_4, hcz30_5, hcz30_6⟩, hfz30_0, hfz30_1, hfz30_2, hfz30_3, hfz30_4, hfz30_5, hfz30_6⟩ := Op.cells7 BK277.out
           go_wp2_with (first | (go_at_call 62; (with_reducible refine (spec_Raw.calls ((rd_T72 l0 x3_1).f2) false _ A27.out).mono ?_); rintro e w' ⟨rfl, ⟨nd, rfl⟩⟩))
           go_meet
           case rel => exact ⟨_, (true), ab6, (by first | exact H' | (have h_ := H'.out; rw [c26b0] at h_; exact ⟨h_⟩)), ⟨by have := HK1.out; have := HJ6.out; first | omega | exact Nat.le_refl _⟩, ⟨ab3 BK277⟩, ⟨ab2 GE277⟩⟩
         ·rw [if_neg c26] at H
          have c26b0 : (((rd_T72 l0 x3_1).f0) == 2) = false := beq_eq_false_iff_ne.mpr c26
          have c26b1 : (((rd_T72 l0 x3_1).f0) != 2) = true := bne_iff_ne.mpr c26
          (first | rw [c26b0] | (simp only [i64_w, i32_w]; rw [c26b0]) | skip)
          (try (generalize hgzc26 : (((rd_T72 l0 x3_1).f0) == 2) = bqc26 at *; subst c26b0; have c26b0 := hgzc26; clear hgzc26))
          have H' := Aside0.mk H
          clear H
          obtain ⟨⟨hcz31_0, hcz31_1, hcz31_2, hcz31_3, hcz31_4, hcz31_5, hcz31_6⟩, hfz31_0, hfz31_1, hfz31_2, hfz31_3, hfz31_4, hfz31_5, hfz31_6⟩ := Op.cells7 BK277.out
          go_wp2
          go_meet
          case rel => exact ⟨_, (true), ab6, (by first | exact H' | (have h_ := H'.out; rw [c26b0] at h_; exact ⟨h_⟩)), ⟨by have := HK1.out; have := HJ6.out; first | omega | exact Nat.le_refl _⟩, ⟨ab3 BK277⟩, ⟨ab2 GE277⟩⟩
        case rest =>
         clear HC25
         (try clear c1); (try clear c2); (try clear p2); (try clear q2); (try clear hx2); (try clear c3); (try clear c5); (try clear c5b0); (try clear c6); (try clear c6b0); (try clear c10); (try clear c10b0); (try clear c10b1); (try clear c12); (try clear c13); (try clear c13b0); (try clear c13b1); (try clear c19); (try clear c19b0); (try clear c19b1); (try clear c24); (try clear c26); (try clear c26b0); (try clear c26b1); (try clear c27); (try clear p27); (try clear q27); (try clear hx27); (try clear c28); (try clear hcz14_0); (try clear hcz14_1); (try clear hcz14_2); (try clear hcz14_3); (try clear hcz14_4); (try clear hcz14_5); (try clear hcz14_6); (try clear hcz16_0); (try clear hcz16_1); (try clear hcz16_2); (try clear hcz16_3); (try clear hcz16_4); (try clear hcz16_5); (try clear hcz16_6); (try clear hcz17_0); (try clear hcz17_1); (try clear hcz17_2); (try clear hcz17_3); (try clear hcz17_4); (try clear hcz17_5); (try clear hcz17_6); (try clear hcz21_0); (try clear hcz21_1); (try clear hcz21_2); (try clear hcz21_3); (try clear hcz21_4); (try clear hcz21_5); (try clear hcz21_6); (try clear hcz23_0); (try clear hcz23_1); (try clear hcz23_2); (try clear hcz23_3); (try clear hcz23_4); (try clear hcz23_5); (try clear hcz23_6); (try clear hcz29_0); (try clear hcz29_1); (try clear hcz29_2); (try clear hcz29_3); (try clear hcz29_4); (try clear hcz29_5); (try clear hcz29_6); (try clear hcz30_0); (try clear hcz30_1); (try clear hcz30_2); (try clear hcz30_3); (try clear hcz30_4); (try clear hcz30_5); (try clear hcz30_6); (try clear hcz31_0); (try clear hcz31_1); (try clear hcz31_2); (try clear hcz31_3); (try clear hcz31_4); (try clear hcz31_5); (try clear hcz31_6); (try clear hcz9_0); (try clear hcz9_1); (try clear hcz9_2); (try clear hcz9_3); (try clear hcz9_4); (try clear hcz9_5); (try clear hcz9_6); (try clear hfz14_0); (try clear hfz14_1); (try clear hfz14_2); (try clear hfz14_3); (try clear hfz14_4); (try clear hfz14_5); (try clear hfz14_6); (try clear hfz16_0); (try clear hfz16_1); (try clear hfz16_2); (try clear hfz16_3); (try clear hfz16_4); (try clear hfz16_5); (try clear hfz16_6); (try clear hfz17_0); (try clear hfz17_1); (try clear hfz17_2); (try clear hfz17_3); (try clear hfz17_4); (try clear hfz17_5); (try clear hfz17_6); (try clear hfz21_0); (try clear hfz21_1); (try clear hfz21_2); (try clear hfz21_3); (try clear hfz21_4); (try clear hfz21_5); (try clear hfz21_6); (try clear hfz23_0); (try clear hfz23_1); (try clear hfz23_2); (try clear hfz23_3); (try clear hfz23_4); (try clear hfz23_5); (try clear hfz23_6); (try clear hfz29_0); (try clear hfz29_1); (try clear hfz29_2); (try clear hfz29_3); (try clear hfz29_4); (try clear hfz29_5); (try clear hfz29_6); (try clear hfz30_0); (try clear hfz30_1); (try clear hfz30_2); (try clear hfz30_3); (try clear hfz30_4); (try clear hfz30_5); (try clear hfz30_6); (try clear hfz31_0); (try clear hfz31_1); (try clear hfz31_2); (try clear hfz31_3); (try clear hfz31_4); (try clear hfz31_5); (try clear hfz31_6); (try clear hfz9_0); (try clear hfz9_1); (try clear hfz9_2); (try clear hfz9_3); (try clear hfz9_4); (try clear hfz9_5); (try clear hfz9_6); (try clear hx276_0); (try clear hx276_1); (try clear hx276_2); (try clear hx276_3); (try clear hx276_4); (try clear hx276_5); (try clear hx276_6); (try clear p2); (try clear p276); (try clear q2); (try clear q276)
         obtain ⟨kq, x55_24, rfl, HA, HJ24, BK277, HB⟩ := hcut
         cases kq with
         | zero => exact absurd HA.out (by simp [spec_Sayable.j2])
         | succ kj24 =>
          have H := HA.out
          clear HA
          simp only [spec_Sayable.j2] at H
          by_cases c32 : x55_24 = true
          ·subst c32
           rw [if_pos rfl] at H
           have H' := Aside0.mk H
           clear H
           go_wp2
           go_roundg kj24
           case measure => have := HK1.out; have := HJ6.out; have := HJ24.out; omega
           case rel => exact ⟨(wrap64 (x3_1 + 1)), ab6, H', ⟨by have := HK1.out; have := HJ6.out; have := HJ24.out; omega⟩, ⟨ab2 GE277⟩⟩
          ·replace c32 := Bool.eq_false_iff.mpr c32
           subst c32
           rw [if_neg (show ¬ (false = true) by decide)] at H
           by_cases c33 : 0 < (((rd_T72 l0 x3_1).f6).length : Int)
           case neg => rw [if_neg c33] at H; exact absurd H (by simp)
           rw [if_pos c33] at H
           have c33b0 := decide_eq_true c33
           have c33b1 : decide (0 < ((rd_T72 l0 x3_1).f6).length) = true := decide_eq_true (by omega)
           clear c33
           by_cases c34 : 0 ≤ (rd ((rd_T72 l0 x3_1).f6) 0)
           case neg => rw [if_neg c34] at H; exact absurd H (by simp)
           rw [if_pos c34] at H
           have c34b0 := decide_eq_true c34
           clear c34
           by_cases c35 : (rd ((rd_T72 l0 x3_1).f6) 0) < (l0.length : Int)
           case neg => rw [if_neg c35] at H; exact absurd H (by simp)
           rw [if_pos c35] at H
           have c35b0 := decide_eq_true c35
           clear c35
           by_cases c36 : (((rd_T72 l0 x3_1).f6).length : Int) > 1
           ·rw [if_pos c36] at H
            have c36b0 : decide (1 < (((rd_T72 l0 x3_1).f6).length : Int)) = true := decide_eq_true c36
            have c36b1 : decide (1 < ((rd_T72 l0 x3_1).f6).length) = true := decide_eq_true (by omega)
            clear c36
            obtain rfl := Option.some.inj H
            obtain ⟨⟨hcz37_0, hcz37_1, hcz37_2, hcz37_3, hcz37_4, hcz37_5, hcz37_6⟩, hfz37_0, hfz37_1, hfz37_2, hfz37_3, hfz37_4, hfz37_5, hfz37_6⟩ := Op.cells7 BK277.out
            have p281 : 0 ≤ (0 : Int) := (by omega)
            have q281 : 0 < (((rd_T72 l0 x3_1).f6).length : Int) := of_decide_eq_true ab4
            obtain ⟨ad281, e281, hx281_0⟩ := Kd.at_int HR276_6.out 0 p281 q281
            cases e281
            have qi281 : (0 < ((rd_T72 l0 x3_1).f6).length) = True := eq_true (by omega)
            (try rw [show ((0 : Int)).toNat = 0 from rfl] at hx281_0)
            (try rw [Addr.add_zero'] at hx281_0)
            replace hx281_0 := pw_cell_below HB.out hx281_0
            replace p281 := eq_true p281
            replace q281 := eq_true q281
            have p282 : 0 ≤ ((rd ((rd_T72 l0 x3_1).f6) 0) : Int) := of_decide_eq_true ab4
            have q282 : (rd ((rd_T72 l0 x3_1).f6) 0) < (l0.length : Int) := of_decide_eq_true ab4
            obtain ⟨ad282, A282_3, c282_3, A282_6, c282_6, e282, hx282_0, hx282_1, hx282_2, hx282_3, hx282_4, hx282_5, hx282_6, hl282_3, hi282_3, hl282_6, hi282_6⟩ := at_T72 HR0.out (rd ((rd_T72 l0 x3_1).f6) 0) p282 q282
            obtain rfl : ad276 = ad282 := (by injection e282)
            replace hx282_0 := pw_cell_below HB.out hx282_0
            replace hx282_1 := pw_cell_below HB.out hx282_1
            replace hx282_2 := pw_cell_below HB.out hx282_2
            replace hx282_3 := pw_cell_below HB.out hx282_3
            replace hx282_4 := pw_cell_below HB.out hx282_4
            replace hx282_5 := pw_cell_below HB.out hx282_5
            replace hx282_6 := pw_cell_below HB.out hx282_6
            have HR282_3 := Aside0.mk hi282_3
            have HC282_3 := Aside0.mk hl282_3
            clear hi282_3 hl282_3
            have HR282_6 := Aside0.mk hi282_6
            have HC282_6 := Aside0.mk hl282_6
            clear hi282_6 hl282_6
            replace p282 := eq_true p282
            replace q282 := eq_true q282
            go_wp2
            go_ret
            exact ⟨ab7, ab2 GE277⟩
           ·rw [if_neg c36] at H
            have c36b0 : decide (1 < (((rd_T72 l0 x3_1).f6).length : Int)) = false := decide_eq_false c36
            have c36b1 : decide (1 < ((rd_T72 l0 x3_1).f6).length) = false := decide_eq_false (by omega)
            clear c36
            by_cases c38 : ((rd_T72 l0 (rd ((rd_T72 l0 x3_1).f6) 0)).f0) = 3
            ·rw [if_pos c38] at H
             have c38b0 : (((rd_T72 l0 (rd ((rd_T72 l0 x3_1).f6) 0)).f0) == 3) = true := beq_iff_eq.mpr c38
             have c38b1 : (((rd_T72 l0 (rd ((rd_T72 l0 x3_1).f6) 0)).f0) != 3) = false := bne_eq_false_iff_eq.mpr c38
             clear c38
             by_cases c39 : ((rd_T72 l0 x3_1).f2).toList = ([115, 99, 114, 105, 112, 116] : List UInt8)
             ·rw [if_pos c39] at H
              have c39b0 : (((rd_T72 l0 x3_1).f2).toList == ([115, 99, 114, 105, 112, 116] : List UInt8)) = true := beq_iff_eq.mpr c39
              have c39b1 : (((rd_T72 l0 x3_1).f2).toList != ([115, 99, 114, 105, 112, 116] : List UInt8)) = false := bne_eq_false_iff_eq.mpr c39
              clear c39
              by_cases c40 : ((rd_T72 l0 (rd ((rd_T72 l0 x3_1).f6) 0)).f4).size + 2 ≤ 9223372036854775807
              case neg => rw [if_neg c40] at H; exact absurd H (by simp)
              rw [if_pos c40] at H
              have c40b0 := eq_true c40
              have c40b1 := decide_eq_true c40
              try have c40b2 : (9223372036854775807 < ((rd_T72 l0 (rd ((rd_T72 l0 x3_1).f6) 0)).f4).size + 2) = False := eq_false (Nat.not_lt.2 c40)
              by_cases c41 : (((rd_T72 l0 (rd ((rd_T72 l0 x3_1).f6) 0)).f4) ++ (⟨#[60, 47]⟩ : ByteArray)).size + ((rd_T72 l0 x3_1).f2).size ≤ 9223372036854775807
              case neg => rw [if_neg c41] at H; exact absurd H (by simp)
              rw [if_pos c41] at H
              have c41b0 := eq_true c41
              have c41b1 := decide_eq_true c41
              try (have c41b5 := c41; simp only [ByteArray.size_append, show (⟨#[60, 47]⟩ : ByteArray).size = 2 from rfl] at c41b5; have c41b6 := eq_false (Nat.not_lt.2 c41b5))
              try have c41b2 : (9223372036854775807 < (((rd_T72 l0 (rd ((rd_T72 l0 x3_1).f6) 0)).f4) ++ (⟨#[60, 47]⟩ : ByteArray)).size + ((rd_T72 l0 x3_1).f2).size) = False := eq_false (Nat.not_lt.2 c41)
              by_cases c42 : ((((rd_T72 l0 (rd ((rd_T72 l0 x3_1).f6) 0)).f4) ++ (⟨#[60, 47]⟩ : ByteArray)) ++ ((rd_T72 l0 x3_1).f2)).size + 1 ≤ 9223372036854775807
              case neg => rw [if_neg c42] at H; exact absurd H (by simp)
              rw [if_pos c42] at H
              have c42b0 := eq_true c42
              have c42b1 := decide_eq_true c42
              try (have c42b5 := c42; simp only [ByteArray.size_append, show (⟨#[60, 47]⟩ : ByteArray).size = 2 from rfl] at c42b5; have c42b6 := eq_false (Nat.not_lt.2 c42b5))
              try have c42b2 : (9223372036854775807 < ((((rd_T72 l0 (rd ((rd_T72 l0 x3_1).f6) 0)).f4) ++ (⟨#[60, 47]⟩ : ByteArray)) ++ ((rd_T72 l0 x3_1).f2)).size + 1) = False := eq_false (Nat.not_lt.2 c42)
              replace H := Option.bind_eq_some_iff.mp H
              obtain ⟨t285, A430, H⟩ := H
              try dsimp only at H
              have A43 := Aside0.mk A430
              clear A430
              by_cases c44 : t285 = (((rd_T72 l0 (rd ((rd_T72 l0 x3_1).f6) 0)).f4).size : Int)
              ·rw [if_pos c44] at H
               have c44b0 : (t285 == (((rd_T72 l0 (rd ((rd_T72 l0 x3_1).f6) 0)).f4).size : Int)) = true := beq_iff_eq.mpr c44
               have c44b1 : (t285 != (((rd_T72 l0 (rd ((rd_T72 l0 x3_1).f6) 0)).f4).size : Int)) = false := bne_eq_false_iff_eq.mpr c44
               clear c44
               have H' := Aside0.mk H
               clear H
               obtain ⟨⟨hcz45_0, hcz45_1, hcz45_2, hcz45_3, hcz45_4, hcz45_5, hcz45_6⟩, hfz45_0, hfz45_1, hfz45_2, hfz45_3, hfz45_4, hfz45_5, hfz45_6⟩ := Op.cells7 BK277.out
               have p281 : 0 ≤ (0 : Int) := (by omega)
               have q281 : 0 < (((rd_T72 l0 x3_1).f6).length : Int) := of_decide_eq_true ab4
               obtain ⟨ad281, e281, hx281_0⟩ := Kd.at_int HR276_6.out 0 p281 q281
               cases e281
               have qi281 : (0 < ((rd_T72 l0 x3_1).f6).length) = True := eq_true (by omega)
               (try rw [show ((0 : Int)).toNat = 0 from rfl] at hx281_0)
               (try rw [Addr.add_zero'] at hx281_0)
               replace hx281_0 := pw_cell_below HB.out hx281_0
               replace p281 := eq_true p281
               replace q281 := eq_true q281
               have p282 : 0 ≤ ((rd ((rd_T72 l0 x3_1).f6) 0) : Int) := of_decide_eq_true ab4
               have q282 : (rd ((rd_T72 l0 x3_1).f6) 0) < (l0.length : Int) := of_decide_eq_true ab4
               obtain ⟨ad282, A282_3, c282_3, A282_6, c282_6, e282, hx282_0, hx282_1, hx282_2, hx282_3, hx282_4, hx282_5, hx282_6, hl282_3, hi282_3, hl282_6, hi282_6⟩ := at_T72 HR0.out (rd ((rd_T72 l0 x3_1).f6) 0) p282 q282
               obtain rfl : ad276 = ad282 := (by injection e282)
               replace hx282_0 := pw_cell_below HB.out hx282_0
               replace hx282_1 := pw_cell_below HB.out hx282_1
               replace hx282_2 := pw_cell_below HB.out hx282_2
               replace hx282_3 := pw_cell_below HB.out hx282_3
               replace hx282_4 := pw_cell_below HB.out hx282_4
               replace hx282_5 := pw_cell_below HB.out hx282_5
               replace hx282_6 := pw_cell_below HB.out hx282_6
               have HR282_3 := Aside0.mk hi282_3
               have HC282_3 := Aside0.mk hl282_3
               clear hi282_3 hl282_3
               have HR282_6 := Aside0.mk hi282_6
               have HC282_6 := Aside0.mk hl282_6
               clear hi282_6 hl282_6
               replace p282 := eq_true p282
               replace q282 := eq_true q282
               have p283 : 0 ≤ (0 : Int) := (by omega)
               have q283 : 0 < (((rd_T72 l0 x3_1).f6).length : Int) := of_decide_eq_true ab4
               obtain ⟨ad283, e283, hx283_0⟩ := Kd.at_int HR276_6.out 0 p283 q283
               obtain rfl : ad281 = ad283 := (by injection e283)
               have qi283 : (0 < ((rd_T72 l0 x3_1).f6).length) = True := eq_true (by omega)
               (try rw [show ((0 : Int)).toNat = 0 from rfl] at hx283_0)
               (try rw [Addr.add_zero'] at hx283_0)
               replace hx283_0 := pw_cell_below HB.out hx283_0
               replace p283 := eq_true p283
               replace q283 := eq_true q283
               have p284 : 0 ≤ ((rd ((rd_T72 l0 x3_1).f6) 0) : Int) := of_decide_eq_true ab4
               have q284 : (rd ((rd_T72 l0 x3_1).f6) 0) < (l0.length : Int) := of_decide_eq_true ab4
               obtain ⟨ad284, A284_3, c284_3, A284_6, c284_6, e284, hx284_0, hx284_1, hx284_2, hx284_3, hx284_4, hx284_5, hx284_6, hl284_3, hi284_3, hl284_6, hi284_6⟩ := at_T72 HR0.out (rd ((rd_T72 l0 x3_1).f6) 0) p284 q284
               obtain rfl : ad276 = ad284 := (by injection e284)
               replace hx284_0 := pw_cell_below HB.out hx284_0
               replace hx284_1 := pw_cell_below HB.out hx284_1
               replace hx284_2 := pw_cell_below HB.out hx284_2
               replace hx284_3 := pw_cell_below HB.out hx284_3
               replace hx284_4 := pw_cell_below HB.out hx284_4
               replace hx284_5 := pw_cell_below HB.out hx284_5
               replace hx284_6 := pw_cell_below HB.out hx284_6
               have HR284_3 := Aside0.mk hi284_3
               have HC284_3 := Aside0.mk hl284_3
               clear hi284_3 hl284_3
               have HR284_6 := Aside0.mk hi284_6
               have HC284_6 := Aside0.mk hl284_6
               clear hi284_6 hl284_6
               replace p284 := eq_true p284
               replace q284 := eq_true q284
               have ea_ := Option.some.inj (hx282_3.symm.trans hx284_3)
               injection ea_ with ea_ en_ ec_
               subst ea_
               subst ec_
               clear en_
               have ea_ := Option.some.inj (hx282_6.symm.trans hx284_6)
               injection ea_ with ea_ en_ ec_
               subst ea_
               subst ec_
               clear en_
               go_wp2_with (first | (go_at_call 63; (with_reducible refine (spec_RawEnd.calls kj24 (((((rd_T72 l0 (rd ((rd_T72 l0 x3_1).f6) 0)).f4) ++ (⟨#[60, 47]⟩ : ByteArray)) ++ ((rd_T72 l0 x3_1).f2)) ++ (⟨#[62]⟩ : ByteArray)) 0 ((rd_T72 l0 x3_1).f2) t285 _ A43.out).mono ?_); rintro e w46 ⟨rfl, hb⟩; have n0_ := Aside0.mk (blk_below (g := gb277) (o := .cells #[.int .i64 ((rd_T72 l0 x3_1).f0), .int .i64 ((rd_T72 l0 x3_1).f1), .string ((rd_T72 l0 x3_1).f2), .slice A276_3 ((rd_T72 l0 x3_1).f3).length c276_3, .string ((rd_T72 l0 x3_1).f4), .int .i64 ((rd_T72 l0 x3_1).f5), .slice (some ad281) ((rd_T72 l0 x3_1).f6).length c276_6] 72 (0, 0)) (ab3 BK277) hb); have n1_ := Aside0.mk (below_step (ab2 GE277) hb); clear BK277; clear HB; have BK277 := n0_; have HB := n1_; clear n0_ n1_; (try clear hb); (try clear hb2); (try clear hk); (try clear hi)))
               go_roundg kj24
               case measure => have := HK1.out; have := HJ6.out; have := HJ24.out; omega
               case rel => exact ⟨(wrap64 (x3_1 + 1)), ab6, H', ⟨by have := HK1.out; have := HJ6.out; have := HJ24.out; omega⟩, ⟨ab2 GE277⟩⟩
              ·rw [if_neg c44] at H
               have c44b0 : (t285 == (((rd_T72 l0 (rd ((rd_T72 l0 x3_1).f6) 0)).f4).size : Int)) = false := beq_eq_false_iff_ne.mpr c44
               have c44b1 : (t285 != (((rd_T72 l0 (rd ((rd_T72 l0 x3_1).f6) 0)).f4).size : Int)) = true := bne_iff_ne.mpr c44
               obtain rfl := Option.some.inj H
               obtain ⟨⟨hcz47_0, hcz47_1, hcz47_2, hcz47_3, hcz47_4, hcz47_5, hcz47_6⟩, hfz47_0, hfz47_1, hfz47_2, hfz47_3, hfz47_4, hfz47_5, hfz47_6⟩ := Op.cells7 BK277.out
               have p281 : 0 ≤ (0 : Int) := (by omega)
               have q281 : 0 < (((rd_T72 l0 x3_1).f6).length : Int) := of_decide_eq_true ab4
               obtain ⟨ad281, e281, hx281_0⟩ := Kd.at_int HR276_6.out 0 p281 q281
               cases e281
               have qi281 : (0 < ((rd_T72 l0 x3_1).f6).length) = True := eq_true (by omega)
               (try rw [show ((0 : Int)).toNat = 0 from rfl] at hx281_0)
               (try rw [Addr.add_zero'] at hx281_0)
               replace hx281_0 := pw_cell_below HB.out hx281_0
               replace p281 := eq_true p281
               replace q281 := eq_true q281
               have p282 : 0 ≤ ((rd ((rd_T72 l0 x3_1).f6) 0) : Int) := of_decide_eq_true ab4
               have q282 : (rd ((rd_T72 l0 x3_1).f6) 0) < (l0.length : Int) := of_decide_eq_true ab4
               obtain ⟨ad282, A282_3, c282_3, A282_6, c282_6, e282, hx282_0, hx282_1, hx282_2, hx282_3, hx282_4, hx282_5, hx282_6, hl282_3, hi282_3, hl282_6, hi282_6⟩ := at_T72 HR0.out (rd ((rd_T72 l0 x3_1).f6) 0) p282 q282
               obtain rfl : ad276 = ad282 := (by injection e282)
               replace hx282_0 := pw_cell_below HB.out hx282_0
               replace hx282_1 := pw_cell_below HB.out hx282_1
               replace hx282_2 := pw_cell_below HB.out hx282_2
               replace hx282_3 := pw_cell_below HB.out hx282_3
               replace hx282_4 := pw_cell_below HB.out hx282_4
               replace hx282_5 := pw_cell_below HB.out hx282_5
               replace hx282_6 := pw_cell_below HB.out hx282_6
               have HR282_3 := Aside0.mk hi282_3
               have HC282_3 := Aside0.mk hl282_3
               clear hi282_3 hl282_3
               have HR282_6 := Aside0.mk hi282_6
               have HC282_6 := Aside0.mk hl282_6
               clear hi282_6 hl282_6
               replace p282 := eq_true p282
               replace q282 := eq_true q282
               have p283 : 0 ≤ (0 : Int) := (by omega)
               have q283 : 0 < (((rd_T72 l0 x3_1).f6).length : Int) := of_decide_eq_true ab4
               obtain ⟨ad283, e283, hx283_0⟩ := Kd.at_int HR276_6.out 0 p283 q283
               obtain rfl : ad281 = ad283 := (by injection e283)
               have qi283 : (0 < ((rd_T72 l0 x3_1).f6).length) = True := eq_true (by omega)
               (try rw [show ((0 : Int)).toNat = 0 from rfl] at hx283_0)
               (try rw [Addr.add_zero'] at hx283_0)
               replace hx283_0 := pw_cell_below HB.out hx283_0
               replace p283 := eq_true p283
               replace q283 := eq_true q283
               have p284 : 0 ≤ ((rd ((rd_T72 l0 x3_1).f6) 0) : Int) := of_decide_eq_true ab4
               have q284 : (rd ((rd_T72 l0 x3_1).f6) 0) < (l0.length : Int) := of_decide_eq_true ab4
               obtain ⟨ad284, A284_3, c284_3, A284_6, c284_6, e284, hx284_0, hx284_1, hx284_2, hx284_3, hx284_4, hx284_5, hx284_6, hl284_3, hi284_3, hl284_6, hi284_6⟩ := at_T72 HR0.out (rd ((rd_T72 l0 x3_1).f6) 0) p284 q284
               obtain rfl : ad276 = ad284 := (by injection e284)
               replace hx284_0 := pw_cell_below HB.out hx284_0
               replace hx284_1 := pw_cell_below HB.out hx284_1
               replace hx284_2 := pw_cell_below HB.out hx284_2
               replace hx284_3 := pw_cell_below HB.out hx284_3
               replace hx284_4 := pw_cell_below HB.out hx284_4
               replace hx284_5 := pw_cell_below HB.out hx284_5
               replace hx284_6 := pw_cell_below HB.out hx284_6
               have HR284_3 := Aside0.mk hi284_3
               have HC284_3 := Aside0.mk hl284_3
               clear hi284_3 hl284_3
               have HR284_6 := Aside0.mk hi284_6
               have HC284_6 := Aside0.mk hl284_6
               clear hi284_6 hl284_6
               replace p284 := eq_true p284
               replace q284 := eq_true q284
               have ea_ := Option.some.inj (hx282_3.symm.trans hx284_3)
               injection ea_ with ea_ en_ ec_
               subst ea_
               subst ec_
               clear en_
               have ea_ := Option.some.inj (hx282_6.symm.trans hx284_6)
               injection ea_ with ea_ en_ ec_
               subst ea_
               subst ec_
               clear en_
               go_wp2_with (first | (go_at_call 63; (with_reducible refine (spec_RawEnd.calls kj24 (((((rd_T72 l0 (rd ((rd_T72 l0 x3_1).f6) 0)).f4) ++ (⟨#[60, 47]⟩ : ByteArray)) ++ ((rd_T72 l0 x3_1).f2)) ++ (⟨#[62]⟩ : ByteArray)) 0 ((rd_T72 l0 x3_1).f2) t285 _ A43.out).mono ?_); rintro e w48 ⟨rfl, hb⟩; have n0_ := Aside0.mk (blk_below (g := gb277) (o := .cells #[.int .i64 ((rd_T72 l0 x3_1).f0), .int .i64 ((rd_T72 l0 x3_1).f1), .string ((rd_T72 l0 x3_1).f2), .slice A276_3 ((rd_T72 l0 x3_1).f3).length c276_3, .string ((rd_T72 l0 x3_1).f4), .int .i64 ((rd_T72 l0 x3_1).f5), .slice (some ad281) ((rd_T72 l0 x3_1).f6).length c276_6] 72 (0, 0)) (ab3 BK277) hb); have n1_ := Aside0.mk (below_step (ab2 GE277) hb); clear BK277; clear HB; have BK277 := n0_; have HB := n1_; clear n0_ n1_; (try clear hb); (try clear hb2); (try clear hk); (try clear hi)))
               go_ret
               exact ⟨ab7, ab2 GE277⟩
             ·rw [if_neg c39] at H
              have c39b0 : (((rd_T72 l0 x3_1).f2).toList == ([115, 99, 114, 105, 112, 116] : List UInt8)) = false := beq_eq_false_iff_ne.mpr c39
              have c39b1 : (((rd_T72 l0 x3_1).f2).toList != ([115, 99, 114, 105, 112, 116] : List UInt8)) = true := bne_iff_ne.mpr c39
              by_cases c49 : ((rd_T72 l0 x3_1).f2).toList = ([115, 116, 121, 108, 101] : List UInt8)
              ·rw [if_pos c49] at H
               have c49b0 : (((rd_T72 l0 x3_1).f2).toList == ([115, 116, 121, 108, 101] : List UInt8)) = true := beq_iff_eq.mpr c49
               have c49b1 : (((rd_T72 l0 x3_1).f2).toList != ([115, 116, 121, 108, 101] : List UInt8)) = false := bne_eq_false_iff_eq.mpr c49
               clear c49
               by_cases c50 : ((rd_T72 l0 (rd ((rd_T72 l0 x3_1).f6) 0)).f4).size + 2 ≤ 9223372036854775807
               case neg => rw [if_neg c50] at H; exact absurd H (by simp)
               rw [if_pos c50] at H
               have c50b0 := eq_true c50
               have c50b1 := decide_eq_true c50
               try have c50b2 : (9223372036854775807 < ((rd_T72 l0 (rd ((rd_T72 l0 x3_1).f6) 0)).f4).size + 2) = False := eq_false (Nat.not_lt.2 c50)
               by_cases c51 : (((rd_T72 l0 (rd ((rd_T72 l0 x3_1).f6) 0)).f4) ++ (⟨#[60, 47]⟩ : ByteArray)).size + ((rd_T72 l0 x3_1).f2).size ≤ 9223372036854775807
               case neg => rw [if_neg c51] at H; exact absurd H (by simp)
               rw [if_pos c51] at H
               have c51b0 := eq_true c51
               have c51b1 := decide_eq_true c51
               try (have c51b5 := c51; simp only [ByteArray.size_append, show (⟨#[60, 47]⟩ : ByteArray).size = 2 from rfl] at c51b5; have c51b6 := eq_false (Nat.not_lt.2 c51b5))
               try have c51b2 : (9223372036854775807 < (((rd_T72 l0 (rd ((rd_T72 l0 x3_1).f6) 0)).f4) ++ (⟨#[60, 47]⟩ : ByteArray)).size + ((rd_T72 l0 x3_1).f2).size) = False := eq_false (Nat.not_lt.2 c51)
               by_cases c52 : ((((rd_T72 l0 (rd ((rd_T72 l0 x3_1).f6) 0)).f4) ++ (⟨#[60, 47]⟩ : ByteArray)) ++ ((rd_T72 l0 x3_1).f2)).size + 1 ≤ 9223372036854775807
               case neg => rw [if_neg c52] at H; exact absurd H (by simp)
               rw [if_pos c52] at H
               have c52b0 := eq_true c52
               have c52b1 := decide_eq_true c52
               try (have c52b5 := c52; simp only [ByteArray.size_append, show (⟨#[60, 47]⟩ : ByteArray).size = 2 from rfl] at c52b5; have c52b6 := eq_false (Nat.not_lt.2 c52b5))
               try have c52b2 : (9223372036854775807 < ((((rd_T72 l0 (rd ((rd_T72 l0 x3_1).f6) 0)).f4) ++ (⟨#[60, 47]⟩ : ByteArray)) ++ ((rd_T72 l0 x3_1).f2)).size + 1) = False := eq_false (Nat.not_lt.2 c52)
               replace H := Option.bind_eq_some_iff.mp H
               obtain ⟨t286, A530, H⟩ := H
               try dsimp only at H
               have A53 := Aside0.mk A530
               clear A530
               by_cases c54 : t286 = (((rd_T72 l0 (rd ((rd_T72 l0 x3_1).f6) 0)).f4).size : Int)
               ·rw [if_pos c54] at H
                have c54b0 : (t286 == (((rd_T72 l0 (rd ((rd_T72 l0 x3_1).f6) 0)).f4).size : Int)) = true := beq_iff_eq.mpr c54
                have c54b1 : (t286 != (((rd_T72 l0 (rd ((rd_T72 l0 x3_1).f6) 0)).f4).size : Int)) = false := bne_eq_false_iff_eq.mpr c54
                clear c54
                have H' := Aside0.mk H
                clear H
                obtain ⟨⟨hcz55_0, hcz55_1, hcz55_2, hcz55_3, hcz55_4, hcz55_5, hcz55_6⟩, hfz55_0, hfz55_1, hfz55_2, hfz55_3, hfz55_4, hfz55_5, hfz55_6⟩ := Op.cells7 BK277.out
                have p281 : 0 ≤ (0 : Int) := (by omega)
                have q281 : 0 < (((rd_T72 l0 x3_1).f6).length : Int) := of_decide_eq_true ab4
                obtain ⟨ad281, e281, hx281_0⟩ := Kd.at_int HR276_6.out 0 p281 q281
                cases e281
                have qi281 : (0 < ((rd_T72 l0 x3_1).f6).length) = True := eq_true (by omega)
                (try rw [show ((0 : Int)).toNat = 0 from rfl] at hx281_0)
                (try rw [Addr.add_zero'] at hx281_0)
                replace hx281_0 := pw_cell_below HB.out hx281_0
                replace p281 := eq_true p281
                replace q281 := eq_true q281
                have p282 : 0 ≤ ((rd ((rd_T72 l0 x3_1).f6) 0) : Int) := of_decide_eq_true ab4
                have q282 : (rd ((rd_T72 l0 x3_1).f6) 0) < (l0.length : Int) := of_decide_eq_true ab4
                obtain ⟨ad282, A282_3, c282_3, A282_6, c282_6, e282, hx282_0, hx282_1, hx282_2, hx282_3, hx282_4, hx282_5, hx282_6, hl282_3, hi282_3, hl282_6, hi282_6⟩ := at_T72 HR0.out (rd ((rd_T72 l0 x3_1).f6) 0) p282 q282
                obtain rfl : ad276 = ad282 := (by injection e282)
                replace hx282_0 := pw_cell_below HB.out hx282_0
                replace hx282_1 := pw_cell_below HB.out hx282_1
                replace hx282_2 := pw_cell_below HB.out hx282_2
                replace hx282_3 := pw_cell_below HB.out hx282_3
                replace hx282_4 := pw_cell_below HB.out hx282_4
                replace hx282_5 := pw_cell_below HB.out hx282_5
                replace hx282_6 := pw_cell_below HB.out hx282_6
                have HR282_3 := Aside0.mk hi282_3
                have HC282_3 := Aside0.mk hl282_3
                clear hi282_3 hl282_3
                have HR282_6 := Aside0.mk hi282_6
                have HC282_6 := Aside0.mk hl282_6
                clear hi282_6 hl282_6
                replace p282 := eq_true p282
                replace q282 := eq_true q282
                have p283 : 0 ≤ (0 : Int) := (by omega)
                have q283 : 0 < (((rd_T72 l0 x3_1).f6).length : Int) := of_decide_eq_true ab4
                obtain ⟨ad283, e283, hx283_0⟩ := Kd.at_int HR276_6.out 0 p283 q283
                obtain rfl : ad281 = ad283 := (by injection e283)
                have qi283 : (0 < ((rd_T72 l0 x3_1).f6).length) = True := eq_true (by omega)
                (try rw [show ((0 : Int)).toNat = 0 from rfl] at hx283_0)
                (try rw [Addr.add_zero'] at hx283_0)
                replace hx283_0 := pw_cell_below HB.out hx283_0
                replace p283 := eq_true p283
                replace q283 := eq_true q283
                have p284 : 0 ≤ ((rd ((rd_T72 l0 x3_1).f6) 0) : Int) := of_decide_eq_true ab4
                have q284 : (rd ((rd_T72 l0 x3_1).f6) 0) < (l0.length : Int) := of_decide_eq_true ab4
                obtain ⟨ad284, A284_3, c284_3, A284_6, c284_6, e284, hx284_0, hx284_1, hx284_2, hx284_3, hx284_4, hx284_5, hx284_6, hl284_3, hi284_3, hl284_6, hi284_6⟩ := at_T72 HR0.out (rd ((rd_T72 l0 x3_1).f6) 0) p284 q284
                obtain rfl : ad276 = ad284 := (by injection e284)
                replace hx284_0 := pw_cell_below HB.out hx284_0
                replace hx284_1 := pw_cell_below HB.out hx284_1
                replace hx284_2 := pw_cell_below HB.out hx284_2
                replace hx284_3 := pw_cell_below HB.out hx284_3
                replace hx284_4 := pw_cell_below HB.out hx284_4
                replace hx284_5 := pw_cell_below HB.out hx284_5
                replace hx284_6 := pw_cell_below HB.out hx284_6
                have HR284_3 := Aside0.mk hi284_3
                have HC284_3 := Aside0.mk hl284_3
                clear hi284_3 hl284_3
                have HR284_6 := Aside0.mk hi284_6
                have HC284_6 := Aside0.mk hl284_6
                clear hi284_6 hl284_6
                replace p284 := eq_true p284
                replace q284 := eq_true q284
                have ea_ := Option.some.inj (hx282_3.symm.trans hx284_3)
                injection ea_ with ea_ en_ ec_
                subst ea_
                subst ec_
                clear en_
                have ea_ := Option.some.inj (hx282_6.symm.trans hx284_6)
                injection ea_ with ea_ en_ ec_
                subst ea_
                subst ec_
                clear en_
                go_wp2_with (first | (go_at_call 63; (with_reducible refine (spec_RawEnd.calls kj24 (((((rd_T72 l0 (rd ((rd_T72 l0 x3_1).f6) 0)).f4) ++ (⟨#[60, 47]⟩ : ByteArray)) ++ ((rd_T72 l0 x3_1).f2)) ++ (⟨#[62]⟩ : ByteArray)) 0 ((rd_T72 l0 x3_1).f2) t286 _ A53.out).mono ?_); rintro e w56 ⟨rfl, hb⟩; have n0_ := Aside0.mk (blk_below (g := gb277) (o := .cells #[.int .i64 ((rd_T72 l0 x3_1).f0), .int .i64 ((rd_T72 l0 x3_1).f1), .string ((rd_T72 l0 x3_1).f2), .slice A276_3 ((rd_T72 l0 x3_1).f3).length c276_3, .string ((rd_T72 l0 x3_1).f4), .int .i64 ((rd_T72 l0 x3_1).f5), .slice (some ad281) ((rd_T72 l0 x3_1).f6).length c276_6] 72 (0, 0)) (ab3 BK277) hb); have n1_ := Aside0.mk (below_step (ab2 GE277) hb); clear BK277; clear HB; have BK277 := n0_; have HB := n1_; clear n0_ n1_; (try clear hb); (try clear hb2); (try clear hk); (try clear hi)))
                go_roundg kj24
                case measure => have := HK1.out; have := HJ6.out; have := HJ24.out; omega
                case rel => exact ⟨(wrap64 (x3_1 + 1)), ab6, H', ⟨by have := HK1.out; have := HJ6.out; have := HJ24.out; omega⟩, ⟨ab2 GE277⟩⟩
               ·rw [if_neg c54] at H
                have c54b0 : (t286 == (((rd_T72 l0 (rd ((rd_T72 l0 x3_1).f6) 0)).f4).size : Int)) = false := beq_eq_false_iff_ne.mpr c54
                have c54b1 : (t286 != (((rd_T72 l0 (rd ((rd_T72 l0 x3_1).f6) 0)).f4).size : Int)) = true := bne_iff_ne.mpr c54
                obtain rfl := Option.some.inj H
                obtain ⟨⟨hcz57_0, hcz57_1, hcz57_2, hcz57_3, hcz57_4, hcz57_5, hcz57_6⟩, hfz57_0, hfz57_1, hfz57_2, hfz57_3, hfz57_4, hfz57_5, hfz57_6⟩ := Op.cells7 BK277.out
                have p281 : 0 ≤ (0 : Int) := (by omega)
                have q281 : 0 < (((rd_T72 l0 x3_1).f6).length : Int) := of_decide_eq_true ab4
                obtain ⟨ad281, e281, hx281_0⟩ := Kd.at_int HR276_6.out 0 p281 q281
                cases e281
                have qi281 : (0 < ((rd_T72 l0 x3_1).f6).length) = True := eq_true (by omega)
                (try rw [show ((0 : Int)).toNat = 0 from rfl] at hx281_0)
                (try rw [Addr.add_zero'] at hx281_0)
                replace hx281_0 := pw_cell_below HB.out hx281_0
                replace p281 := eq_true p281
                replace q281 := eq_true q281
                have p282 : 0 ≤ ((rd ((rd_T72 l0 x3_1).f6) 0) : Int) := of_decide_eq_true ab4
                have q282 : (rd ((rd_T72 l0 x3_1).f6) 0) < (l0.length : Int) := of_decide_eq_true ab4
                obtain ⟨ad282, A282_3, c282_3, A282_6, c282_6, e282, hx282_0, hx282_1, hx282_2, hx282_3, hx282_4, hx282_5, hx282_6, hl282_3, hi282_3, hl282_6, hi282_6⟩ := at_T72 HR0.out (rd ((rd_T72 l0 x3_1).f6) 0) p282 q282
                obtain rfl : ad276 = ad282 := (by injection e282)
                replace hx282_0 := pw_cell_below HB.out hx282_0
                replace hx282_1 := pw_cell_below HB.out hx282_1
                replace hx282_2 := pw_cell_below HB.out hx282_2
                replace hx282_3 := pw_cell_below HB.out hx282_3
                replace hx282_4 := pw_cell_below HB.out hx282_4
                replace hx282_5 := pw_cell_below HB.out hx282_5
                replace hx282_6 := pw_cell_below HB.out hx282_6
                have HR282_3 := Aside0.mk hi282_3
                have HC282_3 := Aside0.mk hl282_3
                clear hi282_3 hl282_3
                have HR282_6 := Aside0.mk hi282_6
                have HC282_6 := Aside0.mk hl282_6
                clear hi282_6 hl282_6
                replace p282 := eq_true p282
                replace q282 := eq_true q282
                have p283 : 0 ≤ (0 : Int) := (by omega)
                have q283 : 0 < (((rd_T72 l0 x3_1).f6).length : Int) := of_decide_eq_true ab4
                obtain ⟨ad283, e283, hx283_0⟩ := Kd.at_int HR276_6.out 0 p283 q283
                obtain rfl : ad281 = ad283 := (by injection e283)
                have qi283 : (0 < ((rd_T72 l0 x3_1).f6).length) = True := eq_true (by omega)
                (try rw [show ((0 : Int)).toNat = 0 from rfl] at hx283_0)
                (try rw [Addr.add_zero'] at hx283_0)
                replace hx283_0 := pw_cell_below HB.out hx283_0
                replace p283 := eq_true p283
                replace q283 := eq_true q283
                have p284 : 0 ≤ ((rd ((rd_T72 l0 x3_1).f6) 0) : Int) := of_decide_eq_true ab4
                have q284 : (rd ((rd_T72 l0 x3_1).f6) 0) < (l0.length : Int) := of_decide_eq_true ab4
                obtain ⟨ad284, A284_3, c284_3, A284_6, c284_6, e284, hx284_0, hx284_1, hx284_2, hx284_3, hx284_4, hx284_5, hx284_6, hl284_3, hi284_3, hl284_6, hi284_6⟩ := at_T72 HR0.out (rd ((rd_T72 l0 x3_1).f6) 0) p284 q284
                obtain rfl : ad276 = ad284 := (by injection e284)
                replace hx284_0 := pw_cell_below HB.out hx284_0
                replace hx284_1 := pw_cell_below HB.out hx284_1
                replace hx284_2 := pw_cell_below HB.out hx284_2
                replace hx284_3 := pw_cell_below HB.out hx284_3
                replace hx284_4 := pw_cell_below HB.out hx284_4
                replace hx284_5 := pw_cell_below HB.out hx284_5
                replace hx284_6 := pw_cell_below HB.out hx284_6
                have HR284_3 := Aside0.mk hi284_3
                have HC284_3 := Aside0.mk hl284_3
                clear hi284_3 hl284_3
                have HR284_6 := Aside0.mk hi284_6
                have HC284_6 := Aside0.mk hl284_6
                clear hi284_6 hl284_6
                replace p284 := eq_true p284
                replace q284 := eq_true q284
                have ea_ := Option.some.inj (hx282_3.symm.trans hx284_3)
                injection ea_ with ea_ en_ ec_
                subst ea_
                subst ec_
                clear en_
                have ea_ := Option.some.inj (hx282_6.symm.trans hx284_6)
                injection ea_ with ea_ en_ ec_
                subst ea_
                subst ec_
                clear en_
                go_wp2_with (first | (go_at_call 63; (with_reducible refine (spec_RawEnd.calls kj24 (((((rd_T72 l0 (rd ((rd_T72 l0 x3_1).f6) 0)).f4) ++ (⟨#[60, 47]⟩ : ByteArray)) ++ ((rd_T72 l0 x3_1).f2)) ++ (⟨#[62]⟩ : ByteArray)) 0 ((rd_T72 l0 x3_1).f2) t286 _ A53.out).mono ?_); rintro e w58 ⟨rfl, hb⟩; have n0_ := Aside0.mk (blk_below (g := gb277) (o := .cells #[.int .i64 ((rd_T72 l0 x3_1).f0), .int .i64 ((rd_T72 l0 x3_1).f1), .string ((rd_T72 l0 x3_1).f2), .slice A276_3 ((rd_T72 l0 x3_1).f3).length c276_3, .string ((rd_T72 l0 x3_1).f4), .int .i64 ((rd_T72 l0 x3_1).f5), .slice (some ad281) ((rd_T72 l0 x3_1).f6).length c276_6] 72 (0, 0)) (ab3 BK277) hb); have n1_ := Aside0.mk (below_step (ab2 GE277) hb); clear BK277; clear HB; have BK277 := n0_; have HB := n1_; clear n0_ n1_; (try clear hb); (try clear hb2); (try clear hk); (try clear hi)))
                go_ret
                exact ⟨ab7, ab2 GE277⟩
              ·rw [if_neg c49] at H
               have c49b0 : (((rd_T72 l0 x3_1).f2).toList == ([115, 116, 121, 108, 101] : List UInt8)) = false := beq_eq_false_iff_ne.mpr c49
               have c49b1 : (((rd_T72 l0 x3_1).f2).toList != ([115, 116, 121, 108, 101] : List UInt8)) = true := bne_iff_ne.mpr c49
               have H' := Aside0.mk H
               clear H
               obtain ⟨⟨hcz59_0, hcz59_1, hcz59_2, hcz59_3, hcz59_4, hcz59_5, hcz59_6⟩, hfz59_0, hfz59_1, hfz59_2, hfz59_3, hfz59_4, hfz59_5, hfz59_6⟩ := Op.cells7 BK277.out
               have p281 : 0 ≤ (0 : Int) := (by omega)
               have q281 : 0 < (((rd_T72 l0 x3_1).f6).length : Int) := of_decide_eq_true ab4
               obtain ⟨ad281, e281, hx281_0⟩ := Kd.at_int HR276_6.out 0 p281 q281
               cases e281
               have qi281 : (0 < ((rd_T72 l0 x3_1).f6).length) = True := eq_true (by omega)
               (try rw [show ((0 : Int)).toNat = 0 from rfl] at hx281_0)
               (try rw [Addr.add_zero'] at hx281_0)
               replace hx281_0 := pw_cell_below HB.out hx281_0
               replace p281 := eq_true p281
               replace q281 := eq_true q281
               have p282 : 0 ≤ ((rd ((rd_T72 l0 x3_1).f6) 0) : Int) := of_decide_eq_true ab4
               have q282 : (rd ((rd_T72 l0 x3_1).f6) 0) < (l0.length : Int) := of_decide_eq_true ab4
               obtain ⟨ad282, A282_3, c282_3, A282_6, c282_6, e282, hx282_0, hx282_1, hx282_2, hx282_3, hx282_4, hx282_5, hx282_6, hl282_3, hi282_3, hl282_6, hi282_6⟩ := at_T72 HR0.out (rd ((rd_T72 l0 x3_1).f6) 0) p282 q282
               obtain rfl : ad276 = ad282 := (by injection e282)
               replace hx282_0 := pw_cell_below HB.out hx282_0
               replace hx282_1 := pw_cell_below HB.out hx282_1
               replace hx282_2 := pw_cell_below HB.out hx282_2
               replace hx282_3 := pw_cell_below HB.out hx282_3
               replace hx282_4 := pw_cell_below HB.out hx282_4
               replace hx282_5 := pw_cell_below HB.out hx282_5
               replace hx282_6 := pw_cell_below HB.out hx282_6
               have HR282_3 := Aside0.mk hi282_3
               have HC282_3 := Aside0.mk hl282_3
               clear hi282_3 hl282_3
               have HR282_6 := Aside0.mk hi282_6
               have HC282_6 := Aside0.mk hl282_6
               clear hi282_6 hl282_6
               replace p282 := eq_true p282
               replace q282 := eq_true q282
               have p283 : 0 ≤ (0 : Int) := (by omega)
               have q283 : 0 < (((rd_T72 l0 x3_1).f6).length : Int) := of_decide_eq_true ab4
               obtain ⟨ad283, e283, hx283_0⟩ := Kd.at_int HR276_6.out 0 p283 q283
               obtain rfl : ad281 = ad283 := (by injection e283)
               have qi283 : (0 < ((rd_T72 l0 x3_1).f6).length) = True := eq_true (by omega)
               (try rw [show ((0 : Int)).toNat = 0 from rfl] at hx283_0)
               (try rw [Addr.add_zero'] at hx283_0)
               replace hx283_0 := pw_cell_below HB.out hx283_0
               replace p283 := eq_true p283
               replace q283 := eq_true q283
               have p284 : 0 ≤ ((rd ((rd_T72 l0 x3_1).f6) 0) : Int) := of_decide_eq_true ab4
               have q284 : (rd ((rd_T72 l0 x3_1).f6) 0) < (l0.length : Int) := of_decide_eq_true ab4
               obtain ⟨ad284, A284_3, c284_3, A284_6, c284_6, e284, hx284_0, hx284_1, hx284_2, hx284_3, hx284_4, hx284_5, hx284_6, hl284_3, hi284_3, hl284_6, hi284_6⟩ := at_T72 HR0.out (rd ((rd_T72 l0 x3_1).f6) 0) p284 q284
               obtain rfl : ad276 = ad284 := (by injection e284)
               replace hx284_0 := pw_cell_below HB.out hx284_0
               replace hx284_1 := pw_cell_below HB.out hx284_1
               replace hx284_2 := pw_cell_below HB.out hx284_2
               replace hx284_3 := pw_cell_below HB.out hx284_3
               replace hx284_4 := pw_cell_below HB.out hx284_4
               replace hx284_5 := pw_cell_below HB.out hx284_5
               replace hx284_6 := pw_cell_below HB.out hx284_6
               have HR284_3 := Aside0.mk hi284_3
               have HC284_3 := Aside0.mk hl284_3
               clear hi284_3 hl284_3
               have HR284_6 := Aside0.mk hi284_6
               have HC284_6 := Aside0.mk hl284_6
               clear hi284_6 hl284_6
               replace p284 := eq_true p284
               replace q284 := eq_true q284
               have ea_ := Option.some.inj (hx282_3.symm.trans hx284_3)
               injection ea_ with ea_ en_ ec_
               subst ea_
               subst ec_
               clear en_
               have ea_ := Option.some.inj (hx282_6.symm.trans hx284_6)
               injection ea_ with ea_ en_ ec_
               subst ea_
               subst ec_
               clear en_
               go_wp2
               go_roundg kj24
               case measure => have := HK1.out; have := HJ6.out; have := HJ24.out; omega
               case rel => exact ⟨(wrap64 (x3_1 + 1)), ab6, H', ⟨by have := HK1.out; have := HJ6.out; have := HJ24.out; omega⟩, ⟨ab2 GE277⟩⟩
            ·rw [if_neg c38] at H
             have c38b0 : (((rd_T72 l0 (rd ((rd_T72 l0 x3_1).f6) 0)).f0) == 3) = false := beq_eq_false_iff_ne.mpr c38
             have c38b1 : (((rd_T72 l0 (rd ((rd_T72 l0 x3_1).f6) 0)).f0) != 3) = true := bne_iff_ne.mpr c38
             obtain rfl := Option.some.inj H
             obtain ⟨⟨hcz60_0, hcz60_1, hcz60_2, hcz60_3, hcz60_4, hcz60_5, hcz60_6⟩, hfz60_0, hfz60_1, hfz60_2, hfz60_3, hfz60_4, hfz60_5, hfz60_6⟩ := Op.cells7 BK277.out
             have p281 : 0 ≤ (0 : Int) := (by omega)
             have q281 : 0 < (((rd_T72 l0 x3_1).f6).length : Int) := of_decide_eq_true ab4
             obtain ⟨ad281, e281, hx281_0⟩ := Kd.at_int HR276_6.out 0 p281 q281
             cases e281
             have qi281 : (0 < ((rd_T72 l0 x3_1).f6).length) = True := eq_true (by omega)
             (try rw [show ((0 : Int)).toNat = 0 from rfl] at hx281_0)
             (try rw [Addr.add_zero'] at hx281_0)
             replace hx281_0 := pw_cell_below HB.out hx281_0
             replace p281 := eq_true p281
             replace q281 := eq_true q281
             have p282 : 0 ≤ ((rd ((rd_T72 l0 x3_1).f6) 0) : Int) := of_decide_eq_true ab4
             have q282 : (rd ((rd_T72 l0 x3_1).f6) 0) < (l0.length : Int) := of_decide_eq_true ab4
             obtain ⟨ad282, A282_3, c282_3, A282_6, c282_6, e282, hx282_0, hx282_1, hx282_2, hx282_3, hx282_4, hx282_5, hx282_6, hl282_3, hi282_3, hl282_6, hi282_6⟩ := at_T72 HR0.out (rd ((rd_T72 l0 x3_1).f6) 0) p282 q282
             obtain rfl : ad276 = ad282 := (by injection e282)
             replace hx282_0 := pw_cell_below HB.out hx282_0
             replace hx282_1 := pw_cell_below HB.out hx282_1
             replace hx282_2 := pw_cell_below HB.out hx282_2
             replace hx282_3 := pw_cell_below HB.out hx282_3
             replace hx282_4 := pw_cell_below HB.out hx282_4
             replace hx282_5 := pw_cell_below HB.out hx282_5
             replace hx282_6 := pw_cell_below HB.out hx282_6
             have HR282_3 := Aside0.mk hi282_3
             have HC282_3 := Aside0.mk hl282_3
             clear hi282_3 hl282_3
             have HR282_6 := Aside0.mk hi282_6
             have HC282_6 := Aside0.mk hl282_6
             clear hi282_6 hl282_6
             replace p282 := eq_true p282
             replace q282 := eq_true q282
             have p283 : 0 ≤ (0 : Int) := (by omega)
             have q283 : 0 < (((rd_T72 l0 x3_1).f6).length : Int) := of_decide_eq_true ab4
             obtain ⟨ad283, e283, hx283_0⟩ := Kd.at_int HR276_6.out 0 p283 q283
             obtain rfl : ad281 = ad283 := (by injection e283)
             have qi283 : (0 < ((rd_T72 l0 x3_1).f6).length) = True := eq_true (by omega)
             (try rw [show ((0 : Int)).toNat = 0 from rfl] at hx283_0)
             (try rw [Addr.add_zero'] at hx283_0)
             replace hx283_0 := pw_cell_below HB.out hx283_0
             replace p283 := eq_true p283
             replace q283 := eq_true q283
             have p284 : 0 ≤ ((rd ((rd_T72 l0 x3_1).f6) 0) : Int) := of_decide_eq_true ab4
             have q284 : (rd ((rd_T72 l0 x3_1).f6) 0) < (l0.length : Int) := of_decide_eq_true ab4
             obtain ⟨ad284, A284_3, c284_3, A284_6, c284_6, e284, hx284_0, hx284_1, hx284_2, hx284_3, hx284_4, hx284_5, hx284_6, hl284_3, hi284_3, hl284_6, hi284_6⟩ := at_T72 HR0.out (rd ((rd_T72 l0 x3_1).f6) 0) p284 q284
             obtain rfl : ad276 = ad284 := (by injection e284)
             replace hx284_0 := pw_cell_below HB.out hx284_0
             replace hx284_1 := pw_cell_below HB.out hx284_1
             replace hx284_2 := pw_cell_below HB.out hx284_2
             replace hx284_3 := pw_cell_below HB.out hx284_3
             replace hx284_4 := pw_cell_below HB.out hx284_4
             replace hx284_5 := pw_cell_below HB.out hx284_5
             replace hx284_6 := pw_cell_below HB.out hx284_6
             have HR284_3 := Aside0.mk hi284_3
             have HC284_3 := Aside0.mk hl284_3
             clear hi284_3 hl284_3
             have HR284_6 := Aside0.mk hi284_6
             have HC284_6 := Aside0.mk hl284_6
             clear hi284_6 hl284_6
             replace p284 := eq_true p284
             replace q284 := eq_true q284
             have ea_ := Option.some.inj (hx282_3.symm.trans hx284_3)
             injection ea_ with ea_ en_ ec_
             subst ea_
             subst ec_
             clear en_
             have ea_ := Option.some.inj (hx282_6.symm.trans hx284_6)
             injection ea_ with ea_ en_ ec_
             subst ea_
             subst ec_
             clear en_
             go_wp2
             go_ret
             exact ⟨ab7, ab2 GE277⟩
    ·rw [if_neg c5] at H
     have c5b0 := decide_eq_false c5
     clear c5
     obtain rfl := Option.some.inj H
     go_wp2
     go_ret
     exact ⟨ab7, ab1⟩
 ·replace c3 := Bool.eq_false_iff.mpr c3
  subst c3
  rw [if_neg (show ¬ (false = true) by decide)] at H
  obtain rfl := Option.some.inj H
  go_enter Try.func34, Try.ntmps34
  go_wp2_with (first | ((with_reducible refine gate_callee (f := 60) rfl ?_); refine goesL_ (some 7) rfl rfl Try.func60 (by kernel_rfl) rfl #[.slice A0 l0.length c0] rfl ab5 ?_; (with_reducible refine (spec_TreeOk.calls k _ _ l0 false _ ?side1 ?side2 A2.out).mono ?_); (case side1 => repeat (first | exact HR0.out | (with_reducible refine Kd.C_alloc ?_ _) | (with_reducible refine Kd.C_drewN ?_ _) | (with_reducible refine Kd.C_drew ?_))); (case side2 => exact HC0.out); rintro e w61 ⟨rfl, hb⟩; refine ⟨_, rfl, ?_⟩; have n0_ := Aside0.mk (below_step ab1 hb); clear HB; have HB := n0_; clear n0_; (try clear hb); (try clear hb2); (try clear hk); (try clear hi)))
  go_ret
  exact ⟨ab7, ab1⟩

end Go.Proofs.Ytaomfbbbdddlmaa.P
