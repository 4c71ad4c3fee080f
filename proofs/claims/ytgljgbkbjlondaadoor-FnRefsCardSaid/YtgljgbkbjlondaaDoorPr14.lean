-- WRITTEN BY hprint.py, this session's own program, over the kit's printer: not typed by hand; Lean checks it
import Derived.Test.YtgljgbkbjlondaaDoorPr0
import Derived.Test.YtgljgbkbjlondaaDoorPr13
namespace Go.Proofs.YtgljgbkbjlondaaDoor.P
open Go.RowKit Go.Proofs.YtgljgbkbjlondaaDoorW.PrintWords Go.Proofs.YtgljgbkbjlondaaDoorW.PrintLast Go.Proofs.YtgljgbkbjlondaaDoorW.PrintMore
attribute [local go_sem] max2_int min2_int max_two min_two max_three min_three max_four min_four   -- for this text's walks alone
set_option linter.unusedVariables false
set_option linter.unusedSimpArgs false

/-! ### spec_l3Number: function 62 -/
mutual
def spec_l3Number.j0 : Nat → ByteArray → Int → Int → Bool → Option (ByteArray × Int)
 | 0, _, _, _, _ => none
 | k + 1, x0, x1, x6, x7 => if x7 = true then (spec_l3Number.j1 k x0 x1 (wrap64 (x6 + 1)) x7 16) else (spec_l3Number.j1 k x0 x1 x6 x7 10)
def spec_l3Number.j1 : Nat → ByteArray → Int → Int → Bool → Int → Option (ByteArray × Int)
 | 0, _, _, _, _, _ => none
 | k + 1, x0, x1, x6, x7, x8 => spec_l3Number.l0 k x0 x1 x6 x7 x8 x6 0
def spec_l3Number.l0 : Nat → ByteArray → Int → Int → Bool → Int → Int → Int → Option (ByteArray × Int)
 | 0, _, _, _, _, _, _, _ => none
 | k + 1, x0, x1, x6, x7, x8, x9, x10 => if x6 < (x0.size : Int) then (if 0 ≤ x6 then ((spec_l3Digit.f k (bt x0 x6) x7).bind fun t246 => (spec_l3Number.j3 k x0 x1 x6 x7 x8 x9 x10 (decide (t246 ≥ 0)))) else (none)) else (spec_l3Number.j3 k x0 x1 x6 x7 x8 x9 x10 false)
def spec_l3Number.j3 : Nat → ByteArray → Int → Int → Bool → Int → Int → Int → Bool → Option (ByteArray × Int)
 | 0, _, _, _, _, _, _, _, _ => none
 | k + 1, x0, x1, x6, x7, x8, x9, x10, x44 => if x44 = true then (if 0 ≤ x6 then (if x6 < (x0.size : Int) then ((spec_l3Digit.f k (bt x0 x6) x7).bind fun t247 => ((spec_l1Min.f (wrap64 ((wrap64 (x10 * x8)) + t247)) 1114112).bind fun t248 => (spec_l3Number.l0 k x0 x1 (wrap64 (x6 + 1)) x7 x8 x9 t248))) else (none)) else (none)) else (if x6 = x9 then (some ((⟨#[]⟩ : ByteArray), 0)) else (if x6 < (x0.size : Int) then (if 0 ≤ x6 then (spec_l3Number.j4 k x1 x6 x10 ((bt x0 x6) == 59)) else (none)) else (spec_l3Number.j4 k x1 x6 x10 false)))
def spec_l3Number.j4 : Nat → Int → Int → Int → Bool → Option (ByteArray × Int)
 | 0, _, _, _, _ => none
 | k + 1, x1, x6, x10, x69 => if x69 = true then ((spec_Numbered.f k x10).bind fun t249 => ((spec_PutSign.f k t249).bind fun t250 => (some (t250, wrap64 ((wrap64 (x6 + 1)) - x1))))) else ((spec_Numbered.f k x10).bind fun t251 => ((spec_PutSign.f k t251).bind fun t252 => (some (t252, wrap64 (x6 - x1)))))
end
def spec_l3Number.f (k : Nat) (a0 : ByteArray) (a1 : Int) : Option (ByteArray × Int) := if (wrap64 (a1 + 2)) < (a0.size : Int) then (if 0 ≤ (wrap64 (a1 + 2)) then (if (bt a0 (wrap64 (a1 + 2))) = 120 then (spec_l3Number.j0 k a0 a1 (wrap64 (a1 + 2)) true) else (spec_l3Number.j0 k a0 a1 (wrap64 (a1 + 2)) ((bt a0 (wrap64 (a1 + 2))) == 88))) else (none)) else (spec_l3Number.j0 k a0 a1 (wrap64 (a1 + 2)) false)
theorem spec_l3Number.mono_l : ∀ k, (∀ y0 y1 y2 y3, LeO (spec_l3Number.j0 k y0 y1 y2 y3) (spec_l3Number.j0 (k + 1) y0 y1 y2 y3)) ∧ (∀ y0 y1 y2 y3 y4, LeO (spec_l3Number.j1 k y0 y1 y2 y3 y4) (spec_l3Number.j1 (k + 1) y0 y1 y2 y3 y4)) ∧ (∀ y0 y1 y2 y3 y4 y5 y6, LeO (spec_l3Number.l0 k y0 y1 y2 y3 y4 y5 y6) (spec_l3Number.l0 (k + 1) y0 y1 y2 y3 y4 y5 y6)) ∧ (∀ y0 y1 y2 y3 y4 y5 y6 y7, LeO (spec_l3Number.j3 k y0 y1 y2 y3 y4 y5 y6 y7) (spec_l3Number.j3 (k + 1) y0 y1 y2 y3 y4 y5 y6 y7)) ∧ (∀ y0 y1 y2 y3, LeO (spec_l3Number.j4 k y0 y1 y2 y3) (spec_l3Number.j4 (k + 1) y0 y1 y2 y3))
 | 0 => ⟨fun _ _ _ _ r h => by simp [spec_l3Number.j0] at h, fun _ _ _ _ _ r h => by simp [spec_l3Number.j1] at h, fun _ _ _ _ _ _ _ r h => by simp [spec_l3Number.l0] at h, fun _ _ _ _ _ _ _ _ r h => by simp [spec_l3Number.j3] at h, fun _ _ _ _ r h => by simp [spec_l3Number.j4] at h⟩
 | k + 1 => by
  obtain ⟨ih0, ih1, ih2, ih3, ih4⟩ := spec_l3Number.mono_l k
  refine ⟨?_, ?_, ?_, ?_, ?_⟩
  ·intro y0 y1 y2 y3
   unfold spec_l3Number.j0
   repeat' first
   | (with_reducible exact ih0 _ _ _ _)
   | (with_reducible exact ih1 _ _ _ _ _)
   | (with_reducible exact ih2 _ _ _ _ _ _ _)
   | (with_reducible exact ih3 _ _ _ _ _ _ _ _)
   | (with_reducible exact ih4 _ _ _ _)
   | (with_reducible exact spec_Numbered.mono _ _)
   | (with_reducible exact spec_PutSign.mono _ _)
   | (with_reducible exact spec_l3Digit.mono _ _ _)
   | (with_reducible exact LeO.refl _)
   | (with_reducible exact LeO.none _)
   | (with_reducible refine LeO.ite ?_ ?_)
   | (with_reducible refine LeO.bind ?_ (fun _ => ?_))
  ·intro y0 y1 y2 y3 y4
   unfold spec_l3Number.j1
   repeat' first
   | (with_reducible exact ih0 _ _ _ _)
   | (with_reducible exact ih1 _ _ _ _ _)
   | (with_reducible exact ih2 _ _ _ _ _ _ _)
   | (with_reducible exact ih3 _ _ _ _ _ _ _ _)
   | (with_reducible exact ih4 _ _ _ _)
   | (with_reducible exact spec_Numbered.mono _ _)
   | (with_reducible exact spec_PutSign.mono _ _)
   | (with_reducible exact spec_l3Digit.mono _ _ _)
   | (with_reducible exact LeO.refl _)
   | (with_reducible exact LeO.none _)
   | (with_reducible refine LeO.ite ?_ ?_)
   | (with_reducible refine LeO.bind ?_ (fun _ => ?_))
  ·intro y0 y1 y2 y3 y4 y5 y6
   unfold spec_l3Number.l0
   repeat' first
   | (with_reducible exact ih0 _ _ _ _)
   | (with_reducible exact ih1 _ _ _ _ _)
   | (with_reducible exact ih2 _ _ _ _ _ _ _)
   | (with_reducible exact ih3 _ _ _ _ _ _ _ _)
   | (with_reducible exact ih4 _ _ _ _)
   | (with_reducible exact spec_Numbered.mono _ _)
   | (with_reducible exact spec_PutSign.mono _ _)
   | (with_reducible exact spec_l3Digit.mono _ _ _)
   | (with_reducible exact LeO.refl _)
   | (with_reducible exact LeO.none _)
   | (with_reducible refine LeO.ite ?_ ?_)
   | (with_reducible refine LeO.bind ?_ (fun _ => ?_))
  ·intro y0 y1 y2 y3 y4 y5 y6 y7
   unfold spec_l3Number.j3
   repeat' first
   | (with_reducible exact ih0 _ _ _ _)
   | (with_reducible exact ih1 _ _ _ _ _)
   | (with_reducible exact ih2 _ _ _ _ _ _ _)
   | (with_reducible exact ih3 _ _ _ _ _ _ _ _)
   | (with_reducible exact ih4 _ _ _ _)
   | (with_reducible exact spec_Numbered.mono _ _)
   | (with_reducible exact spec_PutSign.mono _ _)
   | (with_reducible exact spec_l3Digit.mono _ _ _)
   | (with_reducible exact LeO.refl _)
   | (with_reducible exact LeO.none _)
   | (with_reducible refine LeO.ite ?_ ?_)
   | (with_reducible refine LeO.bind ?_ (fun _ => ?_))
  ·intro y0 y1 y2 y3
   unfold spec_l3Number.j4
   repeat' first
   | (with_reducible exact ih0 _ _ _ _)
   | (with_reducible exact ih1 _ _ _ _ _)
   | (with_reducible exact ih2 _ _ _ _ _ _ _)
   | (with_reducible exact ih3 _ _ _ _ _ _ _ _)
   | (with_reducible exact ih4 _ _ _ _)
   | (with_reducible exact spec_Numbered.mono _ _)
   | (with_reducible exact spec_PutSign.mono _ _)
   | (with_reducible exact spec_l3Digit.mono _ _ _)
   | (with_reducible exact LeO.refl _)
   | (with_reducible exact LeO.none _)
   | (with_reducible refine LeO.ite ?_ ?_)
   | (with_reducible refine LeO.bind ?_ (fun _ => ?_))
theorem spec_l3Number.mono : ∀ a0 a1 k, LeO (spec_l3Number.f k a0 a1) (spec_l3Number.f (k + 1) a0 a1) := by
 intro a0 a1 k
 obtain ⟨ih0, ih1, ih2, ih3, ih4⟩ := spec_l3Number.mono_l k
 unfold spec_l3Number.f
 repeat' first
   | (with_reducible exact ih0 _ _ _ _)
   | (with_reducible exact ih1 _ _ _ _ _)
   | (with_reducible exact ih2 _ _ _ _ _ _ _)
   | (with_reducible exact ih3 _ _ _ _ _ _ _ _)
   | (with_reducible exact ih4 _ _ _ _)
   | (with_reducible exact spec_Numbered.mono _ _)
   | (with_reducible exact spec_PutSign.mono _ _)
   | (with_reducible exact spec_l3Digit.mono _ _ _)
   | (with_reducible exact LeO.refl _)
   | (with_reducible exact LeO.none _)
   | (with_reducible refine LeO.ite ?_ ?_)
   | (with_reducible refine LeO.bind ?_ (fun _ => ?_))
set_option maxHeartbeats 8000000 in
set_option maxRecDepth 100000 in
theorem spec_l3Number.calls (k : Nat) (a0 : ByteArray) (a1 : Int) (r1 : ByteArray) (r2 : Int) (w : World) (h : spec_l3Number.f k a0 a1 = some (r1, r2)) :
  Calls Tryd.prog 62 #[.string a0, .int .i64 a1] w fun e w' => e = .returned (.tuple #[.string r1, .int .i64 r2]) ∧ Below w.heap.size w w' := by
 have HB := Aside0.mk (Below.refl w.heap.size w)
 have H : (if (wrap64 (a1 + 2)) < (a0.size : Int) then (if 0 ≤ (wrap64 (a1 + 2)) then (if (bt a0 (wrap64 (a1 + 2))) = 120 then (spec_l3Number.j0 k a0 a1 (wrap64 (a1 + 2)) true) else (spec_l3Number.j0 k a0 a1 (wrap64 (a1 + 2)) ((bt a0 (wrap64 (a1 + 2))) == 88))) else (none)) else (spec_l3Number.j0 k a0 a1 (wrap64 (a1 + 2)) false)) = some (r1, r2) := h
 clear h
 have HC3 := Aside0.mk H
 clear H
 go_enter Tryd.func62, Tryd.ntmps62
 go_upto_region 2 with (fail)
 go_cut [7] (fun v7 wc => ∃ (kq : Nat) (x7_2 : Bool), v7 = .bool x7_2 ∧ Aside0 (spec_l3Number.j0 kq a0 a1 (wrap64 (a1 + 2)) x7_2 = some (r1, r2)) ∧ Aside0 (kq ≤ k) ∧ Aside0 (Below w.heap.size w wc))
 case first =>
  have H := HC3.out
  clear HC3
  by_cases c4 : (wrap64 (a1 + 2)) < (a0.size : Int)
  ·rw [if_pos c4] at H
   have c4b0 := decide_eq_true c4
   clear c4
   (first | rw [c4b0] | (simp only [i64_w, i32_w]; rw [c4b0]) | skip)
   (try (generalize hgzc4 : decide ((wrap64 (a1 + 2)) < (a0.size : Int)) = bqc4 at *; subst c4b0; have c4b0 := hgzc4; clear hgzc4))
   obtain ⟨ji5, hji5⟩ : ∃ j_ : Int, (wrap64 (a1 + 2)) = j_ := ⟨_, rfl⟩
   replace H : (if 0 ≤ (ji5) then (if (bt a0 (ji5)) = 120 then (spec_l3Number.j0 k a0 a1 ji5 true) else (spec_l3Number.j0 k a0 a1 ji5 ((bt a0 (ji5)) == 88))) else (none)) = some (r1, r2) := by first | (rw [hji5] at H; exact H) | (simp only [hji5] at H ⊢; exact H)
   (try rw [hji5] at c4b0)
   have hji5w : (IntKind.i64.wrap (a1 + 2)) = ji5 := (i64_w _).trans hji5
   by_cases c6 : 0 ≤ (ji5)
   case neg => rw [if_neg c6] at H; exact absurd H (by simp)
   rw [if_pos c6] at H
   have c6b0 := decide_eq_true c6
   clear c6
   by_cases c8 : (bt a0 (ji5)) = 120
   ·rw [if_pos c8] at H
    have c8b0 : ((bt a0 (ji5)) == 120) = true := beq_iff_eq.mpr c8
    have c8b1 : ((bt a0 (ji5)) != 120) = false := bne_eq_false_iff_eq.mpr c8
    clear c8
    have H' := Aside0.mk H
    clear H
    have p7 : 0 ≤ ((ji5) : Int) := of_decide_eq_true ab4
    have q7 : (ji5) < (a0.size : Int) := of_decide_eq_true ab4
    have hx7 := bt_at a0 (ji5)
    replace p7 := eq_true p7
    replace q7 := eq_true q7
    go_wp2
    first | go_meet | (subst hji5; go_meet)
    case rel => exact ⟨_, (true), ab6, (by first | exact H' | (rw [hji5]; exact H') | (have h_ := H'.out; rw [c4b0] at h_; exact ⟨h_⟩)), ⟨by first | omega | exact Nat.le_refl _⟩, ⟨ab1⟩⟩
   ·rw [if_neg c8] at H
    have c8b0 : ((bt a0 (ji5)) == 120) = false := beq_eq_false_iff_ne.mpr c8
    have c8b1 : ((bt a0 (ji5)) != 120) = true := bne_iff_ne.mpr c8
    have H' := Aside0.mk H
    clear H
    have p7 : 0 ≤ ((ji5) : Int) := of_decide_eq_true ab4
    have q7 : (ji5) < (a0.size : Int) := of_decide_eq_true ab4
    have hx7 := bt_at a0 (ji5)
    replace p7 := eq_true p7
    replace q7 := eq_true q7
    have p9 : 0 ≤ ((ji5) : Int) := of_decide_eq_true ab4
    have q9 : (ji5) < (a0.size : Int) := of_decide_eq_true ab4
    have hx9 := bt_at a0 (ji5)
    replace p9 := eq_true p9
    replace q9 := eq_true q9
    go_wp2
    first | go_meet | (subst hji5; go_meet)
    case rel => exact ⟨_, (((bt a0 (ji5)) == 88)), (by first | rfl | (simp; done) | (simp only [← hji5] <;> (first | rfl | simp)) | (simp [*]; done)), (by first | exact H' | (rw [hji5]; exact H') | (have h_ := H'.out; rw [c4b0] at h_; exact ⟨h_⟩)), ⟨by first | omega | exact Nat.le_refl _⟩, ⟨ab1⟩⟩
  ·rw [if_neg c4] at H
   have c4b0 := decide_eq_false c4
   clear c4
   (first | rw [c4b0] | (simp only [i64_w, i32_w]; rw [c4b0]) | skip)
   (try (generalize hgzc4 : decide ((wrap64 (a1 + 2)) < (a0.size : Int)) = bqc4 at *; subst c4b0; have c4b0 := hgzc4; clear hgzc4))
   have H' := Aside0.mk H
   clear H
   go_wp2
   first | go_meet | (subst hji5; go_meet)
   case rel => exact ⟨_, (false), ab6, (by first | exact H' | (rw [hji5]; exact H') | (have h_ := H'.out; rw [c4b0] at h_; exact ⟨h_⟩)), ⟨by first | omega | exact Nat.le_refl _⟩, ⟨ab1⟩⟩
 case rest =>
  clear HC3
  (try clear p2); (try clear c4); (try clear c4b0); (try clear c6); (try clear c6b0); (try clear p6); (try clear p7); (try clear q7); (try clear hx7); (try clear c8); (try clear c8b0); (try clear c8b1); (try clear p9); (try clear q9); (try clear hx9); (try clear p7); (try clear p9); (try clear q7); (try clear q9)
  obtain ⟨kq, x7_2, rfl, HA, HJ2, HB⟩ := hcut
  cases kq with
  | zero => exact absurd HA.out (by simp [spec_l3Number.j0])
  | succ kj2 =>
   have H := HA.out
   clear HA
   simp only [spec_l3Number.j0] at H
   have HC10 := Aside0.mk H
   clear H
   go_upto_if 29 with (fail)
   go_cut [6, 8] (fun v6 v8 wc => ∃ (kq : Nat) (x6_9 : Int) (x8_9 : Int), v6 = .int .i64 x6_9 ∧ v8 = .int .i64 x8_9 ∧ Aside0 (spec_l3Number.j1 kq a0 a1 x6_9 x7_2 x8_9 = some (r1, r2)) ∧ Aside0 (kq ≤ kj2) ∧ Aside0 (Below w.heap.size w wc))
   case first =>
    have H := HC10.out
    clear HC10
    by_cases c11 : x7_2 = true
    ·subst c11
     rw [if_pos rfl] at H
     have H' := Aside0.mk H
     clear H
     go_wp2
     first | go_meet | (subst hji5; go_meet)
     case rel => exact ⟨_, (wrap64 ((wrap64 (a1 + 2)) + 1)), (16), ab6, ab6, H', ⟨by have := HJ2.out; first | omega | exact Nat.le_refl _⟩, ⟨ab1⟩⟩
    ·replace c11 := Bool.eq_false_iff.mpr c11
     subst c11
     rw [if_neg (show ¬ (false = true) by decide)] at H
     have H' := Aside0.mk H
     clear H
     go_wp2
     first | go_meet | (subst hji5; go_meet)
     case rel => exact ⟨_, ((wrap64 (a1 + 2))), (10), ab6, ab6, H', ⟨by have := HJ2.out; first | omega | exact Nat.le_refl _⟩, ⟨ab1⟩⟩
   case rest =>
    clear HC10
    (try clear c1); (try clear p2); (try clear c4); (try clear c4b0); (try clear c6); (try clear c6b0); (try clear p6); (try clear p7); (try clear q7); (try clear hx7); (try clear c8); (try clear c8b0); (try clear c8b1); (try clear p9); (try clear q9); (try clear hx9); (try clear c11); (try clear p2); (try clear p6); (try clear p7); (try clear p9); (try clear q7); (try clear q9)
    obtain ⟨kq, x6_9, x8_9, rfl, rfl, HA, HJ9, HB⟩ := hcut
    cases kq with
    | zero => exact absurd HA.out (by simp [spec_l3Number.j1])
    | succ kj9 =>
     have H := HA.out
     clear HA
     simp only [spec_l3Number.j1] at H
     have H' := Aside0.mk H
     clear H
     go_wp2
     go_loopg [6, 10] kj9 (fun kq v6 v10 w' => ∃ (x6_3 : Int) (x10_3 : Int), v6 = .int .i64 x6_3 ∧ v10 = .int .i64 x10_3 ∧ Aside0 (spec_l3Number.l0 kq a0 a1 x6_3 x7_2 x8_9 x6_9 x10_3 = some (r1, r2)) ∧ Aside0 (kq ≤ kj9) ∧ Aside0 (Below w.heap.size w w'))
     case atStart => exact ⟨(x6_9), (0), ab6, ab6, H', ⟨Nat.le_refl _⟩, ⟨ab1⟩⟩
     case round =>
      clear H'
      (try clear c1); (try clear p2); (try clear c4); (try clear c4b0); (try clear c6); (try clear c6b0); (try clear p6); (try clear p7); (try clear q7); (try clear hx7); (try clear c8); (try clear c8b0); (try clear c8b1); (try clear p9); (try clear q9); (try clear hx9); (try clear c11); (try clear p2); (try clear p6); (try clear p7); (try clear p9); (try clear q7); (try clear q9)
      obtain ⟨x6_3, x10_3, rfl, rfl, HA, HK3, HB⟩ := hrel
      cases gk with
      | zero => exact absurd HA.out (by simp [spec_l3Number.l0])
      | succ k3 =>
       have H := HA.out
       clear HA
       simp only [spec_l3Number.l0] at H
       have HC12 := Aside0.mk H
       clear H
       go_upto_region 9 with (fail)
       go_cut [44] (fun v44 wc => ∃ (kq : Nat) (x44_11 : Bool), v44 = .bool x44_11 ∧ Aside0 (spec_l3Number.j3 kq a0 a1 x6_3 x7_2 x8_9 x6_9 x10_3 x44_11 = some (r1, r2)) ∧ Aside0 (kq ≤ k3) ∧ Aside0 (Below w.heap.size w wc))
       case first =>
        have H := HC12.out
        clear HC12
        by_cases c13 : x6_3 < (a0.size : Int)
        ·rw [if_pos c13] at H
         have c13b0 := decide_eq_true c13
         clear c13
         (first | rw [c13b0] | (simp only [i64_w, i32_w]; rw [c13b0]) | skip)
         (try (generalize hgzc13 : decide (x6_3 < (a0.size : Int)) = bqc13 at *; subst c13b0; have c13b0 := hgzc13; clear hgzc13))
         by_cases c14 : 0 ≤ x6_3
         case neg => rw [if_neg c14] at H; exact absurd H (by simp)
         rw [if_pos c14] at H
         have c14b0 := decide_eq_true c14
         clear c14
         replace H := Option.bind_eq_some_iff.mp H
         obtain ⟨t246, A160, H⟩ := H
         replace H : (spec_l3Number.j3 k3 a0 a1 x6_3 x7_2 x8_9 x6_9 x10_3 (decide (t246 ≥ 0))) = some (r1, r2) := by first | exact H | (rw [c13b0]; exact H)
         have A16 := Aside0.mk A160
         clear A160
         have H' := Aside0.mk H
         clear H
         have p15 : 0 ≤ (x6_3 : Int) := of_decide_eq_true ab4
         have q15 : x6_3 < (a0.size : Int) := of_decide_eq_true ab4
         have hx15 := bt_at a0 x6_3
         replace p15 := eq_true p15
         replace q15 := eq_true q15
         go_wp2_with (first | (go_at_call 65; (with_reducible refine (spec_l3Digit.calls k3 (bt a0 x6_3) x7_2 t246 _ A16.out).mono ?_); rintro e w' ⟨rfl, ⟨nd, rfl⟩⟩))
         first | go_meet | (subst hji5; go_meet)
         case rel => exact ⟨_, (decide (t246 ≥ 0)), ab6, (by first | exact H' | (rw [hji5]; exact H') | (have h_ := H'.out; rw [c13b0] at h_; exact ⟨h_⟩)), ⟨by have := HJ2.out; have := HJ9.out; have := HK3.out; first | omega | exact Nat.le_refl _⟩, ⟨ab1⟩⟩
        ·rw [if_neg c13] at H
         have c13b0 := decide_eq_false c13
         clear c13
         (first | rw [c13b0] | (simp only [i64_w, i32_w]; rw [c13b0]) | skip)
         (try (generalize hgzc13 : decide (x6_3 < (a0.size : Int)) = bqc13 at *; subst c13b0; have c13b0 := hgzc13; clear hgzc13))
         have H' := Aside0.mk H
         clear H
         go_wp2
         first | go_meet | (subst hji5; go_meet)
         case rel => exact ⟨_, (false), ab6, (by first | exact H' | (rw [hji5]; exact H') | (have h_ := H'.out; rw [c13b0] at h_; exact ⟨h_⟩)), ⟨by have := HJ2.out; have := HJ9.out; have := HK3.out; first | omega | exact Nat.le_refl _⟩, ⟨ab1⟩⟩
       case rest =>
        clear HC12
        (try clear c1); (try clear p1); (try clear q1); (try clear hx1); (try clear p2); (try clear c4); (try clear c4b0); (try clear c6); (try clear c6b0); (try clear p6); (try clear p7); (try clear q7); (try clear hx7); (try clear c8); (try clear c8b0); (try clear c8b1); (try clear p9); (try clear q9); (try clear hx9); (try clear c11); (try clear c13); (try clear c13b0); (try clear c14); (try clear c14b0); (try clear p15); (try clear q15); (try clear hx15); (try clear p15); (try clear p2); (try clear p6); (try clear p7); (try clear p9); (try clear q15); (try clear q7); (try clear q9)
        obtain ⟨kq, x44_11, rfl, HA, HJ11, HB⟩ := hcut
        cases kq with
        | zero => exact absurd HA.out (by simp [spec_l3Number.j3])
        | succ kj11 =>
         have H := HA.out
         clear HA
         simp only [spec_l3Number.j3] at H
         by_cases c17 : x44_11 = true
         ·subst c17
          rw [if_pos rfl] at H
          by_cases c18 : 0 ≤ x6_3
          case neg => rw [if_neg c18] at H; exact absurd H (by simp)
          rw [if_pos c18] at H
          have c18b0 := decide_eq_true c18
          clear c18
          by_cases c19 : x6_3 < (a0.size : Int)
          case neg => rw [if_neg c19] at H; exact absurd H (by simp)
          rw [if_pos c19] at H
          have c19b0 := decide_eq_true c19
          clear c19
          replace H := Option.bind_eq_some_iff.mp H
          obtain ⟨t247, A210, H⟩ := H
          try dsimp only at H
          have A21 := Aside0.mk A210
          clear A210
          replace H := Option.bind_eq_some_iff.mp H
          obtain ⟨t248, A220, H⟩ := H
          try dsimp only at H
          have A22 := Aside0.mk A220
          clear A220
          have H' := Aside0.mk H
          clear H
          have p20 : 0 ≤ (x6_3 : Int) := of_decide_eq_true ab4
          have q20 : x6_3 < (a0.size : Int) := of_decide_eq_true ab4
          have hx20 := bt_at a0 x6_3
          replace p20 := eq_true p20
          replace q20 := eq_true q20
          go_wp2_with (first | ((with_reducible refine gate_callee (f := 65) rfl ?_); refine goesL_ (some 52) rfl rfl Tryd.func65 (by kernel_rfl) rfl #[.int .u8 (bt a0 x6_3), .bool x7_2] rfl ab5 ?_; (with_reducible refine (spec_l3Digit.calls kj11 (bt a0 x6_3) x7_2 t247 _ A21.out).mono ?_); rintro e w' ⟨rfl, ⟨nd, rfl⟩⟩; refine ⟨_, rfl, ?_⟩) | ((with_reducible refine gate_callee (f := 95) rfl ?_); refine goesL_ (some 54) rfl rfl Tryd.func95 (by kernel_rfl) rfl #[.int .i64 (wrap64 ((wrap64 (x10_3 * x8_9)) + t247)), .int .i64 1114112] rfl ab5 ?_; (with_reducible refine (spec_l1Min.calls (wrap64 ((wrap64 (x10_3 * x8_9)) + t247)) 1114112 t248 _ A22.out).mono ?_); rintro e w' ⟨rfl, ⟨nd, rfl⟩⟩; refine ⟨_, rfl, ?_⟩))
          go_roundg kj11
          case measure => have := HJ2.out; have := HJ9.out; have := HK3.out; have := HJ11.out; omega
          case rel => exact ⟨(wrap64 (x6_3 + 1)), (t248), ab6, ab6, H', ⟨by have := HJ2.out; have := HJ9.out; have := HK3.out; have := HJ11.out; omega⟩, ⟨ab1⟩⟩
         ·replace c17 := Bool.eq_false_iff.mpr c17
          subst c17
          rw [if_neg (show ¬ (false = true) by decide)] at H
          by_cases c23 : x6_3 = x6_9
          ·rw [if_pos c23] at H
           have c23b0 : (x6_3 == x6_9) = true := beq_iff_eq.mpr c23
           have c23b1 : (x6_3 != x6_9) = false := bne_eq_false_iff_eq.mpr c23
           clear c23
           simp only [Option.some.injEq, Prod.mk.injEq] at H
           obtain ⟨rfl, rfl⟩ := H
           go_wp2
           go_ret2
           exact ⟨ab7, ab1⟩
          ·rw [if_neg c23] at H
           have c23b0 : (x6_3 == x6_9) = false := beq_eq_false_iff_ne.mpr c23
           have c23b1 : (x6_3 != x6_9) = true := bne_iff_ne.mpr c23
           have HC24 := Aside0.mk H
           clear H
           go_upto_region 14 with (fail)
           go_cut [69] (fun v69 wc => ∃ (kq : Nat) (x69_23 : Bool), v69 = .bool x69_23 ∧ Aside0 (spec_l3Number.j4 kq a1 x6_3 x10_3 x69_23 = some (r1, r2)) ∧ Aside0 (kq ≤ kj11) ∧ Aside0 (Below w.heap.size w wc))
           case first =>
            have H := HC24.out
            clear HC24
            by_cases c25 : x6_3 < (a0.size : Int)
            ·rw [if_pos c25] at H
             have c25b0 := decide_eq_true c25
             clear c25
             (first | rw [c25b0] | (simp only [i64_w, i32_w]; rw [c25b0]) | skip)
             (try (generalize hgzc25 : decide (x6_3 < (a0.size : Int)) = bqc25 at *; subst c25b0; have c25b0 := hgzc25; clear hgzc25))
             by_cases c26 : 0 ≤ x6_3
             case neg => rw [if_neg c26] at H; exact absurd H (by simp)
             rw [if_pos c26] at H
             have c26b0 := decide_eq_true c26
             clear c26
             have H' := Aside0.mk H
             clear H
             have p27 : 0 ≤ (x6_3 : Int) := of_decide_eq_true ab4
             have q27 : x6_3 < (a0.size : Int) := of_decide_eq_true ab4
             have hx27 := bt_at a0 x6_3
             replace p27 := eq_true p27
             replace q27 := eq_true q27
             go_wp2
             first | go_meet | (subst hji5; go_meet)
             case rel => exact ⟨_, (((bt a0 x6_3) == 59)), ab6, (by first | exact H' | (rw [hji5]; exact H') | (have h_ := H'.out; rw [c25b0] at h_; exact ⟨h_⟩)), ⟨by have := HJ2.out; have := HJ9.out; have := HK3.out; have := HJ11.out; first | omega | exact Nat.le_refl _⟩, ⟨ab1⟩⟩
            ·rw [if_neg c25] at H
             have c25b0 := decide_eq_false c25
             clear c25
             (first | rw [c25b0] | (simp only [i64_w, i32_w]; rw [c25b0]) | skip)
             (try (generalize hgzc25 : decide (x6_3 < (a0.size : Int)) = bqc25 at *; subst c25b0; have c25b0 := hgzc25; clear hgzc25))
             have H' := Aside0.mk H
             clear H
             go_wp2
             first | go_meet | (subst hji5; go_meet)
             case rel => exact ⟨_, (false), ab6, (by first | exact H' | (rw [hji5]; exact H') | (have h_ := H'.out; rw [c25b0] at h_; exact ⟨h_⟩)), ⟨by have := HJ2.out; have := HJ9.out; have := HK3.out; have := HJ11.out; first | omega | exact Nat.le_refl _⟩, ⟨ab1⟩⟩
           case rest =>
            clear HC24
            (try clear c1); (try clear p1); (try clear q1); (try clear hx1); (try clear c2); (try clear p2); (try clear q2); (try clear hx2); (try clear c4); (try clear c4b0); (try clear c6); (try clear c6b0); (try clear p6); (try clear p7); (try clear q7); (try clear hx7); (try clear c8); (try clear c8b0); (try clear c8b1); (try clear c9); (try clear p9); (try clear q9); (try clear hx9); (try clear c11); (try clear c13); (try clear c13b0); (try clear c14); (try clear c14b0); (try clear p15); (try clear q15); (try clear hx15); (try clear c17); (try clear c18); (try clear c18b0); (try clear c19); (try clear c19b0); (try clear p20); (try clear q20); (try clear hx20); (try clear c23); (try clear c23b0); (try clear c23b1); (try clear c25); (try clear c25b0); (try clear c26); (try clear c26b0); (try clear p27); (try clear q27); (try clear hx27); (try clear p1); (try clear p15); (try clear p2); (try clear p20); (try clear p27); (try clear p6); (try clear p7); (try clear p9); (try clear q1); (try clear q15); (try clear q20); (try clear q27); (try clear q7); (try clear q9)
            obtain ⟨kq, x69_23, rfl, HA, HJ23, HB⟩ := hcut
            cases kq with
            | zero => exact absurd HA.out (by simp [spec_l3Number.j4])
            | succ kj23 =>
             have H := HA.out
             clear HA
             simp only [spec_l3Number.j4] at H
             by_cases c28 : x69_23 = true
             ·subst c28
              rw [if_pos rfl] at H
              replace H := Option.bind_eq_some_iff.mp H
              obtain ⟨t249, A290, H⟩ := H
              try dsimp only at H
              have A29 := Aside0.mk A290
              clear A290
              replace H := Option.bind_eq_some_iff.mp H
              obtain ⟨t250, A300, H⟩ := H
              try dsimp only at H
              have A30 := Aside0.mk A300
              clear A300
              simp only [Option.some.injEq, Prod.mk.injEq] at H
              obtain ⟨rfl, rfl⟩ := H
              go_wp2_with (first | ((with_reducible refine gate_callee (f := 21) rfl ?_); refine goesL_ (some 73) rfl rfl Tryd.func21 (by kernel_rfl) rfl #[.int .i64 x10_3] rfl ab5 ?_; (with_reducible refine (spec_Numbered.calls kj23 x10_3 t249 _ A29.out).mono ?_); rintro e w31 ⟨rfl, hb⟩; refine ⟨_, rfl, ?_⟩; have n0_ := Aside0.mk (below_step ab1 hb); clear HB; have HB := n0_; clear n0_; (try clear hb); (try clear hb2); (try clear hk); (try clear hi)) | ((with_reducible refine gate_callee (f := 37) rfl ?_); refine goesL_ (some 74) rfl rfl Tryd.func37 (by kernel_rfl) rfl #[.int .i64 t249] rfl ab5 ?_; (with_reducible refine (spec_PutSign.calls kj23 t249 t250 _ A30.out).mono ?_); rintro e w32 ⟨rfl, hb⟩; refine ⟨_, rfl, ?_⟩; have n0_ := Aside0.mk (below_step ab1 hb); clear HB; have HB := n0_; clear n0_; (try clear hb); (try clear hb2); (try clear hk); (try clear hi)))
              go_ret2
              exact ⟨ab7, ab1⟩
             ·replace c28 := Bool.eq_false_iff.mpr c28
              subst c28
              rw [if_neg (show ¬ (false = true) by decide)] at H
              replace H := Option.bind_eq_some_iff.mp H
              obtain ⟨t251, A330, H⟩ := H
              try dsimp only at H
              have A33 := Aside0.mk A330
              clear A330
              replace H := Option.bind_eq_some_iff.mp H
              obtain ⟨t252, A340, H⟩ := H
              try dsimp only at H
              have A34 := Aside0.mk A340
              clear A340
              simp only [Option.some.injEq, Prod.mk.injEq] at H
              obtain ⟨rfl, rfl⟩ := H
              go_wp2_with (first | ((with_reducible refine gate_callee (f := 21) rfl ?_); refine goesL_ (some 73) rfl rfl Tryd.func21 (by kernel_rfl) rfl #[.int .i64 x10_3] rfl ab5 ?_; (with_reducible refine (spec_Numbered.calls kj23 x10_3 t251 _ A33.out).mono ?_); rintro e w35 ⟨rfl, hb⟩; refine ⟨_, rfl, ?_⟩; have n0_ := Aside0.mk (below_step ab1 hb); clear HB; have HB := n0_; clear n0_; (try clear hb); (try clear hb2); (try clear hk); (try clear hi)) | ((with_reducible refine gate_callee (f := 37) rfl ?_); refine goesL_ (some 74) rfl rfl Tryd.func37 (by kernel_rfl) rfl #[.int .i64 t251] rfl ab5 ?_; (with_reducible refine (spec_PutSign.calls kj23 t251 t252 _ A34.out).mono ?_); rintro e w36 ⟨rfl, hb⟩; refine ⟨_, rfl, ?_⟩; have n0_ := Aside0.mk (below_step ab1 hb); clear HB; have HB := n0_; clear n0_; (try clear hb); (try clear hb2); (try clear hk); (try clear hi)))
              go_ret2
              exact ⟨ab7, ab1⟩

/-! ### spec_l3Longest: function 63 -/
def spec_l3Longest.l0 : Nat → ByteArray → Int → ByteArray → List ByteArray → Int → Option (ByteArray)
 | 0, _, _, _, _, _ => none
 | k + 1, x0, x1, x5, x6, x7 => if x7 < (x6.length : Int) then (if 0 ≤ x7 then (if ((rdOf ByteArray.empty x6 x7).size : Int) > (x5.size : Int) then (if (wrap64 (x1 + ((rdOf ByteArray.empty x6 x7).size : Int))) ≤ (x0.size : Int) then (if 0 ≤ x1 then (if x1 ≤ (wrap64 (x1 + ((rdOf ByteArray.empty x6 x7).size : Int))) then (if (x0.extract (x1 : Int).toNat ((wrap64 (x1 + ((rdOf ByteArray.empty x6 x7).size : Int))) : Int).toNat).toList = (rdOf ByteArray.empty x6 x7).toList then (spec_l3Longest.l0 k x0 x1 (rdOf ByteArray.empty x6 x7) x6 (wrap64 (x7 + 1))) else (spec_l3Longest.l0 k x0 x1 x5 x6 (wrap64 (x7 + 1)))) else (none)) else (none)) else (spec_l3Longest.l0 k x0 x1 x5 x6 (wrap64 (x7 + 1)))) else (spec_l3Longest.l0 k x0 x1 x5 x6 (wrap64 (x7 + 1)))) else (none)) else (some x5)
def spec_l3Longest.f (k : Nat) (a0 : ByteArray) (a1 : Int) : Option (ByteArray) := (spec_Named.f).bind fun t253 => (spec_l3Longest.l0 k a0 a1 (⟨#[]⟩ : ByteArray) t253 0)
theorem spec_l3Longest.mono_l : ∀ k, (∀ y0 y1 y2 y3 y4, LeO (spec_l3Longest.l0 k y0 y1 y2 y3 y4) (spec_l3Longest.l0 (k + 1) y0 y1 y2 y3 y4))
 | 0 => fun _ _ _ _ _ r h => by simp [spec_l3Longest.l0] at h
 | k + 1 => by
  have ih0 := spec_l3Longest.mono_l k
  ·intro y0 y1 y2 y3 y4
   unfold spec_l3Longest.l0
   repeat' first
   | (with_reducible exact ih0 _ _ _ _ _)
   | (with_reducible exact LeO.refl _)
   | (with_reducible exact LeO.none _)
   | (with_reducible refine LeO.ite ?_ ?_)
   | (with_reducible refine LeO.bind ?_ (fun _ => ?_))
theorem spec_l3Longest.mono : ∀ a0 a1 k, LeO (spec_l3Longest.f k a0 a1) (spec_l3Longest.f (k + 1) a0 a1) := by
 intro a0 a1 k
 have ih0 := spec_l3Longest.mono_l k
 unfold spec_l3Longest.f
 repeat' first
   | (with_reducible exact ih0 _ _ _ _ _)
   | (with_reducible exact LeO.refl _)
   | (with_reducible exact LeO.none _)
   | (with_reducible refine LeO.ite ?_ ?_)
   | (with_reducible refine LeO.bind ?_ (fun _ => ?_))
set_option maxHeartbeats 8000000 in
set_option maxRecDepth 100000 in
theorem spec_l3Longest.calls (k : Nat) (a0 : ByteArray) (a1 : Int) (r : ByteArray) (w : World) (h : spec_l3Longest.f k a0 a1 = some r) :
  Calls Tryd.prog 63 #[.string a0, .int .i64 a1] w fun e w' => e = .returned (.string r) ∧ Below w.heap.size w w' := by
 have HB := Aside0.mk (Below.refl w.heap.size w)
 have H : ((spec_Named.f).bind fun t253 => (spec_l3Longest.l0 k a0 a1 (⟨#[]⟩ : ByteArray) t253 0)) = some r := h
 clear h
 replace H := Option.bind_eq_some_iff.mp H
 obtain ⟨t253, A30, H⟩ := H
 try dsimp only at H
 have A3 := Aside0.mk A30
 clear A30
 have H' := Aside0.mk H
 clear H
 go_enter Tryd.func63, Tryd.ntmps63
 go_wp2_with (first | (go_at_call 25; (with_reducible refine (spec_Named.calls  t253 _ A3.out).mono ?_); rintro e w4 ⟨v254, rfl, ho0, hb⟩; have n0_ := Aside0.mk (Kd.R_lower ho0 (below_size ab1)); have n1_ := Aside0.mk (below_step ab1 hb); clear HB; have HO255 := n0_; have HB := n1_; clear n0_ n1_; (try clear hb); (try clear hb2); (try clear hk); (try clear hi); (try clear ho0)))
 repeat (go_quiet (first | (go_at_call 25; (with_reducible refine (spec_Named.calls  t253 _ A3.out).mono ?_); rintro e w4 ⟨v254, rfl, ho0, hb⟩; have n0_ := Aside0.mk (Kd.R_lower ho0 (below_size ab1)); have n1_ := Aside0.mk (below_step ab1 hb); clear HB; have HO255 := n0_; have HB := n1_; clear n0_ n1_; (try clear hb); (try clear hb2); (try clear hk); (try clear hi); (try clear ho0))); try go_wp2_with (first | (go_at_call 25; (with_reducible refine (spec_Named.calls  t253 _ A3.out).mono ?_); rintro e w4 ⟨v254, rfl, ho0, hb⟩; have n0_ := Aside0.mk (Kd.R_lower ho0 (below_size ab1)); have n1_ := Aside0.mk (below_step ab1 hb); clear HB; have HO255 := n0_; have HB := n1_; clear n0_ n1_; (try clear hb); (try clear hb2); (try clear hk); (try clear hi); (try clear ho0))))
 go_loopg [5, 7] k (fun kq v5 v7 w' => ∃ (x5_1 : ByteArray) (x7_1 : Int), v5 = .string x5_1 ∧ v7 = .int .i64 x7_1 ∧ Aside0 (spec_l3Longest.l0 kq a0 a1 x5_1 t253 x7_1 = some r) ∧ Aside0 (kq ≤ k) ∧ Aside0 (Kd.R Kd.string 9 w' w.heap.size (fun _ => True) v254 t253) ∧ Aside0 (Below w.heap.size w w'))
 case atStart => exact ⟨((⟨#[]⟩ : ByteArray)), (0), ab6, ab6, H', ⟨Nat.le_refl _⟩, ⟨ab8 HO255⟩, ⟨ab1⟩⟩
 case round =>
  clear H'
  try clear p2
  obtain ⟨x5_1, x7_1, rfl, rfl, HA, HK1, HO_6, HB⟩ := hrel
  cases gk with
  | zero => exact absurd HA.out (by simp [spec_l3Longest.l0])
  | succ k1 =>
   have H := HA.out
   clear HA
   simp only [spec_l3Longest.l0] at H
   by_cases c5 : x7_1 < (t253.length : Int)
   ·rw [if_pos c5] at H
    have c5b0 := decide_eq_true c5
    clear c5
    by_cases c6 : 0 ≤ x7_1
    case neg => rw [if_neg c6] at H; exact absurd H (by simp)
    rw [if_pos c6] at H
    have c6b0 := decide_eq_true c6
    clear c6
    by_cases c7 : ((rdOf ByteArray.empty t253 x7_1).size : Int) > (x5_1.size : Int)
    ·rw [if_pos c7] at H
     have c7b0 : decide ((x5_1.size : Int) < ((rdOf ByteArray.empty t253 x7_1).size : Int)) = true := decide_eq_true c7
     have c7b1 : decide (x5_1.size < (rdOf ByteArray.empty t253 x7_1).size) = true := decide_eq_true (Int.ofNat_lt.mp c7)
     clear c7
     by_cases c8 : (wrap64 (a1 + ((rdOf ByteArray.empty t253 x7_1).size : Int))) ≤ (a0.size : Int)
     ·rw [if_pos c8] at H
      have c8b0 := decide_eq_true c8
      clear c8
      by_cases c9 : 0 ≤ a1
      case neg => rw [if_neg c9] at H; exact absurd H (by simp)
      rw [if_pos c9] at H
      have c9b0 := eq_true c9
      have c9b1 := decide_eq_true c9
      clear c9
      by_cases c10 : a1 ≤ (wrap64 (a1 + ((rdOf ByteArray.empty t253 x7_1).size : Int)))
      case neg => rw [if_neg c10] at H; exact absurd H (by simp)
      rw [if_pos c10] at H
      have c10b0 := eq_true c10
      have c10b1 := decide_eq_true c10
      have c11b0 := eq_true (of_decide_eq_true ab4 : (wrap64 (a1 + ((rdOf ByteArray.empty t253 x7_1).size : Int))) ≤ (a0.size : Int))
      by_cases c12 : (a0.extract (a1 : Int).toNat ((wrap64 (a1 + ((rdOf ByteArray.empty t253 x7_1).size : Int))) : Int).toNat).toList = (rdOf ByteArray.empty t253 x7_1).toList
      ·rw [if_pos c12] at H
       have c12b0 : ((a0.extract (a1 : Int).toNat ((wrap64 (a1 + ((rdOf ByteArray.empty t253 x7_1).size : Int))) : Int).toNat).toList == (rdOf ByteArray.empty t253 x7_1).toList) = true := beq_iff_eq.mpr c12
       have c12b1 : ((a0.extract (a1 : Int).toNat ((wrap64 (a1 + ((rdOf ByteArray.empty t253 x7_1).size : Int))) : Int).toNat).toList != (rdOf ByteArray.empty t253 x7_1).toList) = false := bne_eq_false_iff_eq.mpr c12
       clear c12
       have H' := Aside0.mk H
       clear H
       obtain ⟨Ao13, co13, eo13⟩ := Kd.R_slice HO_6.out
       subst eo13
       have p256 : 0 ≤ (x7_1 : Int) := of_decide_eq_true ab4
       have q256 : x7_1 < (t253.length : Int) := of_decide_eq_true ab4
       obtain ⟨ad256, e256, hx256_0⟩ := Kd.at_string (Kd.R_reads' HO_6.out).2.2 x7_1 p256 q256
       cases e256
       replace p256 := eq_true p256
       replace q256 := eq_true q256
       have p257 : 0 ≤ (x7_1 : Int) := of_decide_eq_true ab4
       have q257 : x7_1 < (t253.length : Int) := of_decide_eq_true ab4
       obtain ⟨ad257, e257, hx257_0⟩ := Kd.at_string (Kd.R_reads' HO_6.out).2.2 x7_1 p257 q257
       obtain rfl : ad256 = ad257 := (by injection e257)
       replace p257 := eq_true p257
       replace q257 := eq_true q257
       have p258 : 0 ≤ (x7_1 : Int) := of_decide_eq_true ab4
       have q258 : x7_1 < (t253.length : Int) := of_decide_eq_true ab4
       obtain ⟨ad258, e258, hx258_0⟩ := Kd.at_string (Kd.R_reads' HO_6.out).2.2 x7_1 p258 q258
       obtain rfl : ad256 = ad258 := (by injection e258)
       replace p258 := eq_true p258
       replace q258 := eq_true q258
       go_wp2
       repeat (go_quiet (fail); try go_wp2)
       go_roundg k1
       case measure => have := HK1.out; omega
       case rel => exact ⟨(rdOf ByteArray.empty t253 x7_1), (wrap64 (x7_1 + 1)), ab6, ab6, H', ⟨by have := HK1.out; omega⟩, ⟨ab8 HO_6⟩, ⟨ab1⟩⟩
      ·rw [if_neg c12] at H
       have c12b0 : ((a0.extract (a1 : Int).toNat ((wrap64 (a1 + ((rdOf ByteArray.empty t253 x7_1).size : Int))) : Int).toNat).toList == (rdOf ByteArray.empty t253 x7_1).toList) = false := beq_eq_false_iff_ne.mpr c12
       have c12b1 : ((a0.extract (a1 : Int).toNat ((wrap64 (a1 + ((rdOf ByteArray.empty t253 x7_1).size : Int))) : Int).toNat).toList != (rdOf ByteArray.empty t253 x7_1).toList) = true := bne_iff_ne.mpr c12
       have H' := Aside0.mk H
       clear H
       obtain ⟨Ao14, co14, eo14⟩ := Kd.R_slice HO_6.out
       subst eo14
       have p256 : 0 ≤ (x7_1 : Int) := of_decide_eq_true ab4
       have q256 : x7_1 < (t253.length : Int) := of_decide_eq_true ab4
       obtain ⟨ad256, e256, hx256_0⟩ := Kd.at_string (Kd.R_reads' HO_6.out).2.2 x7_1 p256 q256
       cases e256
       replace p256 := eq_true p256
       replace q256 := eq_true q256
       have p257 : 0 ≤ (x7_1 : Int) := of_decide_eq_true ab4
       have q257 : x7_1 < (t253.length : Int) := of_decide_eq_true ab4
       obtain ⟨ad257, e257, hx257_0⟩ := Kd.at_string (Kd.R_reads' HO_6.out).2.2 x7_1 p257 q257
       obtain rfl : ad256 = ad257 := (by injection e257)
       replace p257 := eq_true p257
       replace q257 := eq_true q257
       go_wp2
       repeat (go_quiet (fail); try go_wp2)
       go_roundg k1
       case measure => have := HK1.out; omega
       case rel => exact ⟨(x5_1), (wrap64 (x7_1 + 1)), ab6, ab6, H', ⟨by have := HK1.out; omega⟩, ⟨ab8 HO_6⟩, ⟨ab1⟩⟩
     ·rw [if_neg c8] at H
      have c8b0 := decide_eq_false c8
      clear c8
      have H' := Aside0.mk H
      clear H
      obtain ⟨Ao15, co15, eo15⟩ := Kd.R_slice HO_6.out
      subst eo15
      have p256 : 0 ≤ (x7_1 : Int) := of_decide_eq_true ab4
      have q256 : x7_1 < (t253.length : Int) := of_decide_eq_true ab4
      obtain ⟨ad256, e256, hx256_0⟩ := Kd.at_string (Kd.R_reads' HO_6.out).2.2 x7_1 p256 q256
      cases e256
      replace p256 := eq_true p256
      replace q256 := eq_true q256
      go_wp2
      repeat (go_quiet (fail); try go_wp2)
      go_roundg k1
      case measure => have := HK1.out; omega
      case rel => exact ⟨(x5_1), (wrap64 (x7_1 + 1)), ab6, ab6, H', ⟨by have := HK1.out; omega⟩, ⟨ab8 HO_6⟩, ⟨ab1⟩⟩
    ·rw [if_neg c7] at H
     have c7b0 : decide ((x5_1.size : Int) < ((rdOf ByteArray.empty t253 x7_1).size : Int)) = false := decide_eq_false c7
     have c7b1 : decide (x5_1.size < (rdOf ByteArray.empty t253 x7_1).size) = false := decide_eq_false (fun h => c7 (Int.ofNat_lt.mpr h))
     clear c7
     have H' := Aside0.mk H
     clear H
     obtain ⟨Ao16, co16, eo16⟩ := Kd.R_slice HO_6.out
     subst eo16
     have p256 : 0 ≤ (x7_1 : Int) := of_decide_eq_true ab4
     have q256 : x7_1 < (t253.length : Int) := of_decide_eq_true ab4
     obtain ⟨ad256, e256, hx256_0⟩ := Kd.at_string (Kd.R_reads' HO_6.out).2.2 x7_1 p256 q256
     cases e256
     replace p256 := eq_true p256
     replace q256 := eq_true q256
     go_wp2
     repeat (go_quiet (fail); try go_wp2)
     go_roundg k1
     case measure => have := HK1.out; omega
     case rel => exact ⟨(x5_1), (wrap64 (x7_1 + 1)), ab6, ab6, H', ⟨by have := HK1.out; omega⟩, ⟨ab8 HO_6⟩, ⟨ab1⟩⟩
   ·rw [if_neg c5] at H
    have c5b0 := decide_eq_false c5
    clear c5
    obtain rfl := Option.some.inj H
    obtain ⟨Ao17, co17, eo17⟩ := Kd.R_slice HO_6.out
    subst eo17
    go_wp2
    repeat (go_quiet (fail); try go_wp2)
    go_ret
    exact ⟨ab7, ab1⟩

end Go.Proofs.YtgljgbkbjlondaaDoor.P
