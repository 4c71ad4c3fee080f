-- WRITTEN BY hprint.py, this session's own program, over the kit's printer: not typed by hand; Lean checks it
import Derived.Test.YtgljgbkbjlondaaDoorPr0
import Derived.Test.YtgljgbkbjlondaaDoorPr1
import Derived.Test.YtgljgbkbjlondaaDoorPr13
import Derived.Test.YtgljgbkbjlondaaDoorPr14
namespace Go.Proofs.YtgljgbkbjlondaaDoor.P
open Go.RowKit Go.Proofs.YtgljgbkbjlondaaDoorW.PrintWords Go.Proofs.YtgljgbkbjlondaaDoorW.PrintLast Go.Proofs.YtgljgbkbjlondaaDoorW.PrintMore
attribute [local go_sem] max2_int min2_int max_two min_two max_three min_three max_four min_four   -- for this text's walks alone
set_option linter.unusedVariables false
set_option linter.unusedSimpArgs false

/-! ### spec_IsLetter: function 64 -/
def spec_IsLetter.f (a0 : Int) : Option (Bool) := (spec_l1In.f a0 97 122).bind fun t259 => (if t259 = true then (some true) else ((spec_l1In.f a0 65 90).bind fun t260 => (some t260)))
set_option maxHeartbeats 8000000 in
set_option maxRecDepth 100000 in
theorem spec_IsLetter.calls (a0 : Int) (r : Bool) (w : World) (h : spec_IsLetter.f a0 = some r) :
  Calls Tryd.prog 64 #[.int .i64 a0] w fun e w' => e = .returned (.bool r) ∧ Drawn0 w w' := by
 have H : ((spec_l1In.f a0 97 122).bind fun t259 => (if t259 = true then (some true) else ((spec_l1In.f a0 65 90).bind fun t260 => (some t260)))) = some r := h
 clear h
 replace H := Option.bind_eq_some_iff.mp H
 obtain ⟨t259, A20, H⟩ := H
 try dsimp only at H
 have A2 := Aside0.mk A20
 clear A20
 by_cases c3 : t259 = true
 ·subst c3
  rw [if_pos rfl] at H
  obtain rfl := Option.some.inj H
  go_enter Tryd.func64, Tryd.ntmps64
  go_wp2_with (first | ((with_reducible refine gate_callee (f := 68) rfl ?_); refine goesL_ (some 4) rfl rfl Tryd.func68 (by kernel_rfl) rfl #[.int .i64 a0, .int .i64 97, .int .i64 122] rfl ab5 ?_; (with_reducible refine (spec_l1In.calls a0 97 122 true _ A2.out).mono ?_); rintro e w' ⟨rfl, ⟨nd, rfl⟩⟩; refine ⟨_, rfl, ?_⟩))
  go_ret
  exact ⟨ab6, by repeat (first | exact Drawn0.refl _ | apply Drawn0.step)⟩
 ·replace c3 := Bool.eq_false_iff.mpr c3
  subst c3
  rw [if_neg (show ¬ (false = true) by decide)] at H
  replace H := Option.bind_eq_some_iff.mp H
  obtain ⟨t260, A40, H⟩ := H
  try dsimp only at H
  have A4 := Aside0.mk A40
  clear A40
  obtain rfl := Option.some.inj H
  go_enter Tryd.func64, Tryd.ntmps64
  go_wp2_with (first | ((with_reducible refine gate_callee (f := 68) rfl ?_); refine goesL_ (some 4) rfl rfl Tryd.func68 (by kernel_rfl) rfl #[.int .i64 a0, .int .i64 97, .int .i64 122] rfl ab5 ?_; (with_reducible refine (spec_l1In.calls a0 97 122 false _ A2.out).mono ?_); rintro e w' ⟨rfl, ⟨nd, rfl⟩⟩; refine ⟨_, rfl, ?_⟩) | (go_at_call 68; (with_reducible refine (spec_l1In.calls a0 65 90 t260 _ A4.out).mono ?_); rintro e w' ⟨rfl, ⟨nd, rfl⟩⟩))
  go_ret
  exact ⟨ab6, by repeat (first | exact Drawn0.refl _ | apply Drawn0.step)⟩

/-! ### spec_Ref: function 16 -/
mutual
def spec_Ref.j0 : Nat → ByteArray → Int → Bool → Bool → Option (ByteArray × Int)
 | 0, _, _, _, _ => none
 | k + 1, x0, x1, x2, x25 => if x25 = true then (some ((⟨#[]⟩ : ByteArray), 0)) else (if (wrap64 (x1 + 1)) < (x0.size : Int) then (if 0 ≤ (wrap64 (x1 + 1)) then (spec_Ref.j1 k x0 x1 x2 ((bt x0 (wrap64 (x1 + 1))) == 35)) else (none)) else (spec_Ref.j1 k x0 x1 x2 false))
def spec_Ref.j1 : Nat → ByteArray → Int → Bool → Bool → Option (ByteArray × Int)
 | 0, _, _, _, _ => none
 | k + 1, x0, x1, x2, x37 => if x37 = true then ((spec_l3Number.f k x0 x1).bind fun bt261 => (some (bt261.1, bt261.2))) else ((spec_l3Longest.f k x0 (wrap64 (x1 + 1))).bind fun t263 => (if t263.toList = ([] : List UInt8) then (some ((⟨#[]⟩ : ByteArray), 0)) else (if (wrap64 ((wrap64 (x1 + 1)) + (t263.size : Int))) < (x0.size : Int) then (if 0 ≤ (wrap64 ((wrap64 (x1 + 1)) + (t263.size : Int))) then (spec_Ref.j2 k x0 x1 x2 t263 (wrap64 ((wrap64 (x1 + 1)) + (t263.size : Int))) ((bt x0 (wrap64 ((wrap64 (x1 + 1)) + (t263.size : Int)))) == 59)) else (none)) else (spec_Ref.j2 k x0 x1 x2 t263 (wrap64 ((wrap64 (x1 + 1)) + (t263.size : Int))) false))))
def spec_Ref.j2 : Nat → ByteArray → Int → Bool → ByteArray → Int → Bool → Option (ByteArray × Int)
 | 0, _, _, _, _, _, _ => none
 | k + 1, x0, x1, x2, x10, x11, x66 => if x66 = true then ((spec_NameSign.f k x10).bind fun t264 => ((spec_PutSign.f k t264).bind fun t265 => (some (t265, wrap64 ((wrap64 (x11 + 1)) - x1))))) else (if x2 = true then (if x11 < (x0.size : Int) then (if 0 ≤ x11 then (if (bt x0 x11) = 61 then (spec_Ref.j3 k x1 x10 x11 true) else ((spec_IsLetter.f (wrap64 (bt x0 x11))).bind fun t266 => (if t266 = true then (spec_Ref.j3 k x1 x10 x11 true) else ((spec_l3Digit.f k (bt x0 x11) false).bind fun t267 => (spec_Ref.j3 k x1 x10 x11 (decide (t267 ≥ 0))))))) else (none)) else (spec_Ref.j3 k x1 x10 x11 false)) else (spec_Ref.j3 k x1 x10 x11 false))
def spec_Ref.j3 : Nat → Int → ByteArray → Int → Bool → Option (ByteArray × Int)
 | 0, _, _, _, _ => none
 | k + 1, x1, x10, x11, x100 => if x100 = true then (some ((⟨#[]⟩ : ByteArray), 0)) else ((spec_NameSign.f k x10).bind fun t268 => ((spec_PutSign.f k t268).bind fun t269 => (some (t269, wrap64 (x11 - x1)))))
end
def spec_Ref.f (k : Nat) (a0 : ByteArray) (a1 : Int) (a2 : Bool) : Option (ByteArray × Int) := if a1 < 0 then (spec_Ref.j0 k a0 a1 a2 true) else (if a1 ≥ (a0.size : Int) then (spec_Ref.j0 k a0 a1 a2 true) else (if 0 ≤ a1 then (if a1 < (a0.size : Int) then (spec_Ref.j0 k a0 a1 a2 ((bt a0 a1) != 38)) else (none)) else (none)))
theorem spec_Ref.mono_l : ∀ k, (∀ y0 y1 y2 y3, LeO (spec_Ref.j0 k y0 y1 y2 y3) (spec_Ref.j0 (k + 1) y0 y1 y2 y3)) ∧ (∀ y0 y1 y2 y3, LeO (spec_Ref.j1 k y0 y1 y2 y3) (spec_Ref.j1 (k + 1) y0 y1 y2 y3)) ∧ (∀ y0 y1 y2 y3 y4 y5, LeO (spec_Ref.j2 k y0 y1 y2 y3 y4 y5) (spec_Ref.j2 (k + 1) y0 y1 y2 y3 y4 y5)) ∧ (∀ y0 y1 y2 y3, LeO (spec_Ref.j3 k y0 y1 y2 y3) (spec_Ref.j3 (k + 1) y0 y1 y2 y3))
 | 0 => ⟨fun _ _ _ _ r h => by simp [spec_Ref.j0] at h, fun _ _ _ _ r h => by simp [spec_Ref.j1] at h, fun _ _ _ _ _ _ r h => by simp [spec_Ref.j2] at h, fun _ _ _ _ r h => by simp [spec_Ref.j3] at h⟩
 | k + 1 => by
  obtain ⟨ih0, ih1, ih2, ih3⟩ := spec_Ref.mono_l k
  refine ⟨?_, ?_, ?_, ?_⟩
  ·intro y0 y1 y2 y3
   unfold spec_Ref.j0
   repeat' first
   | (with_reducible exact ih0 _ _ _ _)
   | (with_reducible exact ih1 _ _ _ _)
   | (with_reducible exact ih2 _ _ _ _ _ _)
   | (with_reducible exact ih3 _ _ _ _)
   | (with_reducible exact spec_NameSign.mono _ _)
   | (with_reducible exact spec_PutSign.mono _ _)
   | (with_reducible exact spec_l3Digit.mono _ _ _)
   | (with_reducible exact spec_l3Longest.mono _ _ _)
   | (with_reducible exact spec_l3Number.mono _ _ _)
   | (with_reducible exact LeO.refl _)
   | (with_reducible exact LeO.none _)
   | (with_reducible refine LeO.ite ?_ ?_)
   | (with_reducible refine LeO.bind ?_ (fun _ => ?_))
  ·intro y0 y1 y2 y3
   unfold spec_Ref.j1
   repeat' first
   | (with_reducible exact ih0 _ _ _ _)
   | (with_reducible exact ih1 _ _ _ _)
   | (with_reducible exact ih2 _ _ _ _ _ _)
   | (with_reducible exact ih3 _ _ _ _)
   | (with_reducible exact spec_NameSign.mono _ _)
   | (with_reducible exact spec_PutSign.mono _ _)
   | (with_reducible exact spec_l3Digit.mono _ _ _)
   | (with_reducible exact spec_l3Longest.mono _ _ _)
   | (with_reducible exact spec_l3Number.mono _ _ _)
   | (with_reducible exact LeO.refl _)
   | (with_reducible exact LeO.none _)
   | (with_reducible refine LeO.ite ?_ ?_)
   | (with_reducible refine LeO.bind ?_ (fun _ => ?_))
  ·intro y0 y1 y2 y3 y4 y5
   unfold spec_Ref.j2
   repeat' first
   | (with_reducible exact ih0 _ _ _ _)
   | (with_reducible exact ih1 _ _ _ _)
   | (with_reducible exact ih2 _ _ _ _ _ _)
   | (with_reducible exact ih3 _ _ _ _)
   | (with_reducible exact spec_NameSign.mono _ _)
   | (with_reducible exact spec_PutSign.mono _ _)
   | (with_reducible exact spec_l3Digit.mono _ _ _)
   | (with_reducible exact spec_l3Longest.mono _ _ _)
   | (with_reducible exact spec_l3Number.mono _ _ _)
   | (with_reducible exact LeO.refl _)
   | (with_reducible exact LeO.none _)
   | (with_reducible refine LeO.ite ?_ ?_)
   | (with_reducible refine LeO.bind ?_ (fun _ => ?_))
  ·intro y0 y1 y2 y3
   unfold spec_Ref.j3
   repeat' first
   | (with_reducible exact ih0 _ _ _ _)
   | (with_reducible exact ih1 _ _ _ _)
   | (with_reducible exact ih2 _ _ _ _ _ _)
   | (with_reducible exact ih3 _ _ _ _)
   | (with_reducible exact spec_NameSign.mono _ _)
   | (with_reducible exact spec_PutSign.mono _ _)
   | (with_reducible exact spec_l3Digit.mono _ _ _)
   | (with_reducible exact spec_l3Longest.mono _ _ _)
   | (with_reducible exact spec_l3Number.mono _ _ _)
   | (with_reducible exact LeO.refl _)
   | (with_reducible exact LeO.none _)
   | (with_reducible refine LeO.ite ?_ ?_)
   | (with_reducible refine LeO.bind ?_ (fun _ => ?_))
theorem spec_Ref.mono : ∀ a0 a1 a2 k, LeO (spec_Ref.f k a0 a1 a2) (spec_Ref.f (k + 1) a0 a1 a2) := by
 intro a0 a1 a2 k
 obtain ⟨ih0, ih1, ih2, ih3⟩ := spec_Ref.mono_l k
 unfold spec_Ref.f
 repeat' first
   | (with_reducible exact ih0 _ _ _ _)
   | (with_reducible exact ih1 _ _ _ _)
   | (with_reducible exact ih2 _ _ _ _ _ _)
   | (with_reducible exact ih3 _ _ _ _)
   | (with_reducible exact spec_NameSign.mono _ _)
   | (with_reducible exact spec_PutSign.mono _ _)
   | (with_reducible exact spec_l3Digit.mono _ _ _)
   | (with_reducible exact spec_l3Longest.mono _ _ _)
   | (with_reducible exact spec_l3Number.mono _ _ _)
   | (with_reducible exact LeO.refl _)
   | (with_reducible exact LeO.none _)
   | (with_reducible refine LeO.ite ?_ ?_)
   | (with_reducible refine LeO.bind ?_ (fun _ => ?_))
set_option maxHeartbeats 8000000 in
set_option maxRecDepth 100000 in
theorem spec_Ref.calls (k : Nat) (a0 : ByteArray) (a1 : Int) (a2 : Bool) (r1 : ByteArray) (r2 : Int) (w : World) (h : spec_Ref.f k a0 a1 a2 = some (r1, r2)) :
  Calls Tryd.prog 16 #[.string a0, .int .i64 a1, .bool a2] w fun e w' => e = .returned (.tuple #[.string r1, .int .i64 r2]) ∧ Below w.heap.size w w' := by
 have HB := Aside0.mk (Below.refl w.heap.size w)
 have H : (if a1 < 0 then (spec_Ref.j0 k a0 a1 a2 true) else (if a1 ≥ (a0.size : Int) then (spec_Ref.j0 k a0 a1 a2 true) else (if 0 ≤ a1 then (if a1 < (a0.size : Int) then (spec_Ref.j0 k a0 a1 a2 ((bt a0 a1) != 38)) else (none)) else (none)))) = some (r1, r2) := h
 clear h
 have HC4 := Aside0.mk H
 clear H
 go_enter Tryd.func16, Tryd.ntmps16
 go_upto_region 1 with (fail)
 go_cut [25] (fun v25 wc => ∃ (kq : Nat) (x25_3 : Bool), v25 = .bool x25_3 ∧ Aside0 (spec_Ref.j0 kq a0 a1 a2 x25_3 = some (r1, r2)) ∧ Aside0 (kq ≤ k) ∧ Aside0 (Below w.heap.size w wc))
 case first =>
  have H := HC4.out
  clear HC4
  by_cases c5 : a1 < 0
  ·rw [if_pos c5] at H
   have c5b0 := decide_eq_true c5
   clear c5
   (first | rw [c5b0] | (simp only [i64_w, i32_w]; rw [c5b0]) | skip)
   (try (generalize hgzc5 : decide (a1 < 0) = bqc5 at *; subst c5b0; have c5b0 := hgzc5; clear hgzc5))
   have H' := Aside0.mk H
   clear H
   go_wp2
   first | go_meet | (subst hji13; go_meet) | (subst hji25; go_meet) | (subst hji36; go_meet)
   case rel => exact ⟨_, (true), ab6, (by first | exact H' | (rw [hji13]; exact H') | (rw [hji25]; exact H') | (rw [hji36]; exact H') | (have h_ := H'.out; rw [c5b0] at h_; exact ⟨h_⟩)), ⟨by first | omega | exact Nat.le_refl _⟩, ⟨ab1⟩⟩
  ·rw [if_neg c5] at H
   have c5b0 := decide_eq_false c5
   clear c5
   (first | rw [c5b0] | (simp only [i64_w, i32_w]; rw [c5b0]) | skip)
   (try (generalize hgzc5 : decide (a1 < 0) = bqc5 at *; subst c5b0; have c5b0 := hgzc5; clear hgzc5))
   by_cases c6 : a1 ≥ (a0.size : Int)
   ·rw [if_pos c6] at H
    have c6b0 : decide ((a0.size : Int) ≤ a1) = true := decide_eq_true c6
    clear c6
    have H' := Aside0.mk H
    clear H
    go_wp2
    first | go_meet | (subst hji13; go_meet) | (subst hji25; go_meet) | (subst hji36; go_meet)
    case rel => exact ⟨_, (true), ab6, (by first | exact H' | (rw [hji13]; exact H') | (rw [hji25]; exact H') | (rw [hji36]; exact H') | (have h_ := H'.out; rw [c5b0] at h_; exact ⟨h_⟩)), ⟨by first | omega | exact Nat.le_refl _⟩, ⟨ab1⟩⟩
   ·rw [if_neg c6] at H
    have c6b0 : decide ((a0.size : Int) ≤ a1) = false := decide_eq_false c6
    clear c6
    by_cases c7 : 0 ≤ a1
    case neg => rw [if_neg c7] at H; exact absurd H (by simp)
    rw [if_pos c7] at H
    have c7b0 := decide_eq_true c7
    clear c7
    by_cases c8 : a1 < (a0.size : Int)
    case neg => rw [if_neg c8] at H; exact absurd H (by simp)
    rw [if_pos c8] at H
    have c8b0 := decide_eq_true c8
    clear c8
    have H' := Aside0.mk H
    clear H
    have p9 : 0 ≤ (a1 : Int) := of_decide_eq_true ab4
    have q9 : a1 < (a0.size : Int) := of_decide_eq_true ab4
    have hx9 := bt_at a0 a1
    replace p9 := eq_true p9
    replace q9 := eq_true q9
    go_wp2
    first | go_meet | (subst hji13; go_meet) | (subst hji25; go_meet) | (subst hji36; go_meet)
    case rel => exact ⟨_, (((bt a0 a1) != 38)), ab6, (by first | exact H' | (rw [hji13]; exact H') | (rw [hji25]; exact H') | (rw [hji36]; exact H') | (have h_ := H'.out; rw [c5b0] at h_; exact ⟨h_⟩)), ⟨by first | omega | exact Nat.le_refl _⟩, ⟨ab1⟩⟩
 case rest =>
  clear HC4
  (try clear c1); (try clear p2); (try clear c5); (try clear c5b0); (try clear c6); (try clear c6b0); (try clear c7); (try clear c7b0); (try clear c8); (try clear c8b0); (try clear p9); (try clear q9); (try clear hx9); (try clear p9); (try clear q9)
  obtain ⟨kq, x25_3, rfl, HA, HJ3, HB⟩ := hcut
  cases kq with
  | zero => exact absurd HA.out (by simp [spec_Ref.j0])
  | succ kj3 =>
   have H := HA.out
   clear HA
   simp only [spec_Ref.j0] at H
   by_cases c10 : x25_3 = true
   ·subst c10
    rw [if_pos rfl] at H
    simp only [Option.some.injEq, Prod.mk.injEq] at H
    obtain ⟨rfl, rfl⟩ := H
    go_wp2
    go_ret2
    exact ⟨ab7, ab1⟩
   ·replace c10 := Bool.eq_false_iff.mpr c10
    subst c10
    rw [if_neg (show ¬ (false = true) by decide)] at H
    have HC11 := Aside0.mk H
    clear H
    go_upto_region 3 with (fail)
    go_cut [37] (fun v37 wc => ∃ (kq : Nat) (x37_10 : Bool), v37 = .bool x37_10 ∧ Aside0 (spec_Ref.j1 kq a0 a1 a2 x37_10 = some (r1, r2)) ∧ Aside0 (kq ≤ kj3) ∧ Aside0 (Below w.heap.size w wc))
    case first =>
     have H := HC11.out
     clear HC11
     by_cases c12 : (wrap64 (a1 + 1)) < (a0.size : Int)
     ·rw [if_pos c12] at H
      have c12b0 := decide_eq_true c12
      clear c12
      (first | rw [c12b0] | (simp only [i64_w, i32_w]; rw [c12b0]) | skip)
      (try (generalize hgzc12 : decide ((wrap64 (a1 + 1)) < (a0.size : Int)) = bqc12 at *; subst c12b0; have c12b0 := hgzc12; clear hgzc12))
      obtain ⟨ji13, hji13⟩ : ∃ j_ : Int, (wrap64 (a1 + 1)) = j_ := ⟨_, rfl⟩
      replace H : (if 0 ≤ (ji13) then (spec_Ref.j1 kj3 a0 a1 a2 ((bt a0 (ji13)) == 35)) else (none)) = some (r1, r2) := by first | (rw [hji13] at H; exact H) | (simp only [hji13] at H ⊢; exact H)
      (try rw [hji13] at c12b0)
      have hji13w : (IntKind.i64.wrap (a1 + 1)) = ji13 := (i64_w _).trans hji13
      by_cases c14 : 0 ≤ (ji13)
      case neg => rw [if_neg c14] at H; exact absurd H (by simp)
      rw [if_pos c14] at H
      have c14b0 := decide_eq_true c14
      clear c14
      have H' := Aside0.mk H
      clear H
      have p15 : 0 ≤ ((ji13) : Int) := of_decide_eq_true ab4
      have q15 : (ji13) < (a0.size : Int) := of_decide_eq_true ab4
      have hx15 := bt_at a0 (ji13)
      replace p15 := eq_true p15
      replace q15 := eq_true q15
      go_wp2
      first | go_meet | (subst hji13; go_meet) | (subst hji25; go_meet) | (subst hji36; go_meet)
      case rel => exact ⟨_, (((bt a0 (ji13)) == 35)), (by first | rfl | (simp; done) | (simp only [← hji13] <;> (first | rfl | simp)) | (simp [*]; done)), (by first | exact H' | (rw [hji13]; exact H') | (rw [hji25]; exact H') | (rw [hji36]; exact H') | (have h_ := H'.out; rw [c12b0] at h_; exact ⟨h_⟩)), ⟨by have := HJ3.out; first | omega | exact Nat.le_refl _⟩, ⟨ab1⟩⟩
     ·rw [if_neg c12] at H
      have c12b0 := decide_eq_false c12
      clear c12
      (first | rw [c12b0] | (simp only [i64_w, i32_w]; rw [c12b0]) | skip)
      (try (generalize hgzc12 : decide ((wrap64 (a1 + 1)) < (a0.size : Int)) = bqc12 at *; subst c12b0; have c12b0 := hgzc12; clear hgzc12))
      have H' := Aside0.mk H
      clear H
      go_wp2
      first | go_meet | (subst hji13; go_meet) | (subst hji25; go_meet) | (subst hji36; go_meet)
      case rel => exact ⟨_, (false), ab6, (by first | exact H' | (rw [hji13]; exact H') | (rw [hji25]; exact H') | (rw [hji36]; exact H') | (have h_ := H'.out; rw [c12b0] at h_; exact ⟨h_⟩)), ⟨by have := HJ3.out; first | omega | exact Nat.le_refl _⟩, ⟨ab1⟩⟩
    case rest =>
     clear HC11
     (try clear c1); (try clear p1); (try clear q1); (try clear hx1); (try clear p2); (try clear c5); (try clear c5b0); (try clear c6); (try clear c6b0); (try clear p6); (try clear c7); (try clear c7b0); (try clear c8); (try clear c8b0); (try clear p9); (try clear q9); (try clear hx9); (try clear c10); (try clear c12); (try clear c12b0); (try clear c14); (try clear c14b0); (try clear p15); (try clear q15); (try clear hx15); (try clear p15); (try clear p2); (try clear p9); (try clear q15); (try clear q9)
     obtain ⟨kq, x37_10, rfl, HA, HJ10, HB⟩ := hcut
     cases kq with
     | zero => exact absurd HA.out (by simp [spec_Ref.j1])
     | succ kj10 =>
      have H := HA.out
      clear HA
      simp only [spec_Ref.j1] at H
      by_cases c16 : x37_10 = true
      ·subst c16
       rw [if_pos rfl] at H
       replace H := Option.bind_eq_some_iff.mp H
       obtain ⟨⟨t261, t262⟩, A170, H⟩ := H
       try dsimp only at H
       have A17 := Aside0.mk A170
       clear A170
       simp only [Option.some.injEq, Prod.mk.injEq] at H
       obtain ⟨rfl, rfl⟩ := H
       go_wp2_with (first | ((with_reducible refine gate_callee (f := 62) rfl ?_); refine goesL_ (some 41) rfl rfl Tryd.func62 (by kernel_rfl) rfl #[.string a0, .int .i64 a1] rfl ab5 ?_; (with_reducible refine (spec_l3Number.calls kj10 a0 a1 t261 t262 _ A17.out).mono ?_); rintro e w18 ⟨rfl, hb⟩; refine ⟨_, rfl, ?_⟩; have n0_ := Aside0.mk (below_step ab1 hb); clear HB; have HB := n0_; clear n0_; (try clear hb); (try clear hb2); (try clear hk); (try clear hi)))
       go_ret2
       exact ⟨ab7, ab1⟩
      ·replace c16 := Bool.eq_false_iff.mpr c16
       subst c16
       rw [if_neg (show ¬ (false = true) by decide)] at H
       replace H := Option.bind_eq_some_iff.mp H
       obtain ⟨t263, A190, H⟩ := H
       try dsimp only at H
       have A19 := Aside0.mk A190
       clear A190
       by_cases c20 : t263.toList = ([] : List UInt8)
       ·rw [if_pos c20] at H
        have c20b0 : (t263.toList == ([] : List UInt8)) = true := beq_iff_eq.mpr c20
        have c20b1 : (t263.toList != ([] : List UInt8)) = false := bne_eq_false_iff_eq.mpr c20
        clear c20
        simp only [Option.some.injEq, Prod.mk.injEq] at H
        obtain ⟨rfl, rfl⟩ := H
        go_wp2_with (first | ((with_reducible refine gate_callee (f := 63) rfl ?_); refine goesL_ (some 49) rfl rfl Tryd.func63 (by kernel_rfl) rfl #[.string a0, .int .i64 (wrap64 (a1 + 1))] rfl ab5 ?_; (with_reducible refine (spec_l3Longest.calls kj10 a0 (wrap64 (a1 + 1)) t263 _ A19.out).mono ?_); rintro e w21 ⟨rfl, hb⟩; refine ⟨_, rfl, ?_⟩; have n0_ := Aside0.mk (below_step ab1 hb); clear HB; have HB := n0_; clear n0_; (try clear hb); (try clear hb2); (try clear hk); (try clear hi)))
        go_ret2
        exact ⟨ab7, ab1⟩
       ·rw [if_neg c20] at H
        have c20b0 : (t263.toList == ([] : List UInt8)) = false := beq_eq_false_iff_ne.mpr c20
        have c20b1 : (t263.toList != ([] : List UInt8)) = true := bne_iff_ne.mpr c20
        have HC22 := Aside0.mk H
        clear H
        go_upto_region 10 with (first | ((with_reducible refine gate_callee (f := 63) rfl ?_); refine goesL_ (some 49) rfl rfl Tryd.func63 (by kernel_rfl) rfl #[.string a0, .int .i64 (wrap64 (a1 + 1))] rfl ab5 ?_; (with_reducible refine (spec_l3Longest.calls kj10 a0 (wrap64 (a1 + 1)) t263 _ A19.out).mono ?_); rintro e w23 ⟨rfl, hb⟩; refine ⟨_, rfl, ?_⟩; have n0_ := Aside0.mk (below_step ab1 hb); clear HB; have HB := n0_; clear n0_; (try clear hb); (try clear hb2); (try clear hk); (try clear hi)))
        (try simp only [Act.put, List.setIfInBounds_toArray, List.set_cons_zero, List.set_cons_succ])
        go_cut [66] (fun v66 wc => ∃ (kq : Nat) (x66_21 : Bool), v66 = .bool x66_21 ∧ Aside0 (spec_Ref.j2 kq a0 a1 a2 t263 (wrap64 ((wrap64 (a1 + 1)) + (t263.size : Int))) x66_21 = some (r1, r2)) ∧ Aside0 (kq ≤ kj10) ∧ Aside0 (Below w.heap.size w wc))
        case first =>
         have H := HC22.out
         clear HC22
         by_cases c24 : (wrap64 ((wrap64 (a1 + 1)) + (t263.size : Int))) < (a0.size : Int)
         ·rw [if_pos c24] at H
          have c24b0 := decide_eq_true c24
          clear c24
          (first | rw [c24b0] | (simp only [i64_w, i32_w]; rw [c24b0]) | skip)
          (try (generalize hgzc24 : decide ((wrap64 ((wrap64 (a1 + 1)) + (t263.size : Int))) < (a0.size : Int)) = bqc24 at *; subst c24b0; have c24b0 := hgzc24; clear hgzc24))
          obtain ⟨ji25, hji25⟩ : ∃ j_ : Int, (wrap64 ((wrap64 (a1 + 1)) + (t263.size : Int))) = j_ := ⟨_, rfl⟩
          replace H : (if 0 ≤ (ji25) then (spec_Ref.j2 kj10 a0 a1 a2 t263 ji25 ((bt a0 (ji25)) == 59)) else (none)) = some (r1, r2) := by first | (rw [hji25] at H; exact H) | (simp only [hji25] at H ⊢; exact H)
          (try rw [hji25] at c24b0)
          (try rw [hji25] at c12b0)
          have hji25w : (IntKind.i64.wrap ((wrap64 (a1 + 1)) + (t263.size : Int))) = ji25 := (i64_w _).trans hji25
          by_cases c26 : 0 ≤ (ji25)
          case neg => rw [if_neg c26] at H; exact absurd H (by simp)
          rw [if_pos c26] at H
          have c26b0 := decide_eq_true c26
          clear c26
          have H' := Aside0.mk H
          clear H
          have p27 : 0 ≤ ((ji25) : Int) := of_decide_eq_true ab4
          have q27 : (ji25) < (a0.size : Int) := of_decide_eq_true ab4
          have hx27 := bt_at a0 (ji25)
          replace p27 := eq_true p27
          replace q27 := eq_true q27
          go_wp2
          first | go_meet | (subst hji13; go_meet) | (subst hji25; go_meet) | (subst hji36; go_meet)
          case rel => exact ⟨_, (((bt a0 (ji25)) == 59)), (by first | rfl | (simp; done) | (simp only [← hji25] <;> (first | rfl | simp)) | (simp [*]; done)), (by first | exact H' | (rw [hji13]; exact H') | (rw [hji25]; exact H') | (rw [hji36]; exact H') | (have h_ := H'.out; rw [c24b0] at h_; exact ⟨h_⟩)), ⟨by have := HJ3.out; have := HJ10.out; first | omega | exact Nat.le_refl _⟩, ⟨ab1⟩⟩
         ·rw [if_neg c24] at H
          have c24b0 := decide_eq_false c24
          clear c24
          (first | rw [c24b0] | (simp only [i64_w, i32_w]; rw [c24b0]) | skip)
          (try (generalize hgzc24 : decide ((wrap64 ((wrap64 (a1 + 1)) + (t263.size : Int))) < (a0.size : Int)) = bqc24 at *; subst c24b0; have c24b0 := hgzc24; clear hgzc24))
          have H' := Aside0.mk H
          clear H
          go_wp2
          first | go_meet | (subst hji13; go_meet) | (subst hji25; go_meet) | (subst hji36; go_meet)
          case rel => exact ⟨_, (false), ab6, (by first | exact H' | (rw [hji13]; exact H') | (rw [hji25]; exact H') | (rw [hji36]; exact H') | (have h_ := H'.out; rw [c24b0] at h_; exact ⟨h_⟩)), ⟨by have := HJ3.out; have := HJ10.out; first | omega | exact Nat.le_refl _⟩, ⟨ab1⟩⟩
        case rest =>
         clear HC22
         (try clear c1); (try clear p1); (try clear q1); (try clear hx1); (try clear c2); (try clear p2); (try clear q2); (try clear hx2); (try clear c5); (try clear c5b0); (try clear c6); (try clear c6b0); (try clear p6); (try clear c7); (try clear c7b0); (try clear c8); (try clear c8b0); (try clear p9); (try clear q9); (try clear hx9); (try clear c10); (try clear c12); (try clear c12b0); (try clear c14); (try clear c14b0); (try clear p15); (try clear q15); (try clear hx15); (try clear c16); (try clear c20); (try clear c20b0); (try clear c20b1); (try clear c24); (try clear c24b0); (try clear c26); (try clear c26b0); (try clear p27); (try clear q27); (try clear hx27); (try clear p1); (try clear p15); (try clear p2); (try clear p27); (try clear p6); (try clear p9); (try clear q1); (try clear q15); (try clear q27); (try clear q9)
         obtain ⟨kq, x66_21, rfl, HA, HJ21, HB⟩ := hcut
         cases kq with
         | zero => exact absurd HA.out (by simp [spec_Ref.j2])
         | succ kj21 =>
          have H := HA.out
          clear HA
          simp only [spec_Ref.j2] at H
          by_cases c28 : x66_21 = true
          ·subst c28
           rw [if_pos rfl] at H
           replace H := Option.bind_eq_some_iff.mp H
           obtain ⟨t264, A290, H⟩ := H
           try dsimp only at H
           have A29 := Aside0.mk A290
           clear A290
           replace H := Option.bind_eq_some_iff.mp H
           obtain ⟨t265, A300, H⟩ := H
           try dsimp only at H
           have A30 := Aside0.mk A300
           clear A300
           simp only [Option.some.injEq, Prod.mk.injEq] at H
           obtain ⟨rfl, rfl⟩ := H
           go_wp2_with (first | ((with_reducible refine gate_callee (f := 23) rfl ?_); refine goesL_ (some 68) rfl rfl Tryd.func23 (by kernel_rfl) rfl #[.string t263] rfl ab5 ?_; (with_reducible refine (spec_NameSign.calls kj21 t263 t264 _ A29.out).mono ?_); rintro e w31 ⟨rfl, hb⟩; refine ⟨_, rfl, ?_⟩; have n0_ := Aside0.mk (below_step ab1 hb); clear HB; have HB := n0_; clear n0_; (try clear hb); (try clear hb2); (try clear hk); (try clear hi)) | ((with_reducible refine gate_callee (f := 37) rfl ?_); refine goesL_ (some 69) rfl rfl Tryd.func37 (by kernel_rfl) rfl #[.int .i64 t264] rfl ab5 ?_; (with_reducible refine (spec_PutSign.calls kj21 t264 t265 _ A30.out).mono ?_); rintro e w32 ⟨rfl, hb⟩; refine ⟨_, rfl, ?_⟩; have n0_ := Aside0.mk (below_step ab1 hb); clear HB; have HB := n0_; clear n0_; (try clear hb); (try clear hb2); (try clear hk); (try clear hi)))
           go_ret2
           exact ⟨ab7, ab1⟩
          ·replace c28 := Bool.eq_false_iff.mpr c28
           subst c28
           rw [if_neg (show ¬ (false = true) by decide)] at H
           have HC33 := Aside0.mk H
           clear H
           go_upto_region 12 with (fail)
           go_cut [100] (fun v100 wc => ∃ (kq : Nat) (x100_32 : Bool), v100 = .bool x100_32 ∧ Aside0 (spec_Ref.j3 kq a1 t263 (wrap64 ((wrap64 (a1 + 1)) + (t263.size : Int))) x100_32 = some (r1, r2)) ∧ Aside0 (kq ≤ kj21) ∧ Aside0 (Below w.heap.size w wc))
           case first =>
            have H := HC33.out
            clear HC33
            by_cases c34 : a2 = true
            ·subst c34
             rw [if_pos rfl] at H
             by_cases c35 : (wrap64 ((wrap64 (a1 + 1)) + (t263.size : Int))) < (a0.size : Int)
             ·rw [if_pos c35] at H
              have c35b0 := decide_eq_true c35
              clear c35
              (first | rw [c35b0] | (simp only [i64_w, i32_w]; rw [c35b0]) | skip)
              (try (generalize hgzc35 : decide ((wrap64 ((wrap64 (a1 + 1)) + (t263.size : Int))) < (a0.size : Int)) = bqc35 at *; subst c35b0; have c35b0 := hgzc35; clear hgzc35))
              obtain ⟨ji36, hji36⟩ : ∃ j_ : Int, (wrap64 ((wrap64 (a1 + 1)) + (t263.size : Int))) = j_ := ⟨_, rfl⟩
              replace H : (if 0 ≤ (ji36) then (if (bt a0 (ji36)) = 61 then (spec_Ref.j3 kj21 a1 t263 (ji36) true) else ((spec_IsLetter.f (wrap64 (bt a0 (ji36)))).bind fun t266 => (if t266 = true then (spec_Ref.j3 kj21 a1 t263 (ji36) true) else ((spec_l3Digit.f kj21 (bt a0 (ji36)) false).bind fun t267 => (spec_Ref.j3 kj21 a1 t263 (ji36) (decide (t267 ≥ 0))))))) else (none)) = some (r1, r2) := by first | (rw [hji36] at H; exact H) | (simp only [hji36] at H ⊢; exact H)
              (try rw [hji36] at c35b0)
              (try rw [hji36] at c12b0)
              (try rw [hji36] at c24b0)
              have hji36w : (IntKind.i64.wrap ((wrap64 (a1 + 1)) + (t263.size : Int))) = ji36 := (i64_w _).trans hji36
              by_cases c37 : 0 ≤ (ji36)
              case neg => rw [if_neg c37] at H; exact absurd H (by simp)
              rw [if_pos c37] at H
              have c37b0 := decide_eq_true c37
              clear c37
              by_cases c39 : (bt a0 (ji36)) = 61
              ·rw [if_pos c39] at H
               have c39b0 : ((bt a0 (ji36)) == 61) = true := beq_iff_eq.mpr c39
               have c39b1 : ((bt a0 (ji36)) != 61) = false := bne_eq_false_iff_eq.mpr c39
               clear c39
               have H' := Aside0.mk H
               clear H
               have p38 : 0 ≤ ((ji36) : Int) := of_decide_eq_true ab4
               have q38 : (ji36) < (a0.size : Int) := of_decide_eq_true ab4
               have hx38 := bt_at a0 (ji36)
               replace p38 := eq_true p38
               replace q38 := eq_true q38
               go_wp2
               first | go_meet | (subst hji13; go_meet) | (subst hji25; go_meet) | (subst hji36; go_meet)
               case rel => exact ⟨_, (true), ab6, (by first | exact H' | (rw [hji13]; exact H') | (rw [hji25]; exact H') | (rw [hji36]; exact H') | (have h_ := H'.out; rw [c35b0] at h_; exact ⟨h_⟩)), ⟨by have := HJ3.out; have := HJ10.out; have := HJ21.out; first | omega | exact Nat.le_refl _⟩, ⟨ab1⟩⟩
              ·rw [if_neg c39] at H
               have c39b0 : ((bt a0 (ji36)) == 61) = false := beq_eq_false_iff_ne.mpr c39
               have c39b1 : ((bt a0 (ji36)) != 61) = true := bne_iff_ne.mpr c39
               replace H := Option.bind_eq_some_iff.mp H
               obtain ⟨t266, A410, H⟩ := H
               replace H : (if t266 = true then (spec_Ref.j3 kj21 a1 t263 (ji36) true) else ((spec_l3Digit.f kj21 (bt a0 (ji36)) false).bind fun t267 => (spec_Ref.j3 kj21 a1 t263 (ji36) (decide (t267 ≥ 0))))) = some (r1, r2) := by first | exact H | (rw [c35b0]; exact H)
               have A41 := Aside0.mk A410
               clear A410
               by_cases c42 : t266 = true
               ·subst c42
                rw [if_pos rfl] at H
                have H' := Aside0.mk H
                clear H
                have p38 : 0 ≤ ((ji36) : Int) := of_decide_eq_true ab4
                have q38 : (ji36) < (a0.size : Int) := of_decide_eq_true ab4
                have hx38 := bt_at a0 (ji36)
                replace p38 := eq_true p38
                replace q38 := eq_true q38
                have p40 : 0 ≤ ((ji36) : Int) := of_decide_eq_true ab4
                have q40 : (ji36) < (a0.size : Int) := of_decide_eq_true ab4
                have hx40 := bt_at a0 (ji36)
                replace p40 := eq_true p40
                replace q40 := eq_true q40
                go_wp2_with (first | (go_at_call 64; (with_reducible refine (spec_IsLetter.calls (wrap64 (bt a0 (ji36))) true _ A41.out).mono ?_); rintro e w' ⟨rfl, ⟨nd, rfl⟩⟩))
                first | go_meet | (subst hji13; go_meet) | (subst hji25; go_meet) | (subst hji36; go_meet)
                case rel => exact ⟨_, (true), ab6, (by first | exact H' | (rw [hji13]; exact H') | (rw [hji25]; exact H') | (rw [hji36]; exact H') | (have h_ := H'.out; rw [c35b0] at h_; exact ⟨h_⟩)), ⟨by have := HJ3.out; have := HJ10.out; have := HJ21.out; first | omega | exact Nat.le_refl _⟩, ⟨ab1⟩⟩
               ·replace c42 := Bool.eq_false_iff.mpr c42
                subst c42
                rw [if_neg (show ¬ (false = true) by decide)] at H
                replace H := Option.bind_eq_some_iff.mp H
                obtain ⟨t267, A440, H⟩ := H
                replace H : (spec_Ref.j3 kj21 a1 t263 (ji36) (decide (t267 ≥ 0))) = some (r1, r2) := by first | exact H | (rw [c35b0]; exact H)
                have A44 := Aside0.mk A440
                clear A440
                have H' := Aside0.mk H
                clear H
                have p38 : 0 ≤ ((ji36) : Int) := of_decide_eq_true ab4
                have q38 : (ji36) < (a0.size : Int) := of_decide_eq_true ab4
                have hx38 := bt_at a0 (ji36)
                replace p38 := eq_true p38
                replace q38 := eq_true q38
                have p40 : 0 ≤ ((ji36) : Int) := of_decide_eq_true ab4
                have q40 : (ji36) < (a0.size : Int) := of_decide_eq_true ab4
                have hx40 := bt_at a0 (ji36)
                replace p40 := eq_true p40
                replace q40 := eq_true q40
                go_wp2_with (first | (go_at_call 64; (with_reducible refine (spec_IsLetter.calls (wrap64 (bt a0 (ji36))) false _ A41.out).mono ?_); rintro e w' ⟨rfl, ⟨nd, rfl⟩⟩; have p43 : 0 ≤ ((ji36) : Int) := of_decide_eq_true ab4; have q43 : (ji36) < (a0.size : Int) := of_decide_eq_true ab4; have hx43 := bt_at a0 (ji36); replace p43 := eq_true p43; replace q43 := eq_true q43) | (go_at_call 65; (with_reducible refine (spec_l3Digit.calls kj21 (bt a0 (ji36)) false t267 _ A44.out).mono ?_); rintro e w' ⟨rfl, ⟨nd, rfl⟩⟩))
                first | go_meet | (subst hji13; go_meet) | (subst hji25; go_meet) | (subst hji36; go_meet)
                case rel => exact ⟨_, (decide (t267 ≥ 0)), ab6, (by first | exact H' | (rw [hji13]; exact H') | (rw [hji25]; exact H') | (rw [hji36]; exact H') | (have h_ := H'.out; rw [c35b0] at h_; exact ⟨h_⟩)), ⟨by have := HJ3.out; have := HJ10.out; have := HJ21.out; first | omega | exact Nat.le_refl _⟩, ⟨ab1⟩⟩
             ·rw [if_neg c35] at H
              have c35b0 := decide_eq_false c35
              clear c35
              (first | rw [c35b0] | (simp only [i64_w, i32_w]; rw [c35b0]) | skip)
              (try (generalize hgzc35 : decide ((wrap64 ((wrap64 (a1 + 1)) + (t263.size : Int))) < (a0.size : Int)) = bqc35 at *; subst c35b0; have c35b0 := hgzc35; clear hgzc35))
              have H' := Aside0.mk H
              clear H
              go_wp2
              first | go_meet | (subst hji13; go_meet) | (subst hji25; go_meet) | (subst hji36; go_meet)
              case rel => exact ⟨_, (false), ab6, (by first | exact H' | (rw [hji13]; exact H') | (rw [hji25]; exact H') | (rw [hji36]; exact H') | (have h_ := H'.out; rw [c35b0] at h_; exact ⟨h_⟩)), ⟨by have := HJ3.out; have := HJ10.out; have := HJ21.out; first | omega | exact Nat.le_refl _⟩, ⟨ab1⟩⟩
            ·replace c34 := Bool.eq_false_iff.mpr c34
             subst c34
             rw [if_neg (show ¬ (false = true) by decide)] at H
             have H' := Aside0.mk H
             clear H
             go_wp2
             first | go_meet | (subst hji13; go_meet) | (subst hji25; go_meet) | (subst hji36; go_meet)
             case rel => exact ⟨_, (false), ab6, H', ⟨by have := HJ3.out; have := HJ10.out; have := HJ21.out; first | omega | exact Nat.le_refl _⟩, ⟨ab1⟩⟩
           case rest =>
            clear HC33
            (try clear c1); (try clear p1); (try clear q1); (try clear hx1); (try clear c2); (try clear p2); (try clear q2); (try clear hx2); (try clear c3); (try clear p3); (try clear q3); (try clear hx3); (try clear c4); (try clear p4); (try clear q4); (try clear hx4); (try clear c5); (try clear c5b0); (try clear c6); (try clear c6b0); (try clear p6); (try clear c7); (try clear c7b0); (try clear c8); (try clear c8b0); (try clear p9); (try clear q9); (try clear hx9); (try clear c10); (try clear c12); (try clear c12b0); (try clear c14); (try clear c14b0); (try clear p15); (try clear q15); (try clear hx15); (try clear c16); (try clear c20); (try clear c20b0); (try clear c20b1); (try clear c23); (try clear c24); (try clear c24b0); (try clear c26); (try clear c26b0); (try clear p27); (try clear q27); (try clear hx27); (try clear c28); (try clear c34); (try clear c35); (try clear c35b0); (try clear c37); (try clear c37b0); (try clear p38); (try clear q38); (try clear hx38); (try clear c39); (try clear c39b0); (try clear c39b1); (try clear p40); (try clear q40); (try clear hx40); (try clear c42); (try clear p43); (try clear q43); (try clear hx43); (try clear p1); (try clear p15); (try clear p2); (try clear p27); (try clear p38); (try clear p40); (try clear p43); (try clear p6); (try clear p9); (try clear q1); (try clear q15); (try clear q2); (try clear q27); (try clear q38); (try clear q40); (try clear q43); (try clear q9)
            obtain ⟨kq, x100_32, rfl, HA, HJ32, HB⟩ := hcut
            cases kq with
            | zero => exact absurd HA.out (by simp [spec_Ref.j3])
            | succ kj32 =>
             have H := HA.out
             clear HA
             simp only [spec_Ref.j3] at H
             by_cases c45 : x100_32 = true
             ·subst c45
              rw [if_pos rfl] at H
              simp only [Option.some.injEq, Prod.mk.injEq] at H
              obtain ⟨rfl, rfl⟩ := H
              go_wp2
              go_ret2
              exact ⟨ab7, ab1⟩
             ·replace c45 := Bool.eq_false_iff.mpr c45
              subst c45
              rw [if_neg (show ¬ (false = true) by decide)] at H
              replace H := Option.bind_eq_some_iff.mp H
              obtain ⟨t268, A460, H⟩ := H
              try dsimp only at H
              have A46 := Aside0.mk A460
              clear A460
              replace H := Option.bind_eq_some_iff.mp H
              obtain ⟨t269, A470, H⟩ := H
              try dsimp only at H
              have A47 := Aside0.mk A470
              clear A470
              simp only [Option.some.injEq, Prod.mk.injEq] at H
              obtain ⟨rfl, rfl⟩ := H
              go_wp2_with (first | ((with_reducible refine gate_callee (f := 23) rfl ?_); refine goesL_ (some 102) rfl rfl Tryd.func23 (by kernel_rfl) rfl #[.string t263] rfl ab5 ?_; (with_reducible refine (spec_NameSign.calls kj32 t263 t268 _ A46.out).mono ?_); rintro e w48 ⟨rfl, hb⟩; refine ⟨_, rfl, ?_⟩; have n0_ := Aside0.mk (below_step ab1 hb); clear HB; have HB := n0_; clear n0_; (try clear hb); (try clear hb2); (try clear hk); (try clear hi)) | ((with_reducible refine gate_callee (f := 37) rfl ?_); refine goesL_ (some 103) rfl rfl Tryd.func37 (by kernel_rfl) rfl #[.int .i64 t268] rfl ab5 ?_; (with_reducible refine (spec_PutSign.calls kj32 t268 t269 _ A47.out).mono ?_); rintro e w49 ⟨rfl, hb⟩; refine ⟨_, rfl, ?_⟩; have n0_ := Aside0.mk (below_step ab1 hb); clear HB; have HB := n0_; clear n0_; (try clear hb); (try clear hb2); (try clear hk); (try clear hi)))
              go_ret2
              exact ⟨ab7, ab1⟩

/-! ### spec_DrawNumbered: function 17 -/
def spec_DrawNumbered.f (k : Nat) (l0 : List Int) : Option (Int) := (spec_l1New.f k l0).bind fun bt270 => ((spec_l1PickInt.f bt270.1 bt270.2.1 bt270.2.2 (([0, 1, 65, 127, 128, 129, 150, 159, 160, 55296, 1114111, 1114112, (-1)] : List Int))).bind fun bt277 => (some bt277.1))
theorem spec_DrawNumbered.mono : ∀ a0 k, LeO (spec_DrawNumbered.f k a0) (spec_DrawNumbered.f (k + 1) a0) := by
 intro a0 k
 unfold spec_DrawNumbered.f
 repeat' first
   | (with_reducible exact spec_l1New.mono _ _)
   | (with_reducible exact LeO.refl _)
   | (with_reducible exact LeO.none _)
   | (with_reducible refine LeO.ite ?_ ?_)
   | (with_reducible refine LeO.bind ?_ (fun _ => ?_))
set_option maxHeartbeats 8000000 in
set_option maxRecDepth 100000 in
theorem spec_DrawNumbered.calls (k : Nat) (A0 : Option Addr) (c0 : Nat) (l0 : List Int) (r : Int) (w : World) (hr0 : Kd.C (Kd.int .u8) w A0 l0.length l0) (hc0 : l0.length ≤ c0) (h : spec_DrawNumbered.f k l0 = some r) :
  Calls Tryd.prog 17 #[.slice A0 l0.length c0] w fun e w' => e = .returned (.int .i64 r) ∧ Below w.heap.size w w' := by
 have HR0 := Aside0.mk hr0
 have HC0 := Aside0.mk hc0
 clear hr0 hc0
 have HB := Aside0.mk (Below.refl w.heap.size w)
 have H : ((spec_l1New.f k l0).bind fun bt270 => ((spec_l1PickInt.f bt270.1 bt270.2.1 bt270.2.2 (([0, 1, 65, 127, 128, 129, 150, 159, 160, 55296, 1114111, 1114112, (-1)] : List Int))).bind fun bt277 => (some bt277.1))) = some r := h
 clear h
 replace H := Option.bind_eq_some_iff.mp H
 obtain ⟨⟨t270, t271, t272⟩, A20, H⟩ := H
 try dsimp only at H
 have A2 := Aside0.mk A20
 clear A20
 obtain ⟨y274, hy274⟩ : ∃ y_ : List Int, y_ = (([0, 1, 65, 127, 128, 129, 150, 159, 160, 55296, 1114111, 1114112, (-1)] : List Int)) := ⟨_, rfl⟩
 replace H : ((spec_l1PickInt.f t270 t271 t272 y274).bind fun bt277 => (some bt277.1)) = some r := by first | (rw [hy274]; with_reducible exact H) | (have H2_ := (Option.bind_some _ _).symm.trans H; rw [hy274]; with_reducible exact H2_) | (have H2_ := (Option.bind_some _ _).symm.trans H; with_reducible exact H2_) | with_reducible exact H | (rw [hy274]; exact H) | exact H
 have Ny274 := Aside0.mk hy274
 clear hy274
 replace H := Option.bind_eq_some_iff.mp H
 obtain ⟨⟨t277, t278, t279⟩, A30, H⟩ := H
 try dsimp only at H
 have A3 := Aside0.mk A30
 clear A30
 obtain rfl := Option.some.inj H
 go_enter Tryd.func17, Tryd.ntmps17
 go_wp2_with (first | ((with_reducible refine gate_callee (f := 53) rfl ?_); refine goesL_ (some 4) rfl rfl Tryd.func53 (by kernel_rfl) rfl #[.slice A0 l0.length c0] rfl ab5 ?_; (with_reducible refine (spec_l1New.calls k _ _ l0 t270 t271 t272 w _ ?side1 ?side2 ?side3 A2.out).mono ?_); (case side1 => repeat (first | (with_reducible first | exact HB.out | apply below_alloc | apply pw_below_drewN | apply below_drew1) | exact HB.out)); (case side2 => exact HR0.out); (case side3 => exact HC0.out); rintro e w4 ⟨g273, rfl, hi, hb, hb2⟩; refine ⟨_, rfl, ?_⟩; have n0_ := Aside0.mk (hb); have n1_ := Aside0.mk (hi); clear HB; have HB := n0_; have HI273 := n1_; clear n0_ n1_; (try clear hb); (try clear hb2); (try clear hk); (try clear hi)) | ((with_reducible refine gate_dst (N := 5) rfl ?_); refine Kd.R_lit (Kd.int .i64) _ 3 ?hg (N := 5) ?hd (xs := ([0, 1, 65, 127, 128, 129, 150, 159, 160, 55296, 1114111, 1114112, (-1)] : List Int)) (inner := [.int .i64 0, .int .i64 1, .int .i64 65, .int .i64 127, .int .i64 128, .int .i64 129, .int .i64 150, .int .i64 159, .int .i64 160, .int .i64 55296, .int .i64 1114111, .int .i64 1114112, .int .i64 (-1)]) (ok := fun _ => True) (okp := fun _ => True) ?hr ?hp (fun _ hk => hk) trivial (Below.refl _ _) (Nat.le_refl _) (by simp) ?_; (case hd => rfl); (case hg => rfl); (case hr => first | (go_simp; done) | (go_simp; rfl)); (case hp => exact (Reps.one (show Kd.M (Kd.int .i64) _ _ _ 0 [.int .i64 0] from rfl) (Reps.one (show Kd.M (Kd.int .i64) _ _ _ 1 [.int .i64 1] from rfl) (Reps.one (show Kd.M (Kd.int .i64) _ _ _ 65 [.int .i64 65] from rfl) (Reps.one (show Kd.M (Kd.int .i64) _ _ _ 127 [.int .i64 127] from rfl) (Reps.one (show Kd.M (Kd.int .i64) _ _ _ 128 [.int .i64 128] from rfl) (Reps.one (show Kd.M (Kd.int .i64) _ _ _ 129 [.int .i64 129] from rfl) (Reps.one (show Kd.M (Kd.int .i64) _ _ _ 150 [.int .i64 150] from rfl) (Reps.one (show Kd.M (Kd.int .i64) _ _ _ 159 [.int .i64 159] from rfl) (Reps.one (show Kd.M (Kd.int .i64) _ _ _ 160 [.int .i64 160] from rfl) (Reps.one (show Kd.M (Kd.int .i64) _ _ _ 55296 [.int .i64 55296] from rfl) (Reps.one (show Kd.M (Kd.int .i64) _ _ _ 1114111 [.int .i64 1114111] from rfl) (Reps.one (show Kd.M (Kd.int .i64) _ _ _ 1114112 [.int .i64 1114112] from rfl) (Reps.one (show Kd.M (Kd.int .i64) _ _ _ (-1) [.int .i64 (-1)] from rfl) (Reps.none _ _))))))))))))))); intro v275 w5 ho6 hb hg_ hnew_; clear hg_ hnew_; (first | rw [← Ny274.out] at ho6 | (simp only [Int.reduceToNat] at ho6; rw [← Ny274.out] at ho6)); have n0_ := Aside0.mk (Kd.R_lower ho6 (below_size (by repeat (first | (with_reducible first | exact HB.out | apply below_alloc | apply pw_below_drewN | apply below_drew1 | refine below_set ?_ (IsS101.ge HI273.out)) | exact HB.out)))); have n1_ := Aside0.mk (IsS101.below (by repeat (first | (with_reducible first | exact HI273.out | apply IsS101.alloc | apply IsS101.drewN | apply IsS101.drew | apply IsS101.set_1 | apply IsS101.set_2) | exact HI273.out)) hb); have n2_ := Aside0.mk (below_step (by repeat (first | (with_reducible first | exact HB.out | apply below_alloc | apply pw_below_drewN | apply below_drew1 | refine below_set ?_ (IsS101.ge HI273.out)) | exact HB.out)) hb); clear HI273; clear HB; have HO276 := n0_; have HI273 := n1_; have HB := n2_; clear n0_ n1_ n2_; clear hb ho6; obtain ⟨Ao7, co7, eo7⟩ := Kd.R_slice HO276.out; subst eo7) | ((with_reducible refine gate_callee (f := 57) rfl ?_); refine goesL_ (some 6) rfl rfl Tryd.func57 (by kernel_rfl) rfl #[.pointer (some ⟨g273, 0, none⟩), .slice Ao7 y274.length co7] rfl ab5 ?_; (with_reducible refine (spec_l1PickInt.calls g273 t270 t271 t272 _ _ y274 t277 t278 t279 w _ ?side1 ?side2 ?side3 ?side4 ?side5 A3.out).mono ?_); (case side1 => repeat (first | (with_reducible first | exact HI273.out | apply IsS101.alloc | apply IsS101.drewN | apply IsS101.drew | apply IsS101.set_1 | apply IsS101.set_2) | exact HI273.out)); (case side2 => repeat (first | (with_reducible first | exact HB.out | apply below_alloc | apply pw_below_drewN | apply below_drew1 | refine below_set ?_ (IsS101.ge HI273.out)) | exact HB.out)); (case side3 => repeat (first | exact (Kd.R_reads' HO276.out).2.2 | (with_reducible refine Kd.C_alloc ?_ _) | (with_reducible refine Kd.C_drewN ?_ _) | (with_reducible refine Kd.C_drew ?_))); (case side4 => exact (Kd.R_reads' HO276.out).2.1); (case side5 => exact far_slice (IsS101.own_ne HI273.out HO276.out (by decide))); rintro e w8 ⟨rfl, hi, hb, hk⟩; refine ⟨_, rfl, ?_⟩; have n0_ := Aside0.mk (Kd.R_mono (Kd.R_keep (IsS101.apart (show IsS101 w _ g273 t270 t271 t272 from by repeat (first | (with_reducible first | exact HI273.out | apply IsS101.alloc | apply IsS101.drewN | apply IsS101.drew | apply IsS101.set_1 | apply IsS101.set_2) | exact HI273.out)) (ab8 HO276) (by decide)) hk (fun _ h => h.2)) (fun _ h => h.1)); have n1_ := Aside0.mk (hb); have n2_ := Aside0.mk (hi); clear HO276; clear HB; clear HI273; have HO276 := n0_; have HB := n1_; have HI273 := n2_; clear n0_ n1_ n2_; (try clear hb); (try clear hb2); (try clear hk); (try clear hi)))
 go_ret
 exact ⟨ab7, by repeat (first | (with_reducible first | exact HB.out | apply below_alloc | apply pw_below_drewN | apply below_drew1 | refine below_set ?_ (IsS101.ge HI273.out)) | exact HB.out)⟩

/-! ### spec_DrawNameSign: function 18 -/
def spec_DrawNameSign.f (k : Nat) (l0 : List Int) : Option (ByteArray) := (spec_l1New.f k l0).bind fun bt280 => ((spec_l1Pick.f bt280.1 bt280.2.1 bt280.2.2 (([(⟨#[97, 109, 112]⟩ : ByteArray), (⟨#[108, 116]⟩ : ByteArray), (⟨#[116, 105, 109, 101, 115]⟩ : ByteArray), (⟨#[110, 98, 115, 112]⟩ : ByteArray), (⟨#[110, 111]⟩ : ByteArray), (⟨#[]⟩ : ByteArray), (⟨#[65, 77, 80]⟩ : ByteArray), (⟨#[110, 111, 116, 105, 110]⟩ : ByteArray)] : List ByteArray))).bind fun bt287 => (some bt287.1))
theorem spec_DrawNameSign.mono : ∀ a0 k, LeO (spec_DrawNameSign.f k a0) (spec_DrawNameSign.f (k + 1) a0) := by
 intro a0 k
 unfold spec_DrawNameSign.f
 repeat' first
   | (with_reducible exact spec_l1New.mono _ _)
   | (with_reducible exact LeO.refl _)
   | (with_reducible exact LeO.none _)
   | (with_reducible refine LeO.ite ?_ ?_)
   | (with_reducible refine LeO.bind ?_ (fun _ => ?_))
set_option maxHeartbeats 8000000 in
set_option maxRecDepth 100000 in
theorem spec_DrawNameSign.calls (k : Nat) (A0 : Option Addr) (c0 : Nat) (l0 : List Int) (r : ByteArray) (w : World) (hr0 : Kd.C (Kd.int .u8) w A0 l0.length l0) (hc0 : l0.length ≤ c0) (h : spec_DrawNameSign.f k l0 = some r) :
  Calls Tryd.prog 18 #[.slice A0 l0.length c0] w fun e w' => e = .returned (.string r) ∧ Below w.heap.size w w' := by
 have HR0 := Aside0.mk hr0
 have HC0 := Aside0.mk hc0
 clear hr0 hc0
 have HB := Aside0.mk (Below.refl w.heap.size w)
 have H : ((spec_l1New.f k l0).bind fun bt280 => ((spec_l1Pick.f bt280.1 bt280.2.1 bt280.2.2 (([(⟨#[97, 109, 112]⟩ : ByteArray), (⟨#[108, 116]⟩ : ByteArray), (⟨#[116, 105, 109, 101, 115]⟩ : ByteArray), (⟨#[110, 98, 115, 112]⟩ : ByteArray), (⟨#[110, 111]⟩ : ByteArray), (⟨#[]⟩ : ByteArray), (⟨#[65, 77, 80]⟩ : ByteArray), (⟨#[110, 111, 116, 105, 110]⟩ : ByteArray)] : List ByteArray))).bind fun bt287 => (some bt287.1))) = some r := h
 clear h
 replace H := Option.bind_eq_some_iff.mp H
 obtain ⟨⟨t280, t281, t282⟩, A20, H⟩ := H
 try dsimp only at H
 have A2 := Aside0.mk A20
 clear A20
 obtain ⟨y284, hy284⟩ : ∃ y_ : List ByteArray, y_ = (([(⟨#[97, 109, 112]⟩ : ByteArray), (⟨#[108, 116]⟩ : ByteArray), (⟨#[116, 105, 109, 101, 115]⟩ : ByteArray), (⟨#[110, 98, 115, 112]⟩ : ByteArray), (⟨#[110, 111]⟩ : ByteArray), (⟨#[]⟩ : ByteArray), (⟨#[65, 77, 80]⟩ : ByteArray), (⟨#[110, 111, 116, 105, 110]⟩ : ByteArray)] : List ByteArray)) := ⟨_, rfl⟩
 replace H : ((spec_l1Pick.f t280 t281 t282 y284).bind fun bt287 => (some bt287.1)) = some r := by first | (rw [hy284]; with_reducible exact H) | (have H2_ := (Option.bind_some _ _).symm.trans H; rw [hy284]; with_reducible exact H2_) | (have H2_ := (Option.bind_some _ _).symm.trans H; with_reducible exact H2_) | with_reducible exact H | (rw [hy284]; exact H) | exact H
 have Ny284 := Aside0.mk hy284
 clear hy284
 replace H := Option.bind_eq_some_iff.mp H
 obtain ⟨⟨t287, t288, t289⟩, A30, H⟩ := H
 try dsimp only at H
 have A3 := Aside0.mk A30
 clear A30
 obtain rfl := Option.some.inj H
 go_enter Tryd.func18, Tryd.ntmps18
 go_wp2_with (first | ((with_reducible refine gate_callee (f := 53) rfl ?_); refine goesL_ (some 4) rfl rfl Tryd.func53 (by kernel_rfl) rfl #[.slice A0 l0.length c0] rfl ab5 ?_; (with_reducible refine (spec_l1New.calls k _ _ l0 t280 t281 t282 w _ ?side1 ?side2 ?side3 A2.out).mono ?_); (case side1 => repeat (first | (with_reducible first | exact HB.out | apply below_alloc | apply pw_below_drewN | apply below_drew1) | exact HB.out)); (case side2 => exact HR0.out); (case side3 => exact HC0.out); rintro e w4 ⟨g283, rfl, hi, hb, hb2⟩; refine ⟨_, rfl, ?_⟩; have n0_ := Aside0.mk (hb); have n1_ := Aside0.mk (hi); clear HB; have HB := n0_; have HI283 := n1_; clear n0_ n1_; (try clear hb); (try clear hb2); (try clear hk); (try clear hi)) | ((with_reducible refine gate_dst (N := 5) rfl ?_); refine Kd.R_lit Kd.string _ 9 ?hg (N := 5) ?hd (xs := ([(⟨#[97, 109, 112]⟩ : ByteArray), (⟨#[108, 116]⟩ : ByteArray), (⟨#[116, 105, 109, 101, 115]⟩ : ByteArray), (⟨#[110, 98, 115, 112]⟩ : ByteArray), (⟨#[110, 111]⟩ : ByteArray), (⟨#[]⟩ : ByteArray), (⟨#[65, 77, 80]⟩ : ByteArray), (⟨#[110, 111, 116, 105, 110]⟩ : ByteArray)] : List ByteArray)) (inner := [.string (⟨#[97, 109, 112]⟩ : ByteArray), .string (⟨#[108, 116]⟩ : ByteArray), .string (⟨#[116, 105, 109, 101, 115]⟩ : ByteArray), .string (⟨#[110, 98, 115, 112]⟩ : ByteArray), .string (⟨#[110, 111]⟩ : ByteArray), .string (⟨#[]⟩ : ByteArray), .string (⟨#[65, 77, 80]⟩ : ByteArray), .string (⟨#[110, 111, 116, 105, 110]⟩ : ByteArray)]) (ok := fun _ => True) (okp := fun _ => True) ?hr ?hp (fun _ hk => hk) trivial (Below.refl _ _) (Nat.le_refl _) (by simp) ?_; (case hd => rfl); (case hg => rfl); (case hr => first | (go_simp; done) | (go_simp; rfl)); (case hp => exact (Reps.one (show Kd.M Kd.string _ _ _ (⟨#[97, 109, 112]⟩ : ByteArray) [.string (⟨#[97, 109, 112]⟩ : ByteArray)] from rfl) (Reps.one (show Kd.M Kd.string _ _ _ (⟨#[108, 116]⟩ : ByteArray) [.string (⟨#[108, 116]⟩ : ByteArray)] from rfl) (Reps.one (show Kd.M Kd.string _ _ _ (⟨#[116, 105, 109, 101, 115]⟩ : ByteArray) [.string (⟨#[116, 105, 109, 101, 115]⟩ : ByteArray)] from rfl) (Reps.one (show Kd.M Kd.string _ _ _ (⟨#[110, 98, 115, 112]⟩ : ByteArray) [.string (⟨#[110, 98, 115, 112]⟩ : ByteArray)] from rfl) (Reps.one (show Kd.M Kd.string _ _ _ (⟨#[110, 111]⟩ : ByteArray) [.string (⟨#[110, 111]⟩ : ByteArray)] from rfl) (Reps.one (show Kd.M Kd.string _ _ _ (⟨#[]⟩ : ByteArray) [.string (⟨#[]⟩ : ByteArray)] from rfl) (Reps.one (show Kd.M Kd.string _ _ _ (⟨#[65, 77, 80]⟩ : ByteArray) [.string (⟨#[65, 77, 80]⟩ : ByteArray)] from rfl) (Reps.one (show Kd.M Kd.string _ _ _ (⟨#[110, 111, 116, 105, 110]⟩ : ByteArray) [.string (⟨#[110, 111, 116, 105, 110]⟩ : ByteArray)] from rfl) (Reps.none _ _)))))))))); intro v285 w5 ho6 hb hg_ hnew_; clear hg_ hnew_; (first | rw [← Ny284.out] at ho6 | (simp only [Int.reduceToNat] at ho6; rw [← Ny284.out] at ho6)); have n0_ := Aside0.mk (Kd.R_lower ho6 (below_size (by repeat (first | (with_reducible first | exact HB.out | apply below_alloc | apply pw_below_drewN | apply below_drew1 | refine below_set ?_ (IsS101.ge HI283.out)) | exact HB.out)))); have n1_ := Aside0.mk (IsS101.below (by repeat (first | (with_reducible first | exact HI283.out | apply IsS101.alloc | apply IsS101.drewN | apply IsS101.drew | apply IsS101.set_1 | apply IsS101.set_2) | exact HI283.out)) hb); have n2_ := Aside0.mk (below_step (by repeat (first | (with_reducible first | exact HB.out | apply below_alloc | apply pw_below_drewN | apply below_drew1 | refine below_set ?_ (IsS101.ge HI283.out)) | exact HB.out)) hb); clear HI283; clear HB; have HO286 := n0_; have HI283 := n1_; have HB := n2_; clear n0_ n1_ n2_; clear hb ho6; obtain ⟨Ao7, co7, eo7⟩ := Kd.R_slice HO286.out; subst eo7) | ((with_reducible refine gate_callee (f := 66) rfl ?_); refine goesL_ (some 6) rfl rfl Tryd.func66 (by kernel_rfl) rfl #[.pointer (some ⟨g283, 0, none⟩), .slice Ao7 y284.length co7] rfl ab5 ?_; (with_reducible refine (spec_l1Pick.calls g283 t280 t281 t282 _ _ y284 t287 t288 t289 w _ ?side1 ?side2 ?side3 ?side4 ?side5 A3.out).mono ?_); (case side1 => repeat (first | (with_reducible first | exact HI283.out | apply IsS101.alloc | apply IsS101.drewN | apply IsS101.drew | apply IsS101.set_1 | apply IsS101.set_2) | exact HI283.out)); (case side2 => repeat (first | (with_reducible first | exact HB.out | apply below_alloc | apply pw_below_drewN | apply below_drew1 | refine below_set ?_ (IsS101.ge HI283.out)) | exact HB.out)); (case side3 => repeat (first | exact (Kd.R_reads' HO286.out).2.2 | (with_reducible refine Kd.C_alloc ?_ _) | (with_reducible refine Kd.C_drewN ?_ _) | (with_reducible refine Kd.C_drew ?_))); (case side4 => exact (Kd.R_reads' HO286.out).2.1); (case side5 => exact far_slice (IsS101.own_ne HI283.out HO286.out (by decide))); rintro e w8 ⟨rfl, hi, hb, hk⟩; refine ⟨_, rfl, ?_⟩; have n0_ := Aside0.mk (Kd.R_mono (Kd.R_keep (IsS101.apart (show IsS101 w _ g283 t280 t281 t282 from by repeat (first | (with_reducible first | exact HI283.out | apply IsS101.alloc | apply IsS101.drewN | apply IsS101.drew | apply IsS101.set_1 | apply IsS101.set_2) | exact HI283.out)) (ab8 HO286) (by decide)) hk (fun _ h => h.2)) (fun _ h => h.1)); have n1_ := Aside0.mk (hb); have n2_ := Aside0.mk (hi); clear HO286; clear HB; clear HI283; have HO286 := n0_; have HB := n1_; have HI283 := n2_; clear n0_ n1_ n2_; (try clear hb); (try clear hb2); (try clear hk); (try clear hi)))
 go_ret
 exact ⟨ab7, by repeat (first | (with_reducible first | exact HB.out | apply below_alloc | apply pw_below_drewN | apply below_drew1 | refine below_set ?_ (IsS101.ge HI283.out)) | exact HB.out)⟩

end Go.Proofs.YtgljgbkbjlondaaDoor.P
