-- WRITTEN BY this session's own programs
import Derived.Test.YtekkalnafngfeaaPi24
import Derived.Test.YtekkalnafngfeaaPi4
namespace Go.Proofs.Ytekkalnafngfeaa.P
open Go.RowKit Go.Proofs.YtekkalnafngfeaaW.PrintWords Go.Proofs.YtekkalnafngfeaaW.PrintLast Go.Proofs.YtekkalnafngfeaaW.PrintMore
set_option linter.unusedVariables false
set_option linter.unusedSimpArgs false
set_option maxHeartbeats 8000000
set_option maxRecDepth 100000
attribute [local go_sem] max2_int min2_int max_two min_two max_three min_three max_four min_four
mutual
def spec_PageOk.j0 : Nat → Bool → List (S38) → List Int → List Int → Int → Int → Option (Bool)
 | 0, _, _, _, _, _, _ => none
 | k + 1, x46, x166000, x166001, x166002, x166003, x166004 => if x46 = true then (some false) else (spec_PageOk.l0 k 0 x166000 x166001 x166002 x166003 x166004)
def spec_PageOk.l0 : Nat → Int → List (S38) → List Int → List Int → Int → Int → Option (Bool)
 | 0, _, _, _, _, _, _ => none
 | k + 1, x3, x166000, x166001, x166002, x166003, x166004 => if x3 < (x166001.length : Int) then (if 0 ≤ x3 then ((spec_l8Tag.f x166000 (rd x166001 x3) (⟨#[]⟩ : ByteArray)).bind fun t171 => (if t171 = true then ((spec_l6Count.f k x166001 (rd x166001 x3)).bind fun t173 => (if t173 = 1 then (spec_PageOk.l0 k (wrap64 (x3 + 1)) x166000 x166001 x166002 x166003 x166004) else (some false))) else (some false))) else (none)) else (spec_PageOk.l1 k 0 x166000 x166001 x166002 x166003 x166004)
def spec_PageOk.l1 : Nat → Int → List (S38) → List Int → List Int → Int → Int → Option (Bool)
 | 0, _, _, _, _, _, _ => none
 | k + 1, x4, x166000, x166001, x166002, x166003, x166004 => if x4 < (x166002.length : Int) then (if 0 ≤ x4 then (if (rd x166002 x4) = (-1) then (spec_PageOk.l1 k (wrap64 (x4 + 1)) x166000 x166001 x166002 x166003 x166004) else ((spec_l8Tag.f x166000 (rd x166002 x4) (⟨#[]⟩ : ByteArray)).bind fun t176 => (if t176 = true then (if 0 ≤ (rd x166002 x4) then (if (rd x166002 x4) < (x166000.length : Int) then ((spec_Format.f k ((rd_T38 x166000 (rd x166002 x4)).f2)).bind fun t179 => (if t179 = true then (spec_PageOk.l1 k (wrap64 (x4 + 1)) x166000 x166001 x166002 x166003 x166004) else (some false))) else (none)) else (none)) else (some false)))) else (none)) else (some true)
end
def spec_PageOk.f (k : Nat) (l0_0 : List (S38)) (l0_1 : List Int) (l0_2 : List Int) (a0_3 : Int) (a0_4 : Int) : Option (Bool) := (spec_TreeOk.f k l0_0).bind fun t166 => (if t166 = true then (if (l0_1.length : Int) > 40 then (spec_PageOk.j0 k true l0_0 l0_1 l0_2 a0_3 a0_4) else (if (l0_2.length : Int) > 120 then (spec_PageOk.j0 k true l0_0 l0_1 l0_2 a0_3 a0_4) else (if a0_3 = 0 then (if a0_4 = 0 then (spec_PageOk.j0 k false l0_0 l0_1 l0_2 a0_3 a0_4) else ((spec_l8Tag.f l0_0 a0_4 (⟨#[98, 111, 100, 121]⟩ : ByteArray)).bind fun t167 => (spec_PageOk.j0 k (!t167) l0_0 l0_1 l0_2 a0_3 a0_4))) else ((spec_l8Tag.f l0_0 a0_3 (⟨#[104, 101, 97, 100]⟩ : ByteArray)).bind fun t168 => (if t168 = true then (if a0_4 = 0 then (spec_PageOk.j0 k false l0_0 l0_1 l0_2 a0_3 a0_4) else ((spec_l8Tag.f l0_0 a0_4 (⟨#[98, 111, 100, 121]⟩ : ByteArray)).bind fun t169 => (spec_PageOk.j0 k (!t169) l0_0 l0_1 l0_2 a0_3 a0_4))) else (spec_PageOk.j0 k true l0_0 l0_1 l0_2 a0_3 a0_4)))))) else (spec_PageOk.j0 k true l0_0 l0_1 l0_2 a0_3 a0_4))
def spec_PageOk.T6 : Bool × List (List Nat × List Nat) := (true, [([], []), ([0], [0]), ([], []), ([2], [2]), ([], []), ([3, 4], [3, 4]), ([5], [5]), ([1, 6], [1, 6]), ([7], [7]), ([8, 7], [8]), ([9], [9]), ([10, 9], [9, 10]), ([9], [9]), ([12, 9], [9, 12]), ([9], [9]), ([13, 14, 9], [9, 13, 14]), ([15, 9], [9, 15]), ([11, 16, 9, 9], [9, 11, 16]), ([17, 9], [9, 17]), ([9, 18], [9, 18])])
def spec_PageOk.B6 : List Nat := [0, 1, 0, 4, 0, 28, 60, 127, 255, 511, 1023, 2047, 1023, 5119, 1023, 29695, 62463, 131071, 262143, 524287]
theorem spec_PageOk.tab6 : rtab .any (opsOf Try.f18 6) = spec_PageOk.T6 := by kernel_rfl
theorem spec_PageOk.bits6 : waitsOk spec_PageOk.T6.2 spec_PageOk.B6 = true := by kernel_rfl
def spec_PageOk.T11 : Bool × List (List Nat × List Nat) := (true, [([], []), ([0], [0]), ([], []), ([1, 2], [1, 2]), ([3], [3]), ([4], [4]), ([5], [5]), ([6], [6]), ([7, 6], [6, 7]), ([6], [6]), ([9, 6], [6, 9]), ([6], [6]), ([10, 11, 6], [6, 10, 11]), ([12, 6], [6, 12]), ([8, 13, 6, 6], [6, 8, 13]), ([14, 6], [6, 14]), ([15, 14, 6], [6, 15]), ([16], [16]), ([17, 16], [16, 17]), ([16], [16]), ([19, 16], [16, 19]), ([16], [16]), ([20, 21, 16], [16, 20, 21]), ([22, 16], [16, 22]), ([18, 23, 16], [16, 18, 23]), ([24, 16], [16, 24]), ([25, 16], [16, 25]), ([26, 16, 16], [16, 26]), ([27, 16], [16, 27]), ([16, 28, 6], [6, 16, 28]), ([6, 29], [6, 29])])
def spec_PageOk.B11 : List Nat := [0, 1, 0, 7, 15, 31, 63, 127, 255, 127, 639, 127, 3711, 7807, 16383, 32767, 65535, 131071, 262143, 131071, 655359, 131071, 3801087, 7995391, 16777215, 33554431, 67108863, 134217727, 268435455, 536870911, 1073741823]
theorem spec_PageOk.tab11 : rtab .any (opsOf Try.f18 11) = spec_PageOk.T11 := by kernel_rfl
theorem spec_PageOk.bits11 : waitsOk spec_PageOk.T11.2 spec_PageOk.B11 = true := by kernel_rfl
theorem spec_PageOk.calls (k : Nat) (A0_0 : Option Addr) (c0_0 : Nat) (l0_0 : List (S38)) (A0_1 : Option Addr) (c0_1 : Nat) (l0_1 : List Int) (A0_2 : Option Addr) (c0_2 : Nat) (l0_2 : List Int) (a0_3 : Int) (a0_4 : Int) (r : Bool) (w : World) (hr0_0 : Kd.C k38 w A0_0 l0_0.length l0_0) (hc0_0 : l0_0.length ≤ c0_0) (hr0_1 : Kd.C (Kd.int .i64) w A0_1 l0_1.length l0_1) (hc0_1 : l0_1.length ≤ c0_1) (hr0_2 : Kd.C (Kd.int .i64) w A0_2 l0_2.length l0_2) (hc0_2 : l0_2.length ≤ c0_2) (h : spec_PageOk.f k l0_0 l0_1 l0_2 a0_3 a0_4 = some r) :
  Calls Try.prog 18 #[.agg #[.slice A0_0 l0_0.length c0_0, .slice A0_1 l0_1.length c0_1, .slice A0_2 l0_2.length c0_2, .int .i64 a0_3, .int .i64 a0_4]] w fun e w' => e = .returned (.bool r) ∧ Below w.heap.size w w' := by
 have hu33 := Try.underlying33
 have HR0_0 := am hr0_0
 have HC0_0 := am hc0_0
 clear hr0_0 hc0_0
 have HR0_1 := am hr0_1
 have HC0_1 := am hc0_1
 clear hr0_1 hc0_1
 have HR0_2 := am hr0_2
 have HC0_2 := am hc0_2
 clear hr0_2 hc0_2
 have HB := am (Below.refl w.heap.size w)
 have H : ((spec_TreeOk.f k l0_0).bind fun t166 => (if t166 = true then (if (l0_1.length : Int) > 40 then (spec_PageOk.j0 k true l0_0 l0_1 l0_2 a0_3 a0_4) else (if (l0_2.length : Int) > 120 then (spec_PageOk.j0 k true l0_0 l0_1 l0_2 a0_3 a0_4) else (if a0_3 = 0 then (if a0_4 = 0 then (spec_PageOk.j0 k false l0_0 l0_1 l0_2 a0_3 a0_4) else ((spec_l8Tag.f l0_0 a0_4 (⟨#[98, 111, 100, 121]⟩ : ByteArray)).bind fun t167 => (spec_PageOk.j0 k (!t167) l0_0 l0_1 l0_2 a0_3 a0_4))) else ((spec_l8Tag.f l0_0 a0_3 (⟨#[104, 101, 97, 100]⟩ : ByteArray)).bind fun t168 => (if t168 = true then (if a0_4 = 0 then (spec_PageOk.j0 k false l0_0 l0_1 l0_2 a0_3 a0_4) else ((spec_l8Tag.f l0_0 a0_4 (⟨#[98, 111, 100, 121]⟩ : ByteArray)).bind fun t169 => (spec_PageOk.j0 k (!t169) l0_0 l0_1 l0_2 a0_3 a0_4))) else (spec_PageOk.j0 k true l0_0 l0_1 l0_2 a0_3 a0_4)))))) else (spec_PageOk.j0 k true l0_0 l0_1 l0_2 a0_3 a0_4))) = some r := h
 clear h
 have HC2 := am H
 clear H
 go_enter Try.func18, Try.ntmps18
 go_upto_region 1 with (first | ((with_reducible refine gd_ 1 ?_); (try (refine gate_guard (by rfl) ?_; dsimp only)); refine bx_ 1 (cs := #[.slice A0_0 l0_0.length c0_0, .slice A0_1 l0_1.length c0_1, .slice A0_2 l0_2.length c0_2, .int .i64 a0_3, .int .i64 a0_4]) 33 ?_; intro gb165 hg w3 hbox hb; have BK165 := am hbox; have GW165 := ge_ (w := w) hg; have GE165 := ge_ (w := w) hg; replace HB := am (below_step ab1 hb); clear hb hbox hg))
 (try simp only [Act.put, List.setIfInBounds_toArray, List.set_cons_zero, List.set_cons_succ])
 go_cut [46] (fun v46 wc => ∃ (kq : Nat) (x46_1 : Bool), v46 = .bool x46_1 ∧ Aside0 (spec_PageOk.j0 kq x46_1 l0_0 l0_1 l0_2 a0_3 a0_4 = some r) ∧ Aside0 (kq ≤ k) ∧ Aside0 (wc.heap[gb165]? = some (.cells #[(.slice A0_0 l0_0.length c0_0), (.slice A0_1 l0_1.length c0_1), (.slice A0_2 l0_2.length c0_2), .int .i64 a0_3, .int .i64 a0_4] 33 (0, 0))) ∧ Aside0 (Below w.heap.size w wc))
 case first =>
  have H := HC2.out
  clear HC2
  replace H := bi_ H; obtain ⟨t166, A4, H⟩ := H
  replace H := ib_ H; rcases H with ⟨rfl, H⟩ | ⟨rfl, H⟩
  ·by_cases c6 : (l0_1.length : Int) > 40
   ·rw [if_pos c6] at H
    have c6b0 : decide (40 < (l0_1.length : Int)) = true := decide_eq_true c6
    have c6b1 : decide (40 < l0_1.length) = true := decide_eq_true (by omega)
    clear c6
    (first | rw [c6b0] | (simp only [i64_w, i32_w]; rw [c6b0]) | skip)
    (try (generalize hgzc6 : decide (40 < (l0_1.length : Int)) = bqc6 at *; subst c6b0; have c6b0 := hgzc6; clear hgzc6))
    have H' := am H
    clear H
    obtain ⟨⟨_, _, _, _, _⟩, _, _, _, _, _⟩ := Op.cells5 BK165.out
    go_wp2_with (first | ((with_reducible refine gf_ 37 ?_); refine gc_ Try.func37 (spec_TreeOk.calls k _ _ l0_0 true _ (sc_ HR0_0) HC0_0.out A4.out) ?_; rintro w8 hb; replace BK165 := bl_ BK165 hb; replace HB := am (below_step (ab2 GE165) hb); (try clear hb); (try clear hb2); (try clear hk); (try clear hi); obtain ⟨⟨_, _, _, _, _⟩, _, _, _, _, _⟩ := Op.cells5 BK165.out))
    go_meet
    case rel => exact ⟨_, (true), ab6, (by first | exact H' | (have h_ := H'.out; rw [c6b0] at h_; exact ⟨h_⟩)), ⟨by first | omega | exact Nat.le_refl _⟩, ⟨ab3 BK165⟩, ⟨ab2 GE165⟩⟩
   ·rw [if_neg c6] at H
    have c6b0 : decide (40 < (l0_1.length : Int)) = false := decide_eq_false c6
    have c6b1 : decide (40 < l0_1.length) = false := decide_eq_false (by omega)
    clear c6
    (first | rw [c6b0] | (simp only [i64_w, i32_w]; rw [c6b0]) | skip)
    (try (generalize hgzc6 : decide (40 < (l0_1.length : Int)) = bqc6 at *; subst c6b0; have c6b0 := hgzc6; clear hgzc6))
    by_cases c10 : (l0_2.length : Int) > 120
    ·rw [if_pos c10] at H
     have c10b0 : decide (120 < (l0_2.length : Int)) = true := decide_eq_true c10
     have c10b1 : decide (120 < l0_2.length) = true := decide_eq_true (by omega)
     clear c10
     have H' := am H
     clear H
     obtain ⟨⟨_, _, _, _, _⟩, _, _, _, _, _⟩ := Op.cells5 BK165.out
     go_wp2_with (first | ((with_reducible refine gf_ 37 ?_); refine gc_ Try.func37 (spec_TreeOk.calls k _ _ l0_0 true _ (sc_ HR0_0) HC0_0.out A4.out) ?_; rintro w12 hb; replace BK165 := bl_ BK165 hb; replace HB := am (below_step (ab2 GE165) hb); (try clear hb); (try clear hb2); (try clear hk); (try clear hi); obtain ⟨⟨_, _, _, _, _⟩, _, _, _, _, _⟩ := Op.cells5 BK165.out))
     go_meet
     case rel => exact ⟨_, (true), ab6, (by first | exact H' | (have h_ := H'.out; rw [c6b0] at h_; exact ⟨h_⟩)), ⟨by first | omega | exact Nat.le_refl _⟩, ⟨ab3 BK165⟩, ⟨ab2 GE165⟩⟩
    ·rw [if_neg c10] at H
     have c10b0 : decide (120 < (l0_2.length : Int)) = false := decide_eq_false c10
     have c10b1 : decide (120 < l0_2.length) = false := decide_eq_false (by omega)
     clear c10
     replace H := ie_ H; rcases H with ⟨c14b0, c14b1, H⟩ | ⟨c14, c14b0, c14b1, H⟩
     ·replace H := ie_ H; rcases H with ⟨c15b0, c15b1, H⟩ | ⟨c15, c15b0, c15b1, H⟩
      ·have H' := am H
       clear H
       obtain ⟨⟨_, _, _, _, _⟩, _, _, _, _, _⟩ := Op.cells5 BK165.out
       go_wp2_with (first | ((with_reducible refine gf_ 37 ?_); refine gc_ Try.func37 (spec_TreeOk.calls k _ _ l0_0 true _ (sc_ HR0_0) HC0_0.out A4.out) ?_; rintro w17 hb; replace BK165 := bl_ BK165 hb; replace HB := am (below_step (ab2 GE165) hb); (try clear hb); (try clear hb2); (try clear hk); (try clear hi); obtain ⟨⟨_, _, _, _, _⟩, _, _, _, _, _⟩ := Op.cells5 BK165.out))
       go_meet
       case rel => exact ⟨_, (false), ab6, (by first | exact H' | (have h_ := H'.out; rw [c6b0] at h_; exact ⟨h_⟩)), ⟨by first | omega | exact Nat.le_refl _⟩, ⟨ab3 BK165⟩, ⟨ab2 GE165⟩⟩
      ·replace H := bi_ H; obtain ⟨t167, A19, H⟩ := H
       replace H : (spec_PageOk.j0 k (!t167) l0_0 l0_1 l0_2 a0_3 a0_4) = some r := by first | exact H | (rw [c6b0]; exact H)
       have H' := am H
       clear H
       obtain ⟨⟨_, _, _, _, _⟩, _, _, _, _, _⟩ := Op.cells5 BK165.out
       go_wp2_with (first | ((with_reducible refine gf_ 37 ?_); refine gc_ Try.func37 (spec_TreeOk.calls k _ _ l0_0 true _ (sc_ HR0_0) HC0_0.out A4.out) ?_; rintro w21 hb; replace BK165 := bl_ BK165 hb; replace HB := am (below_step (ab2 GE165) hb); (try clear hb); (try clear hb2); (try clear hk); (try clear hi); obtain ⟨⟨_, _, _, _, _⟩, _, _, _, _, _⟩ := Op.cells5 BK165.out) | (go_at_call 38; (with_reducible refine (spec_l8Tag.calls _ _ l0_0 a0_4 (⟨#[98, 111, 100, 121]⟩ : ByteArray) t167 _ (sc_ HR0_0) HC0_0.out A19.out).mono ?_); rintro e w' ⟨rfl, ⟨nd, rfl⟩⟩))
       go_meet
       case rel => exact ⟨_, (!t167), ab6, (by first | exact H' | (have h_ := H'.out; rw [c6b0] at h_; exact ⟨h_⟩)), ⟨by first | omega | exact Nat.le_refl _⟩, ⟨ab3 BK165⟩, ⟨ab2 GE165⟩⟩
     ·replace H := bi_ H; obtain ⟨t168, A23, H⟩ := H
      replace H : (if t168 = true then (if a0_4 = 0 then (spec_PageOk.j0 k false l0_0 l0_1 l0_2 a0_3 a0_4) else ((spec_l8Tag.f l0_0 a0_4 (⟨#[98, 111, 100, 121]⟩ : ByteArray)).bind fun t169 => (spec_PageOk.j0 k (!t169) l0_0 l0_1 l0_2 a0_3 a0_4))) else (spec_PageOk.j0 k true l0_0 l0_1 l0_2 a0_3 a0_4)) = some r := by first | exact H | (rw [c6b0]; exact H)
      replace H := ib_ H; rcases H with ⟨rfl, H⟩ | ⟨rfl, H⟩
      ·replace H := ie_ H; rcases H with ⟨c25b0, c25b1, H⟩ | ⟨c25, c25b0, c25b1, H⟩
       ·have H' := am H
        clear H
        obtain ⟨⟨_, _, _, _, _⟩, _, _, _, _, _⟩ := Op.cells5 BK165.out
        go_wp2_with (first | ((with_reducible refine gf_ 37 ?_); refine gc_ Try.func37 (spec_TreeOk.calls k _ _ l0_0 true _ (sc_ HR0_0) HC0_0.out A4.out) ?_; rintro w27 hb; replace BK165 := bl_ BK165 hb; replace HB := am (below_step (ab2 GE165) hb); (try clear hb); (try clear hb2); (try clear hk); (try clear hi); obtain ⟨⟨_, _, _, _, _⟩, _, _, _, _, _⟩ := Op.cells5 BK165.out) | (go_at_call 38; (with_reducible refine (spec_l8Tag.calls _ _ l0_0 a0_3 (⟨#[104, 101, 97, 100]⟩ : ByteArray) true _ (sc_ HR0_0) HC0_0.out A23.out).mono ?_); rintro e w' ⟨rfl, ⟨nd, rfl⟩⟩))
        go_meet
        case rel => exact ⟨_, (false), ab6, (by first | exact H' | (have h_ := H'.out; rw [c6b0] at h_; exact ⟨h_⟩)), ⟨by first | omega | exact Nat.le_refl _⟩, ⟨ab3 BK165⟩, ⟨ab2 GE165⟩⟩
       ·replace H := bi_ H; obtain ⟨t169, A29, H⟩ := H
        replace H : (spec_PageOk.j0 k (!t169) l0_0 l0_1 l0_2 a0_3 a0_4) = some r := by first | exact H | (rw [c6b0]; exact H)
        have H' := am H
        clear H
        obtain ⟨⟨_, _, _, _, _⟩, _, _, _, _, _⟩ := Op.cells5 BK165.out
        go_wp2_with (first | ((with_reducible refine gf_ 37 ?_); refine gc_ Try.func37 (spec_TreeOk.calls k _ _ l0_0 true _ (sc_ HR0_0) HC0_0.out A4.out) ?_; rintro w31 hb; replace BK165 := bl_ BK165 hb; replace HB := am (below_step (ab2 GE165) hb); (try clear hb); (try clear hb2); (try clear hk); (try clear hi); obtain ⟨⟨_, _, _, _, _⟩, _, _, _, _, _⟩ := Op.cells5 BK165.out) | (go_at_call 38; (with_reducible refine (spec_l8Tag.calls _ _ l0_0 a0_3 (⟨#[104, 101, 97, 100]⟩ : ByteArray) true _ (sc_ HR0_0) HC0_0.out A23.out).mono ?_); rintro e w' ⟨rfl, ⟨nd, rfl⟩⟩) | (go_at_call 38; (with_reducible refine (spec_l8Tag.calls _ _ l0_0 a0_4 (⟨#[98, 111, 100, 121]⟩ : ByteArray) t169 _ ?side1 HC0_0.out A29.out).mono ?_); (case side1 => exact (by repeat (first | exact (Kd.C_below HR0_0.out (ab2 GE165)) | (with_reducible refine Kd.C_alloc ?_ _) | (with_reducible refine Kd.C_drewN ?_ _) | (with_reducible refine Kd.C_drew ?_)))); rintro e w' ⟨rfl, ⟨nd, rfl⟩⟩))
        go_meet
        case rel => exact ⟨_, (!t169), ab6, (by first | exact H' | (have h_ := H'.out; rw [c6b0] at h_; exact ⟨h_⟩)), ⟨by first | omega | exact Nat.le_refl _⟩, ⟨ab3 BK165⟩, ⟨ab2 GE165⟩⟩
      ·have H' := am H
       clear H
       obtain ⟨⟨_, _, _, _, _⟩, _, _, _, _, _⟩ := Op.cells5 BK165.out
       go_wp2_with (first | ((with_reducible refine gf_ 37 ?_); refine gc_ Try.func37 (spec_TreeOk.calls k _ _ l0_0 true _ (sc_ HR0_0) HC0_0.out A4.out) ?_; rintro w34 hb; replace BK165 := bl_ BK165 hb; replace HB := am (below_step (ab2 GE165) hb); (try clear hb); (try clear hb2); (try clear hk); (try clear hi); obtain ⟨⟨_, _, _, _, _⟩, _, _, _, _, _⟩ := Op.cells5 BK165.out) | (go_at_call 38; (with_reducible refine (spec_l8Tag.calls _ _ l0_0 a0_3 (⟨#[104, 101, 97, 100]⟩ : ByteArray) false _ (sc_ HR0_0) HC0_0.out A23.out).mono ?_); rintro e w' ⟨rfl, ⟨nd, rfl⟩⟩))
       go_meet
       case rel => exact ⟨_, (true), ab6, (by first | exact H' | (have h_ := H'.out; rw [c6b0] at h_; exact ⟨h_⟩)), ⟨by first | omega | exact Nat.le_refl _⟩, ⟨ab3 BK165⟩, ⟨ab2 GE165⟩⟩
  ·have H' := am H
   clear H
   obtain ⟨⟨_, _, _, _, _⟩, _, _, _, _, _⟩ := Op.cells5 BK165.out
   go_wp2_with (first | ((with_reducible refine gf_ 37 ?_); refine gc_ Try.func37 (spec_TreeOk.calls k _ _ l0_0 false _ (sc_ HR0_0) HC0_0.out A4.out) ?_; rintro w37 hb; replace BK165 := bl_ BK165 hb; replace HB := am (below_step (ab2 GE165) hb); (try clear hb); (try clear hb2); (try clear hk); (try clear hi)))
   go_meet
   case rel => exact ⟨_, (true), ab6, H', ⟨by first | omega | exact Nat.le_refl _⟩, ⟨ab3 BK165⟩, ⟨ab2 GE165⟩⟩
 case rest =>
  clear HC2
  (try clear c1); (try clear c2); (try clear p2); (try clear c3); (try clear c5); (try clear c6); (try clear c6b0); (try clear c6b1); (try clear c10); (try clear c10b0); (try clear c10b1); (try clear c14); (try clear c14b0); (try clear c14b1); (try clear c15); (try clear c15b0); (try clear c15b1); (try clear c18); (try clear c24); (try clear c25); (try clear c25b0); (try clear c25b1); (try clear c37); (try clear hcz11_0); (try clear hcz11_1); (try clear hcz11_2); (try clear hcz11_3); (try clear hcz11_4); (try clear hcz13_0); (try clear hcz13_1); (try clear hcz13_2); (try clear hcz13_3); (try clear hcz13_4); (try clear hcz16_0); (try clear hcz16_1); (try clear hcz16_2); (try clear hcz16_3); (try clear hcz16_4); (try clear hcz18_0); (try clear hcz18_1); (try clear hcz18_2); (try clear hcz18_3); (try clear hcz18_4); (try clear hcz20_0); (try clear hcz20_1); (try clear hcz20_2); (try clear hcz20_3); (try clear hcz20_4); (try clear hcz22_0); (try clear hcz22_1); (try clear hcz22_2); (try clear hcz22_3); (try clear hcz22_4); (try clear hcz26_0); (try clear hcz26_1); (try clear hcz26_2); (try clear hcz26_3); (try clear hcz26_4); (try clear hcz28_0); (try clear hcz28_1); (try clear hcz28_2); (try clear hcz28_3); (try clear hcz28_4); (try clear hcz30_0); (try clear hcz30_1); (try clear hcz30_2); (try clear hcz30_3); (try clear hcz30_4); (try clear hcz32_0); (try clear hcz32_1); (try clear hcz32_2); (try clear hcz32_3); (try clear hcz32_4); (try clear hcz33_0); (try clear hcz33_1); (try clear hcz33_2); (try clear hcz33_3); (try clear hcz33_4); (try clear hcz35_0); (try clear hcz35_1); (try clear hcz35_2); (try clear hcz35_3); (try clear hcz35_4); (try clear hcz36_0); (try clear hcz36_1); (try clear hcz36_2); (try clear hcz36_3); (try clear hcz36_4); (try clear hcz7_0); (try clear hcz7_1); (try clear hcz7_2); (try clear hcz7_3); (try clear hcz7_4); (try clear hcz9_0); (try clear hcz9_1); (try clear hcz9_2); (try clear hcz9_3); (try clear hcz9_4); (try clear hfz11_0); (try clear hfz11_1); (try clear hfz11_2); (try clear hfz11_3); (try clear hfz11_4); (try clear hfz13_0); (try clear hfz13_1); (try clear hfz13_2); (try clear hfz13_3); (try clear hfz13_4); (try clear hfz16_0); (try clear hfz16_1); (try clear hfz16_2); (try clear hfz16_3); (try clear hfz16_4); (try clear hfz18_0); (try clear hfz18_1); (try clear hfz18_2); (try clear hfz18_3); (try clear hfz18_4); (try clear hfz20_0); (try clear hfz20_1); (try clear hfz20_2); (try clear hfz20_3); (try clear hfz20_4); (try clear hfz22_0); (try clear hfz22_1); (try clear hfz22_2); (try clear hfz22_3); (try clear hfz22_4); (try clear hfz26_0); (try clear hfz26_1); (try clear hfz26_2); (try clear hfz26_3); (try clear hfz26_4); (try clear hfz28_0); (try clear hfz28_1); (try clear hfz28_2); (try clear hfz28_3); (try clear hfz28_4); (try clear hfz30_0); (try clear hfz30_1); (try clear hfz30_2); (try clear hfz30_3); (try clear hfz30_4); (try clear hfz32_0); (try clear hfz32_1); (try clear hfz32_2); (try clear hfz32_3); (try clear hfz32_4); (try clear hfz33_0); (try clear hfz33_1); (try clear hfz33_2); (try clear hfz33_3); (try clear hfz33_4); (try clear hfz35_0); (try clear hfz35_1); (try clear hfz35_2); (try clear hfz35_3); (try clear hfz35_4); (try clear hfz36_0); (try clear hfz36_1); (try clear hfz36_2); (try clear hfz36_3); (try clear hfz36_4); (try clear hfz7_0); (try clear hfz7_1); (try clear hfz7_2); (try clear hfz7_3); (try clear hfz7_4); (try clear hfz9_0); (try clear hfz9_1); (try clear hfz9_2); (try clear hfz9_3); (try clear hfz9_4)
  obtain ⟨kq, x46_1, rfl, HA, HJ1, BK165, HB⟩ := hcut
  cases kq with
  | zero => exact absurd HA.out (by simp [spec_PageOk.j0])
  | succ kj1 =>
   have H := HA.out
   clear HA
   simp only [spec_PageOk.j0] at H
   replace H := ib_ H; rcases H with ⟨rfl, H⟩ | ⟨rfl, H⟩
   ·obtain rfl := Option.some.inj H
    go_wp2
    go_ret
    exact ⟨ab7, ab2 GE165⟩
   ·have H' := am H
    clear H
    go_wp2
    go_loopg [3] kj1 (fun kq v3 w' => ∃ (x3_2 : Int), v3 = .int .i64 x3_2 ∧ Aside0 (spec_PageOk.l0 kq x3_2 l0_0 l0_1 l0_2 a0_3 a0_4 = some r) ∧ Aside0 (kq ≤ kj1) ∧ Aside0 (w'.heap[gb165]? = some (.cells #[(.slice A0_0 l0_0.length c0_0), (.slice A0_1 l0_1.length c0_1), (.slice A0_2 l0_2.length c0_2), .int .i64 a0_3, .int .i64 a0_4] 33 (0, 0))) ∧ Aside0 (Below w.heap.size w w'))
    case atStart => exact ⟨(0), ab6, H', ⟨Nat.le_refl _⟩, ⟨ab3 BK165⟩, ⟨ab2 GE165⟩⟩
    case round =>
     clear H'
     (try clear c1); (try clear c2); (try clear p2); (try clear c3); (try clear c5); (try clear c6); (try clear c6b0); (try clear c6b1); (try clear c10); (try clear c10b0); (try clear c10b1); (try clear c14); (try clear c14b0); (try clear c14b1); (try clear c15); (try clear c15b0); (try clear c15b1); (try clear c18); (try clear c24); (try clear c25); (try clear c25b0); (try clear c25b1); (try clear c37); (try clear c38); (try clear hcz11_0); (try clear hcz11_1); (try clear hcz11_2); (try clear hcz11_3); (try clear hcz11_4); (try clear hcz13_0); (try clear hcz13_1); (try clear hcz13_2); (try clear hcz13_3); (try clear hcz13_4); (try clear hcz16_0); (try clear hcz16_1); (try clear hcz16_2); (try clear hcz16_3); (try clear hcz16_4); (try clear hcz18_0); (try clear hcz18_1); (try clear hcz18_2); (try clear hcz18_3); (try clear hcz18_4); (try clear hcz20_0); (try clear hcz20_1); (try clear hcz20_2); (try clear hcz20_3); (try clear hcz20_4); (try clear hcz22_0); (try clear hcz22_1); (try clear hcz22_2); (try clear hcz22_3); (try clear hcz22_4); (try clear hcz26_0); (try clear hcz26_1); (try clear hcz26_2); (try clear hcz26_3); (try clear hcz26_4); (try clear hcz28_0); (try clear hcz28_1); (try clear hcz28_2); (try clear hcz28_3); (try clear hcz28_4); (try clear hcz30_0); (try clear hcz30_1); (try clear hcz30_2); (try clear hcz30_3); (try clear hcz30_4); (try clear hcz32_0); (try clear hcz32_1); (try clear hcz32_2); (try clear hcz32_3); (try clear hcz32_4); (try clear hcz33_0); (try clear hcz33_1); (try clear hcz33_2); (try clear hcz33_3); (try clear hcz33_4); (try clear hcz35_0); (try clear hcz35_1); (try clear hcz35_2); (try clear hcz35_3); (try clear hcz35_4); (try clear hcz36_0); (try clear hcz36_1); (try clear hcz36_2); (try clear hcz36_3); (try clear hcz36_4); (try clear hcz7_0); (try clear hcz7_1); (try clear hcz7_2); (try clear hcz7_3); (try clear hcz7_4); (try clear hcz9_0); (try clear hcz9_1); (try clear hcz9_2); (try clear hcz9_3); (try clear hcz9_4); (try clear hfz11_0); (try clear hfz11_1); (try clear hfz11_2); (try clear hfz11_3); (try clear hfz11_4); (try clear hfz13_0); (try clear hfz13_1); (try clear hfz13_2); (try clear hfz13_3); (try clear hfz13_4); (try clear hfz16_0); (try clear hfz16_1); (try clear hfz16_2); (try clear hfz16_3); (try clear hfz16_4); (try clear hfz18_0); (try clear hfz18_1); (try clear hfz18_2); (try clear hfz18_3); (try clear hfz18_4); (try clear hfz20_0); (try clear hfz20_1); (try clear hfz20_2); (try clear hfz20_3); (try clear hfz20_4); (try clear hfz22_0); (try clear hfz22_1); (try clear hfz22_2); (try clear hfz22_3); (try clear hfz22_4); (try clear hfz26_0); (try clear hfz26_1); (try clear hfz26_2); (try clear hfz26_3); (try clear hfz26_4); (try clear hfz28_0); (try clear hfz28_1); (try clear hfz28_2); (try clear hfz28_3); (try clear hfz28_4); (try clear hfz30_0); (try clear hfz30_1); (try clear hfz30_2); (try clear hfz30_3); (try clear hfz30_4); (try clear hfz32_0); (try clear hfz32_1); (try clear hfz32_2); (try clear hfz32_3); (try clear hfz32_4); (try clear hfz33_0); (try clear hfz33_1); (try clear hfz33_2); (try clear hfz33_3); (try clear hfz33_4); (try clear hfz35_0); (try clear hfz35_1); (try clear hfz35_2); (try clear hfz35_3); (try clear hfz35_4); (try clear hfz36_0); (try clear hfz36_1); (try clear hfz36_2); (try clear hfz36_3); (try clear hfz36_4); (try clear hfz7_0); (try clear hfz7_1); (try clear hfz7_2); (try clear hfz7_3); (try clear hfz7_4); (try clear hfz9_0); (try clear hfz9_1); (try clear hfz9_2); (try clear hfz9_3); (try clear hfz9_4); (try clear p2)
     obtain ⟨x3_2, rfl, HA, HK2, BK165, HB⟩ := hrel
     cases gk with
     | zero => exact absurd HA.out (by simp [spec_PageOk.l0])
     | succ k2 =>
      have H := HA.out
      clear HA
      simp only [spec_PageOk.l0] at H
      replace H := ir_ H; rcases H with ⟨c39b0, H⟩ | ⟨c39b0, H⟩
      ·replace H := iq_ H; obtain ⟨c40b0, H⟩ := H
       replace H := bi_ H; obtain ⟨t171, A41, H⟩ := H
       replace H := ib_ H; rcases H with ⟨rfl, H⟩ | ⟨rfl, H⟩
       ·replace H := bi_ H; obtain ⟨t173, A43, H⟩ := H
        replace H := ie_ H; rcases H with ⟨c44b0, c44b1, H⟩ | ⟨c44, c44b0, c44b1, H⟩
        ·have H' := am H
         clear H
         obtain ⟨⟨_, _, _, _, _⟩, _, _, _, _, _⟩ := Op.cells5 BK165.out
         try go_wp2
         replace BK165 := am (blk_drew BK165.out)
         replace HB := am (below_drew1 HB.out)
         have p170 : 0 ≤ (x3_2 : Int) := of_decide_eq_true ab4
         have q170 : x3_2 < (l0_1.length : Int) := of_decide_eq_true ab4
         obtain ⟨ad170, e170, hx170_0⟩ := Kd.at_int HR0_1.out x3_2 p170 q170
         have hw170_0 := hx170_0
         cases e170
         replace hx170_0 := pc_ HB hx170_0
         replace p170 := eq_true p170
         replace q170 := eq_true q170
         have p172 : 0 ≤ (x3_2 : Int) := of_decide_eq_true ab4
         have q172 : x3_2 < (l0_1.length : Int) := of_decide_eq_true ab4
         obtain ⟨ad172, e172, hx172_0⟩ := Kd.at_int HR0_1.out x3_2 p172 q172
         have hw172_0 := hx172_0
         obtain rfl : ad170 = ad172 := (by injection e172)
         replace hx172_0 := pc_ HB hx172_0
         replace p172 := eq_true p172
         replace q172 := eq_true q172
         refine start_ (n := 20) (S := fun w' => w'.cell? ⟨gb165, 0, none⟩ = some (.slice A0_0 l0_0.length c0_0) ∧ w'.cell? ⟨gb165, 1, none⟩ = some (.slice (some ad170) l0_1.length c0_1) ∧ w'.cell? ⟨gb165, 2, none⟩ = some (.slice A0_2 l0_2.length c0_2) ∧ w'.cell? ⟨gb165, 3, none⟩ = some (.int .i64 a0_3) ∧ w'.cell? ⟨gb165, 4, none⟩ = some (.int .i64 a0_4) ∧ w'.cell? (ad170.add (x3_2).toNat) = some (.int .i64 (rd l0_1 x3_2)) ∧ w'.cell? (ad170.add (x3_2).toNat) = some (.int .i64 (rd l0_1 x3_2))) (ds := []) #[false, false, false, false, false, false, false, false, false, false, false, false, false, false, false, false, false, false, false, false] (by kernel_rfl) rfl rfl ⟨(blk_cell BK165.out 0).trans rfl, (blk_cell BK165.out 1).trans rfl, (blk_cell BK165.out 2).trans rfl, (blk_cell BK165.out 3).trans rfl, (blk_cell BK165.out 4).trans rfl, (pc_ HB hw170_0 :), (pc_ HB hw172_0 :)⟩ (fun hHeld => ?_); refine with_tabW spec_PageOk.tab6 spec_PageOk.bits6 (fun HT_ HW_ => ?_)
         generalize wr.drew = w46 at BK165 HB hx170_0 hx172_0 hHeld ⊢
         refine pa_ 0 54 HT_ ?_
         refine pa_ 2 56 HT_ ?_
         refine pa_ 4 58 HT_ ?_
         refine tk_ 1 55 HT_ HW_ hHeld ?_
         refine tk_ 3 57 HT_ HW_ hHeld ?_
         refine pa_ 5 59 HT_ ?_
         refine tk_ 6 60 HT_ HW_ hHeld ?_
         refine on_ 7 61 HT_ fun K hK => ?_
         refine goes_ Try.func38 (by kernel_rfl) rfl #[.slice A0_0 l0_0.length c0_0, .int .i64 (rd l0_1 x3_2), .string (⟨#[]⟩ : ByteArray)] (by rfl) rfl rfl ab5 ?_
         with_reducible refine (spec_l8Tag.calls _ _ l0_0 (rd l0_1 x3_2) (⟨#[]⟩ : ByteArray) true _ ?side1 ?side2 A41.out).mono ?_
         (case side1 => repeat (first | exact (Kd.C_below HR0_0.out HB.out) | (with_reducible refine Kd.C_alloc ?_ _) | (with_reducible refine Kd.C_drewN ?_ _) | (with_reducible refine Kd.C_drew ?_)))
         (case side2 => exact HC0_0.out)
         rintro e w' ⟨rfl, ⟨nd, rfl⟩⟩
         refine ⟨_, rfl, ?_⟩
         refine hK.out _ _ ⟨(blk_cell BK165.out 0).trans rfl, (blk_cell BK165.out 1).trans rfl, (blk_cell BK165.out 2).trans rfl, (blk_cell BK165.out 3).trans rfl, (blk_cell BK165.out 4).trans rfl, (pc_ HB hw170_0 :), (pc_ HB hw172_0 :)⟩ (fun hHeld => ?_)
         clear hK K
         refine nm_ ?_
         refine pa_ 8 62 HT_ ?_
         refine pa_ 9 63 HT_ ?_
         refine pa_ 10 64 HT_ ?_
         refine pa_ 12 66 HT_ ?_
         refine pa_ 14 68 HT_ ?_
         refine tk_ 11 65 HT_ HW_ hHeld ?_
         refine tk_ 13 67 HT_ HW_ hHeld ?_
         refine pa_ 15 69 HT_ ?_
         refine tk_ 16 70 HT_ HW_ hHeld ?_
         refine on_ 17 71 HT_ fun K hK => ?_
         refine goes_ Try.func39 (by kernel_rfl) rfl #[.slice (some ad170) l0_1.length c0_1, .int .i64 (rd l0_1 x3_2)] (by rfl) rfl rfl ab5 ?_
         with_reducible refine (spec_l6Count.calls k2 _ _ l0_1 (rd l0_1 x3_2) t173 _ ?side1 ?side2 A43.out).mono ?_
         (case side1 => repeat (first | exact (Kd.C_below HR0_1.out (ab2 GE165)) | (with_reducible refine Kd.C_alloc ?_ _) | (with_reducible refine Kd.C_drewN ?_ _) | (with_reducible refine Kd.C_drew ?_)))
         (case side2 => exact HC0_1.out)
         rintro e w' ⟨rfl, ⟨nd, rfl⟩⟩
         refine ⟨_, rfl, ?_⟩
         refine hK.out _ _ ⟨(blk_cell BK165.out 0).trans rfl, (blk_cell BK165.out 1).trans rfl, (blk_cell BK165.out 2).trans rfl, (blk_cell BK165.out 3).trans rfl, (blk_cell BK165.out 4).trans rfl, (pc_ HB hw170_0 :), (pc_ HB hw172_0 :)⟩ (fun hHeld => ?_)
         clear hK K
         refine nm_ ?_
         refine pa_ 18 72 HT_ ?_
         refine pa_ 19 73 HT_ ?_
         refine dn_ HT_ ?_
         try go_wp2
         go_roundg k2
         case measure => have := HJ1.out; have := HK2.out; omega
         case rel => exact ⟨(wrap64 (x3_2 + 1)), ab6, H', ⟨by have := HJ1.out; have := HK2.out; omega⟩, ⟨ab3 BK165⟩, ⟨ab2 GE165⟩⟩
        ·obtain rfl := Option.some.inj H
         obtain ⟨⟨_, _, _, _, _⟩, _, _, _, _, _⟩ := Op.cells5 BK165.out
         try go_wp2
         replace BK165 := am (blk_drew BK165.out)
         replace HB := am (below_drew1 HB.out)
         have p170 : 0 ≤ (x3_2 : Int) := of_decide_eq_true ab4
         have q170 : x3_2 < (l0_1.length : Int) := of_decide_eq_true ab4
         obtain ⟨ad170, e170, hx170_0⟩ := Kd.at_int HR0_1.out x3_2 p170 q170
         have hw170_0 := hx170_0
         cases e170
         replace hx170_0 := pc_ HB hx170_0
         replace p170 := eq_true p170
         replace q170 := eq_true q170
         have p172 : 0 ≤ (x3_2 : Int) := of_decide_eq_true ab4
         have q172 : x3_2 < (l0_1.length : Int) := of_decide_eq_true ab4
         obtain ⟨ad172, e172, hx172_0⟩ := Kd.at_int HR0_1.out x3_2 p172 q172
         have hw172_0 := hx172_0
         obtain rfl : ad170 = ad172 := (by injection e172)
         replace hx172_0 := pc_ HB hx172_0
         replace p172 := eq_true p172
         replace q172 := eq_true q172
         refine start_ (n := 20) (S := fun w' => w'.cell? ⟨gb165, 0, none⟩ = some (.slice A0_0 l0_0.length c0_0) ∧ w'.cell? ⟨gb165, 1, none⟩ = some (.slice (some ad170) l0_1.length c0_1) ∧ w'.cell? ⟨gb165, 2, none⟩ = some (.slice A0_2 l0_2.length c0_2) ∧ w'.cell? ⟨gb165, 3, none⟩ = some (.int .i64 a0_3) ∧ w'.cell? ⟨gb165, 4, none⟩ = some (.int .i64 a0_4) ∧ w'.cell? (ad170.add (x3_2).toNat) = some (.int .i64 (rd l0_1 x3_2)) ∧ w'.cell? (ad170.add (x3_2).toNat) = some (.int .i64 (rd l0_1 x3_2))) (ds := []) #[false, false, false, false, false, false, false, false, false, false, false, false, false, false, false, false, false, false, false, false] (by kernel_rfl) rfl rfl ⟨(blk_cell BK165.out 0).trans rfl, (blk_cell BK165.out 1).trans rfl, (blk_cell BK165.out 2).trans rfl, (blk_cell BK165.out 3).trans rfl, (blk_cell BK165.out 4).trans rfl, (pc_ HB hw170_0 :), (pc_ HB hw172_0 :)⟩ (fun hHeld => ?_); refine with_tabW spec_PageOk.tab6 spec_PageOk.bits6 (fun HT_ HW_ => ?_)
         generalize wr.drew = w48 at BK165 HB hx170_0 hx172_0 hHeld ⊢
         refine pa_ 0 54 HT_ ?_
         refine pa_ 2 56 HT_ ?_
         refine pa_ 4 58 HT_ ?_
         refine tk_ 1 55 HT_ HW_ hHeld ?_
         refine tk_ 3 57 HT_ HW_ hHeld ?_
         refine pa_ 5 59 HT_ ?_
         refine tk_ 6 60 HT_ HW_ hHeld ?_
         refine on_ 7 61 HT_ fun K hK => ?_
         refine goes_ Try.func38 (by kernel_rfl) rfl #[.slice A0_0 l0_0.length c0_0, .int .i64 (rd l0_1 x3_2), .string (⟨#[]⟩ : ByteArray)] (by rfl) rfl rfl ab5 ?_
         with_reducible refine (spec_l8Tag.calls _ _ l0_0 (rd l0_1 x3_2) (⟨#[]⟩ : ByteArray) true _ ?side1 ?side2 A41.out).mono ?_
         (case side1 => repeat (first | exact (Kd.C_below HR0_0.out HB.out) | (with_reducible refine Kd.C_alloc ?_ _) | (with_reducible refine Kd.C_drewN ?_ _) | (with_reducible refine Kd.C_drew ?_)))
         (case side2 => exact HC0_0.out)
         rintro e w' ⟨rfl, ⟨nd, rfl⟩⟩
         refine ⟨_, rfl, ?_⟩
         refine hK.out _ _ ⟨(blk_cell BK165.out 0).trans rfl, (blk_cell BK165.out 1).trans rfl, (blk_cell BK165.out 2).trans rfl, (blk_cell BK165.out 3).trans rfl, (blk_cell BK165.out 4).trans rfl, (pc_ HB hw170_0 :), (pc_ HB hw172_0 :)⟩ (fun hHeld => ?_)
         clear hK K
         refine nm_ ?_
         refine pa_ 8 62 HT_ ?_
         refine pa_ 9 63 HT_ ?_
         refine pa_ 10 64 HT_ ?_
         refine pa_ 12 66 HT_ ?_
         refine pa_ 14 68 HT_ ?_
         refine tk_ 11 65 HT_ HW_ hHeld ?_
         refine tk_ 13 67 HT_ HW_ hHeld ?_
         refine pa_ 15 69 HT_ ?_
         refine tk_ 16 70 HT_ HW_ hHeld ?_
         refine on_ 17 71 HT_ fun K hK => ?_
         refine goes_ Try.func39 (by kernel_rfl) rfl #[.slice (some ad170) l0_1.length c0_1, .int .i64 (rd l0_1 x3_2)] (by rfl) rfl rfl ab5 ?_
         with_reducible refine (spec_l6Count.calls k2 _ _ l0_1 (rd l0_1 x3_2) t173 _ ?side1 ?side2 A43.out).mono ?_
         (case side1 => repeat (first | exact (Kd.C_below HR0_1.out (ab2 GE165)) | (with_reducible refine Kd.C_alloc ?_ _) | (with_reducible refine Kd.C_drewN ?_ _) | (with_reducible refine Kd.C_drew ?_)))
         (case side2 => exact HC0_1.out)
         rintro e w' ⟨rfl, ⟨nd, rfl⟩⟩
         refine ⟨_, rfl, ?_⟩
         refine hK.out _ _ ⟨(blk_cell BK165.out 0).trans rfl, (blk_cell BK165.out 1).trans rfl, (blk_cell BK165.out 2).trans rfl, (blk_cell BK165.out 3).trans rfl, (blk_cell BK165.out 4).trans rfl, (pc_ HB hw170_0 :), (pc_ HB hw172_0 :)⟩ (fun hHeld => ?_)
         clear hK K
         refine nm_ ?_
         refine pa_ 18 72 HT_ ?_
         refine pa_ 19 73 HT_ ?_
         refine dn_ HT_ ?_
         try go_wp2
         go_ret
         exact ⟨ab7, ab2 GE165⟩
       ·obtain rfl := Option.some.inj H
        obtain ⟨⟨_, _, _, _, _⟩, _, _, _, _, _⟩ := Op.cells5 BK165.out
        try go_wp2
        replace BK165 := am (blk_drew BK165.out)
        replace HB := am (below_drew1 HB.out)
        have p170 : 0 ≤ (x3_2 : Int) := of_decide_eq_true ab4
        have q170 : x3_2 < (l0_1.length : Int) := of_decide_eq_true ab4
        obtain ⟨ad170, e170, hx170_0⟩ := Kd.at_int HR0_1.out x3_2 p170 q170
        have hw170_0 := hx170_0
        cases e170
        replace hx170_0 := pc_ HB hx170_0
        replace p170 := eq_true p170
        replace q170 := eq_true q170
        refine start_ (n := 20) (S := fun w' => w'.cell? ⟨gb165, 0, none⟩ = some (.slice A0_0 l0_0.length c0_0) ∧ w'.cell? ⟨gb165, 1, none⟩ = some (.slice (some ad170) l0_1.length c0_1) ∧ w'.cell? ⟨gb165, 2, none⟩ = some (.slice A0_2 l0_2.length c0_2) ∧ w'.cell? ⟨gb165, 3, none⟩ = some (.int .i64 a0_3) ∧ w'.cell? ⟨gb165, 4, none⟩ = some (.int .i64 a0_4) ∧ w'.cell? (ad170.add (x3_2).toNat) = some (.int .i64 (rd l0_1 x3_2))) (ds := []) #[false, false, false, false, false, false, false, false, false, false, false, false, false, false, false, false, false, false, false, false] (by kernel_rfl) rfl rfl ⟨(blk_cell BK165.out 0).trans rfl, (blk_cell BK165.out 1).trans rfl, (blk_cell BK165.out 2).trans rfl, (blk_cell BK165.out 3).trans rfl, (blk_cell BK165.out 4).trans rfl, (pc_ HB hw170_0 :)⟩ (fun hHeld => ?_); refine with_tabW spec_PageOk.tab6 spec_PageOk.bits6 (fun HT_ HW_ => ?_)
        generalize wr.drew = w50 at BK165 HB hx170_0 hHeld ⊢
        refine pa_ 0 54 HT_ ?_
        refine pa_ 2 56 HT_ ?_
        refine pa_ 4 58 HT_ ?_
        refine tk_ 1 55 HT_ HW_ hHeld ?_
        refine tk_ 3 57 HT_ HW_ hHeld ?_
        refine pa_ 5 59 HT_ ?_
        refine tk_ 6 60 HT_ HW_ hHeld ?_
        refine on_ 7 61 HT_ fun K hK => ?_
        refine goes_ Try.func38 (by kernel_rfl) rfl #[.slice A0_0 l0_0.length c0_0, .int .i64 (rd l0_1 x3_2), .string (⟨#[]⟩ : ByteArray)] (by rfl) rfl rfl ab5 ?_
        with_reducible refine (spec_l8Tag.calls _ _ l0_0 (rd l0_1 x3_2) (⟨#[]⟩ : ByteArray) false _ ?side1 ?side2 A41.out).mono ?_
        (case side1 => repeat (first | exact (Kd.C_below HR0_0.out HB.out) | (with_reducible refine Kd.C_alloc ?_ _) | (with_reducible refine Kd.C_drewN ?_ _) | (with_reducible refine Kd.C_drew ?_)))
        (case side2 => exact HC0_0.out)
        rintro e w' ⟨rfl, ⟨nd, rfl⟩⟩
        refine ⟨_, rfl, ?_⟩
        refine hK.out _ _ ⟨(blk_cell BK165.out 0).trans rfl, (blk_cell BK165.out 1).trans rfl, (blk_cell BK165.out 2).trans rfl, (blk_cell BK165.out 3).trans rfl, (blk_cell BK165.out 4).trans rfl, (pc_ HB hw170_0 :)⟩ (fun hHeld => ?_)
        clear hK K
        refine nm_ ?_
        refine pa_ 8 62 HT_ ?_
        refine pa_ 9 63 HT_ ?_
        refine pu_ 10 64 HT_ ?_
        refine pu_ 11 65 HT_ ?_
        refine pu_ 12 66 HT_ ?_
        refine pu_ 13 67 HT_ ?_
        refine pu_ 14 68 HT_ ?_
        refine pu_ 15 69 HT_ ?_
        refine pu_ 16 70 HT_ ?_
        refine pu_ 17 71 HT_ ?_
        refine pu_ 18 72 HT_ ?_
        refine pa_ 19 73 HT_ ?_
        refine dn_ HT_ ?_
        try go_wp2
        go_ret
        exact ⟨ab7, ab2 GE165⟩
      ·have H' := am H
       clear H
       obtain ⟨⟨_, _, _, _, _⟩, _, _, _, _, _⟩ := Op.cells5 BK165.out
       go_wp2
       go_loopg [4] k2 (fun kq v4 w' => ∃ (x4_3 : Int), v4 = .int .i64 x4_3 ∧ Aside0 (spec_PageOk.l1 kq x4_3 l0_0 l0_1 l0_2 a0_3 a0_4 = some r) ∧ Aside0 (kq ≤ k2) ∧ Aside0 (w'.heap[gb165]? = some (.cells #[(.slice A0_0 l0_0.length c0_0), (.slice A0_1 l0_1.length c0_1), (.slice A0_2 l0_2.length c0_2), .int .i64 a0_3, .int .i64 a0_4] 33 (0, 0))) ∧ Aside0 (Below w.heap.size w w'))
       case atStart => exact ⟨(0), ab6, H', ⟨Nat.le_refl _⟩, ⟨ab3 BK165⟩, ⟨ab2 GE165⟩⟩
       case round =>
        clear H'
        (try clear p1); (try clear q1); (try clear hx1); (try clear p2); (try clear c3); (try clear c4); (try clear p6); (try clear p17); (try clear q17); (try clear hx17); (try clear c38); (try clear c39); (try clear c39b0); (try clear c40); (try clear c42); (try clear c44); (try clear c44b0); (try clear c44b1); (try clear hcz47_0); (try clear hcz47_1); (try clear hcz47_2); (try clear hcz47_3); (try clear hcz47_4); (try clear hcz49_0); (try clear hcz49_1); (try clear hcz49_2); (try clear hcz49_3); (try clear hcz49_4); (try clear hcz51_0); (try clear hcz51_1); (try clear hcz51_2); (try clear hcz51_3); (try clear hcz51_4); (try clear hfz47_0); (try clear hfz47_1); (try clear hfz47_2); (try clear hfz47_3); (try clear hfz47_4); (try clear hfz49_0); (try clear hfz49_1); (try clear hfz49_2); (try clear hfz49_3); (try clear hfz49_4); (try clear hfz51_0); (try clear hfz51_1); (try clear hfz51_2); (try clear hfz51_3); (try clear hfz51_4); (try clear hx170_0); (try clear hx172_0); (try clear p170); (try clear p172); (try clear q170); (try clear q172)
        obtain ⟨x4_3, rfl, HA, HK3, BK165, HB⟩ := hrel
        cases gk with
        | zero => exact absurd HA.out (by simp [spec_PageOk.l1])
        | succ k3 =>
         have H := HA.out
         clear HA
         simp only [spec_PageOk.l1] at H
         replace H := ir_ H; rcases H with ⟨c52b0, H⟩ | ⟨c52b0, H⟩
         ·replace H := iq_ H; obtain ⟨c53b0, H⟩ := H
          replace H := ie_ H; rcases H with ⟨c54b0, c54b1, H⟩ | ⟨c54, c54b0, c54b1, H⟩
          ·have H' := am H
           clear H
           obtain ⟨⟨_, _, _, _, _⟩, _, _, _, _, _⟩ := Op.cells5 BK165.out
           try go_wp2
           replace BK165 := am (blk_drew BK165.out)
           replace HB := am (below_drew1 HB.out)
           have p174 : 0 ≤ (x4_3 : Int) := of_decide_eq_true ab4
           have q174 : x4_3 < (l0_2.length : Int) := of_decide_eq_true ab4
           obtain ⟨ad174, e174, hx174_0⟩ := Kd.at_int HR0_2.out x4_3 p174 q174
           have hw174_0 := hx174_0
           cases e174
           replace hx174_0 := pc_ HB hx174_0
           replace p174 := eq_true p174
           replace q174 := eq_true q174
           refine start_ (n := 31) (S := fun w' => w'.cell? ⟨gb165, 0, none⟩ = some (.slice A0_0 l0_0.length c0_0) ∧ w'.cell? ⟨gb165, 1, none⟩ = some (.slice A0_1 l0_1.length c0_1) ∧ w'.cell? ⟨gb165, 2, none⟩ = some (.slice (some ad174) l0_2.length c0_2) ∧ w'.cell? ⟨gb165, 3, none⟩ = some (.int .i64 a0_3) ∧ w'.cell? ⟨gb165, 4, none⟩ = some (.int .i64 a0_4) ∧ w'.cell? (ad174.add (x4_3).toNat) = some (.int .i64 (rd l0_2 x4_3))) (ds := []) #[false, false, false, false, false, false, false, false, false, false, false, false, false, false, false, false, false, false, false, false, false, false, false, false, false, false, false, false, false, false, false] (by kernel_rfl) rfl rfl ⟨(blk_cell BK165.out 0).trans rfl, (blk_cell BK165.out 1).trans rfl, (blk_cell BK165.out 2).trans rfl, (blk_cell BK165.out 3).trans rfl, (blk_cell BK165.out 4).trans rfl, (pc_ HB hw174_0 :)⟩ (fun hHeld => ?_); refine with_tabW spec_PageOk.tab11 spec_PageOk.bits11 (fun HT_ HW_ => ?_)
           generalize wr.drew = w56 at BK165 HB hx174_0 hHeld ⊢
           refine pa_ 0 81 HT_ ?_
           refine pa_ 2 83 HT_ ?_
           refine tk_ 1 82 HT_ HW_ hHeld ?_
           refine pa_ 3 84 HT_ ?_
           refine tk_ 4 85 HT_ HW_ hHeld ?_
           refine pa_ 5 86 HT_ ?_
           refine pa_ 6 87 HT_ ?_
           refine pu_ 7 88 HT_ ?_
           refine pu_ 8 89 HT_ ?_
           refine pu_ 9 90 HT_ ?_
           refine pu_ 10 91 HT_ ?_
           refine pu_ 11 92 HT_ ?_
           refine pu_ 12 93 HT_ ?_
           refine pu_ 13 94 HT_ ?_
           refine pu_ 14 95 HT_ ?_
           refine pu_ 15 96 HT_ ?_
           refine pu_ 16 97 HT_ ?_
           refine pu_ 17 98 HT_ ?_
           refine pu_ 18 99 HT_ ?_
           refine pu_ 19 100 HT_ ?_
           refine pu_ 20 101 HT_ ?_
           refine pu_ 21 102 HT_ ?_
           refine pu_ 22 103 HT_ ?_
           refine pu_ 23 104 HT_ ?_
           refine pu_ 24 105 HT_ ?_
           refine pu_ 25 106 HT_ ?_
           refine pu_ 26 107 HT_ ?_
           refine pu_ 27 108 HT_ ?_
           refine pu_ 28 109 HT_ ?_
           refine pu_ 29 110 HT_ ?_
           refine pa_ 30 111 HT_ ?_
           refine dn_ HT_ ?_
           try go_wp2
           go_roundg k3
           case measure => have := HJ1.out; have := HK2.out; have := HK3.out; omega
           case rel => exact ⟨(wrap64 (x4_3 + 1)), ab6, H', ⟨by have := HJ1.out; have := HK2.out; have := HK3.out; omega⟩, ⟨ab3 BK165⟩, ⟨ab2 GE165⟩⟩
          ·replace H := bi_ H; obtain ⟨t176, A57, H⟩ := H
           replace H := ib_ H; rcases H with ⟨rfl, H⟩ | ⟨rfl, H⟩
           ·replace H := iq_ H; obtain ⟨c59b0, H⟩ := H
            replace H := iq_ H; obtain ⟨c60b0, H⟩ := H
            replace H := bi_ H; obtain ⟨t179, A61, H⟩ := H
            replace H := ib_ H; rcases H with ⟨rfl, H⟩ | ⟨rfl, H⟩
            ·have H' := am H
             clear H
             obtain ⟨⟨_, _, _, _, _⟩, _, _, _, _, _⟩ := Op.cells5 BK165.out
             try go_wp2
             replace BK165 := am (blk_drew BK165.out)
             replace HB := am (below_drew1 HB.out)
             have p174 : 0 ≤ (x4_3 : Int) := of_decide_eq_true ab4
             have q174 : x4_3 < (l0_2.length : Int) := of_decide_eq_true ab4
             obtain ⟨ad174, e174, hx174_0⟩ := Kd.at_int HR0_2.out x4_3 p174 q174
             have hw174_0 := hx174_0
             cases e174
             replace hx174_0 := pc_ HB hx174_0
             replace p174 := eq_true p174
             replace q174 := eq_true q174
             have p175 : 0 ≤ (x4_3 : Int) := of_decide_eq_true ab4
             have q175 : x4_3 < (l0_2.length : Int) := of_decide_eq_true ab4
             obtain ⟨ad175, e175, hx175_0⟩ := Kd.at_int HR0_2.out x4_3 p175 q175
             have hw175_0 := hx175_0
             obtain rfl : ad174 = ad175 := (by injection e175)
             replace hx175_0 := pc_ HB hx175_0
             replace p175 := eq_true p175
             replace q175 := eq_true q175
             have p177 : 0 ≤ (x4_3 : Int) := of_decide_eq_true ab4
             have q177 : x4_3 < (l0_2.length : Int) := of_decide_eq_true ab4
             obtain ⟨ad177, e177, hx177_0⟩ := Kd.at_int HR0_2.out x4_3 p177 q177
             have hw177_0 := hx177_0
             obtain rfl : ad174 = ad177 := (by injection e177)
             replace hx177_0 := pc_ HB hx177_0
             replace p177 := eq_true p177
             replace q177 := eq_true q177
             have p178 : 0 ≤ ((rd l0_2 x4_3) : Int) := of_decide_eq_true ab4
             have q178 : (rd l0_2 x4_3) < (l0_0.length : Int) := of_decide_eq_true ab4
             obtain ⟨ad178, A178_3, c178_3, A178_6, c178_6, e178, hx178_0, hx178_1, hx178_2, hx178_3, hx178_4, hx178_5, hx178_6, hl178_3, hi178_3, hl178_6, hi178_6⟩ := at_T38 HR0_0.out (rd l0_2 x4_3) p178 q178
             have hw178_6 := hx178_6
             have hw178_5 := hx178_5
             have hw178_4 := hx178_4
             have hw178_3 := hx178_3
             have hw178_2 := hx178_2
             have hw178_1 := hx178_1
             have hw178_0 := hx178_0
             cases e178
             replace hx178_0 := pc_ HB hx178_0
             replace hx178_1 := pc_ HB hx178_1
             replace hx178_2 := pc_ HB hx178_2
             replace hx178_3 := pc_ HB hx178_3
             replace hx178_4 := pc_ HB hx178_4
             replace hx178_5 := pc_ HB hx178_5
             replace hx178_6 := pc_ HB hx178_6
             have HR178_3 := am hi178_3
             have HC178_3 := am hl178_3
             clear hi178_3 hl178_3
             have HR178_6 := am hi178_6
             have HC178_6 := am hl178_6
             clear hi178_6 hl178_6
             replace p178 := eq_true p178
             replace q178 := eq_true q178
             refine start_ (n := 31) (S := fun w' => w'.cell? ⟨gb165, 0, none⟩ = some (.slice (some ad178) l0_0.length c0_0) ∧ w'.cell? ⟨gb165, 1, none⟩ = some (.slice A0_1 l0_1.length c0_1) ∧ w'.cell? ⟨gb165, 2, none⟩ = some (.slice (some ad174) l0_2.length c0_2) ∧ w'.cell? ⟨gb165, 3, none⟩ = some (.int .i64 a0_3) ∧ w'.cell? ⟨gb165, 4, none⟩ = some (.int .i64 a0_4) ∧ w'.cell? (ad174.add (x4_3).toNat) = some (.int .i64 (rd l0_2 x4_3)) ∧ w'.cell? (ad174.add (x4_3).toNat) = some (.int .i64 (rd l0_2 x4_3)) ∧ w'.cell? (ad174.add (x4_3).toNat) = some (.int .i64 (rd l0_2 x4_3)) ∧ w'.cell? (ad178.add (((rd l0_2 x4_3)).toNat * 7)) = some (.int .i64 ((rd_T38 l0_0 (rd l0_2 x4_3)).f0)) ∧ w'.cell? ⟨(ad178.add (((rd l0_2 x4_3)).toNat * 7)).block, (ad178.add (((rd l0_2 x4_3)).toNat * 7)).off + 1, none⟩ = some (.int .i64 ((rd_T38 l0_0 (rd l0_2 x4_3)).f1)) ∧ w'.cell? ⟨(ad178.add (((rd l0_2 x4_3)).toNat * 7)).block, (ad178.add (((rd l0_2 x4_3)).toNat * 7)).off + 2, none⟩ = some (.string ((rd_T38 l0_0 (rd l0_2 x4_3)).f2)) ∧ w'.cell? ⟨(ad178.add (((rd l0_2 x4_3)).toNat * 7)).block, (ad178.add (((rd l0_2 x4_3)).toNat * 7)).off + 3, none⟩ = some (.slice A178_3 ((rd_T38 l0_0 (rd l0_2 x4_3)).f3).length c178_3) ∧ w'.cell? ⟨(ad178.add (((rd l0_2 x4_3)).toNat * 7)).block, (ad178.add (((rd l0_2 x4_3)).toNat * 7)).off + 4, none⟩ = some (.string ((rd_T38 l0_0 (rd l0_2 x4_3)).f4)) ∧ w'.cell? ⟨(ad178.add (((rd l0_2 x4_3)).toNat * 7)).block, (ad178.add (((rd l0_2 x4_3)).toNat * 7)).off + 5, none⟩ = some (.int .i64 ((rd_T38 l0_0 (rd l0_2 x4_3)).f5)) ∧ w'.cell? ⟨(ad178.add (((rd l0_2 x4_3)).toNat * 7)).block, (ad178.add (((rd l0_2 x4_3)).toNat * 7)).off + 6, none⟩ = some (.slice A178_6 ((rd_T38 l0_0 (rd l0_2 x4_3)).f6).length c178_6)) (ds := []) #[false, false, false, false, false, false, false, false, false, false, false, false, false, false, false, false, false, false, false, false, false, false, false, false, false, false, false, false, false, false, false] (by kernel_rfl) rfl rfl ⟨(blk_cell BK165.out 0).trans rfl, (blk_cell BK165.out 1).trans rfl, (blk_cell BK165.out 2).trans rfl, (blk_cell BK165.out 3).trans rfl, (blk_cell BK165.out 4).trans rfl, (pc_ HB hw174_0 :), (pc_ HB hw175_0 :), (pc_ HB hw177_0 :), (pc_ HB hw178_0 :), (pc_ HB hw178_1 :), (pc_ HB hw178_2 :), (pc_ HB hw178_3 :), (pc_ HB hw178_4 :), (pc_ HB hw178_5 :), (pc_ HB hw178_6 :)⟩ (fun hHeld => ?_); refine with_tabW spec_PageOk.tab11 spec_PageOk.bits11 (fun HT_ HW_ => ?_)
             generalize wr.drew = w64 at BK165 HB HR178_3 HR178_6 hx174_0 hx175_0 hx177_0 hx178_0 hx178_1 hx178_2 hx178_3 hx178_4 hx178_5 hx178_6 hHeld ⊢
             refine pa_ 0 81 HT_ ?_
             refine pa_ 2 83 HT_ ?_
             refine tk_ 1 82 HT_ HW_ hHeld ?_
             refine pa_ 3 84 HT_ ?_
             refine tk_ 4 85 HT_ HW_ hHeld ?_
             refine pa_ 5 86 HT_ ?_
             refine pa_ 6 87 HT_ ?_
             refine pa_ 7 88 HT_ ?_
             refine pa_ 9 90 HT_ ?_
             refine pa_ 11 92 HT_ ?_
             refine tk_ 8 89 HT_ HW_ hHeld ?_
             refine tk_ 10 91 HT_ HW_ hHeld ?_
             refine pa_ 12 93 HT_ ?_
             refine tk_ 13 94 HT_ HW_ hHeld ?_
             refine on_ 14 95 HT_ fun K hK => ?_
             refine goes_ Try.func38 (by kernel_rfl) rfl #[.slice (some ad178) l0_0.length c0_0, .int .i64 (rd l0_2 x4_3), .string (⟨#[]⟩ : ByteArray)] (by rfl) rfl rfl ab5 ?_
             with_reducible refine (spec_l8Tag.calls _ _ l0_0 (rd l0_2 x4_3) (⟨#[]⟩ : ByteArray) true _ ?side1 ?side2 A57.out).mono ?_
             (case side1 => repeat (first | exact (Kd.C_below HR0_0.out HB.out) | (with_reducible refine Kd.C_alloc ?_ _) | (with_reducible refine Kd.C_drewN ?_ _) | (with_reducible refine Kd.C_drew ?_)))
             (case side2 => exact HC0_0.out)
             rintro e w' ⟨rfl, ⟨nd, rfl⟩⟩
             refine ⟨_, rfl, ?_⟩
             refine hK.out _ _ ⟨(blk_cell BK165.out 0).trans rfl, (blk_cell BK165.out 1).trans rfl, (blk_cell BK165.out 2).trans rfl, (blk_cell BK165.out 3).trans rfl, (blk_cell BK165.out 4).trans rfl, (pc_ HB hw174_0 :), (pc_ HB hw175_0 :), (pc_ HB hw177_0 :), (pc_ HB hw178_0 :), (pc_ HB hw178_1 :), (pc_ HB hw178_2 :), (pc_ HB hw178_3 :), (pc_ HB hw178_4 :), (pc_ HB hw178_5 :), (pc_ HB hw178_6 :)⟩ (fun hHeld => ?_)
             clear hK K
             refine nm_ ?_
             refine pa_ 15 96 HT_ ?_
             refine pa_ 16 97 HT_ ?_
             refine pa_ 17 98 HT_ ?_
             refine pa_ 19 100 HT_ ?_
             refine pa_ 21 102 HT_ ?_
             refine tk_ 18 99 HT_ HW_ hHeld ?_
             refine tk_ 20 101 HT_ HW_ hHeld ?_
             refine pa_ 22 103 HT_ ?_
             refine tk_ 23 104 HT_ HW_ hHeld ?_
             refine pa_ 24 105 HT_ ?_
             refine pa_ 25 106 HT_ ?_
             refine tk_ 26 107 HT_ HW_ hHeld ?_
             refine on_ 27 108 HT_ fun K hK => ?_
             refine goes_ Try.func40 (by kernel_rfl) rfl #[.string ((rd_T38 l0_0 (rd l0_2 x4_3)).f2)] (by rfl) rfl rfl ab5 ?_
             with_reducible refine (spec_Format.calls k3 ((rd_T38 l0_0 (rd l0_2 x4_3)).f2) true _ A61.out).mono ?_
             rintro e w65 ⟨rfl, hb⟩
             refine ⟨_, rfl, ?_⟩
             replace BK165 := bl_ BK165 hb
             replace HB := am (below_step (ab2 GE165) hb)
             (try clear hb)
             (try clear hb2)
             (try clear hk)
             (try clear hi)
             refine hK.out _ _ ⟨(blk_cell BK165.out 0).trans rfl, (blk_cell BK165.out 1).trans rfl, (blk_cell BK165.out 2).trans rfl, (blk_cell BK165.out 3).trans rfl, (blk_cell BK165.out 4).trans rfl, (pc_ HB hw174_0 :), (pc_ HB hw175_0 :), (pc_ HB hw177_0 :), (pc_ HB hw178_0 :), (pc_ HB hw178_1 :), (pc_ HB hw178_2 :), (pc_ HB hw178_3 :), (pc_ HB hw178_4 :), (pc_ HB hw178_5 :), (pc_ HB hw178_6 :)⟩ (fun hHeld => ?_)
             clear hK K
             refine nm_ ?_
             refine pa_ 28 109 HT_ ?_
             refine pa_ 29 110 HT_ ?_
             refine pa_ 30 111 HT_ ?_
             refine dn_ HT_ ?_
             try go_wp2
             go_roundg k3
             case measure => have := HJ1.out; have := HK2.out; have := HK3.out; omega
             case rel => exact ⟨(wrap64 (x4_3 + 1)), ab6, H', ⟨by have := HJ1.out; have := HK2.out; have := HK3.out; omega⟩, ⟨ab3 BK165⟩, ⟨ab2 GE165⟩⟩
            ·obtain rfl := Option.some.inj H
             obtain ⟨⟨_, _, _, _, _⟩, _, _, _, _, _⟩ := Op.cells5 BK165.out
             try go_wp2
             replace BK165 := am (blk_drew BK165.out)
             replace HB := am (below_drew1 HB.out)
             have p174 : 0 ≤ (x4_3 : Int) := of_decide_eq_true ab4
             have q174 : x4_3 < (l0_2.length : Int) := of_decide_eq_true ab4
             obtain ⟨ad174, e174, hx174_0⟩ := Kd.at_int HR0_2.out x4_3 p174 q174
             have hw174_0 := hx174_0
             cases e174
             replace hx174_0 := pc_ HB hx174_0
             replace p174 := eq_true p174
             replace q174 := eq_true q174
             have p175 : 0 ≤ (x4_3 : Int) := of_decide_eq_true ab4
             have q175 : x4_3 < (l0_2.length : Int) := of_decide_eq_true ab4
             obtain ⟨ad175, e175, hx175_0⟩ := Kd.at_int HR0_2.out x4_3 p175 q175
             have hw175_0 := hx175_0
             obtain rfl : ad174 = ad175 := (by injection e175)
             replace hx175_0 := pc_ HB hx175_0
             replace p175 := eq_true p175
             replace q175 := eq_true q175
             have p177 : 0 ≤ (x4_3 : Int) := of_decide_eq_true ab4
             have q177 : x4_3 < (l0_2.length : Int) := of_decide_eq_true ab4
             obtain ⟨ad177, e177, hx177_0⟩ := Kd.at_int HR0_2.out x4_3 p177 q177
             have hw177_0 := hx177_0
             obtain rfl : ad174 = ad177 := (by injection e177)
             replace hx177_0 := pc_ HB hx177_0
             replace p177 := eq_true p177
             replace q177 := eq_true q177
             have p178 : 0 ≤ ((rd l0_2 x4_3) : Int) := of_decide_eq_true ab4
             have q178 : (rd l0_2 x4_3) < (l0_0.length : Int) := of_decide_eq_true ab4
             obtain ⟨ad178, A178_3, c178_3, A178_6, c178_6, e178, hx178_0, hx178_1, hx178_2, hx178_3, hx178_4, hx178_5, hx178_6, hl178_3, hi178_3, hl178_6, hi178_6⟩ := at_T38 HR0_0.out (rd l0_2 x4_3) p178 q178
             have hw178_6 := hx178_6
             have hw178_5 := hx178_5
             have hw178_4 := hx178_4
             have hw178_3 := hx178_3
             have hw178_2 := hx178_2
             have hw178_1 := hx178_1
             have hw178_0 := hx178_0
             cases e178
             replace hx178_0 := pc_ HB hx178_0
             replace hx178_1 := pc_ HB hx178_1
             replace hx178_2 := pc_ HB hx178_2
             replace hx178_3 := pc_ HB hx178_3
             replace hx178_4 := pc_ HB hx178_4
             replace hx178_5 := pc_ HB hx178_5
             replace hx178_6 := pc_ HB hx178_6
             have HR178_3 := am hi178_3
             have HC178_3 := am hl178_3
             clear hi178_3 hl178_3
             have HR178_6 := am hi178_6
             have HC178_6 := am hl178_6
             clear hi178_6 hl178_6
             replace p178 := eq_true p178
             replace q178 := eq_true q178
             refine start_ (n := 31) (S := fun w' => w'.cell? ⟨gb165, 0, none⟩ = some (.slice (some ad178) l0_0.length c0_0) ∧ w'.cell? ⟨gb165, 1, none⟩ = some (.slice A0_1 l0_1.length c0_1) ∧ w'.cell? ⟨gb165, 2, none⟩ = some (.slice (some ad174) l0_2.length c0_2) ∧ w'.cell? ⟨gb165, 3, none⟩ = some (.int .i64 a0_3) ∧ w'.cell? ⟨gb165, 4, none⟩ = some (.int .i64 a0_4) ∧ w'.cell? (ad174.add (x4_3).toNat) = some (.int .i64 (rd l0_2 x4_3)) ∧ w'.cell? (ad174.add (x4_3).toNat) = some (.int .i64 (rd l0_2 x4_3)) ∧ w'.cell? (ad174.add (x4_3).toNat) = some (.int .i64 (rd l0_2 x4_3)) ∧ w'.cell? (ad178.add (((rd l0_2 x4_3)).toNat * 7)) = some (.int .i64 ((rd_T38 l0_0 (rd l0_2 x4_3)).f0)) ∧ w'.cell? ⟨(ad178.add (((rd l0_2 x4_3)).toNat * 7)).block, (ad178.add (((rd l0_2 x4_3)).toNat * 7)).off + 1, none⟩ = some (.int .i64 ((rd_T38 l0_0 (rd l0_2 x4_3)).f1)) ∧ w'.cell? ⟨(ad178.add (((rd l0_2 x4_3)).toNat * 7)).block, (ad178.add (((rd l0_2 x4_3)).toNat * 7)).off + 2, none⟩ = some (.string ((rd_T38 l0_0 (rd l0_2 x4_3)).f2)) ∧ w'.cell? ⟨(ad178.add (((rd l0_2 x4_3)).toNat * 7)).block, (ad178.add (((rd l0_2 x4_3)).toNat * 7)).off + 3, none⟩ = some (.slice A178_3 ((rd_T38 l0_0 (rd l0_2 x4_3)).f3).length c178_3) ∧ w'.cell? ⟨(ad178.add (((rd l0_2 x4_3)).toNat * 7)).block, (ad178.add (((rd l0_2 x4_3)).toNat * 7)).off + 4, none⟩ = some (.string ((rd_T38 l0_0 (rd l0_2 x4_3)).f4)) ∧ w'.cell? ⟨(ad178.add (((rd l0_2 x4_3)).toNat * 7)).block, (ad178.add (((rd l0_2 x4_3)).toNat * 7)).off + 5, none⟩ = some (.int .i64 ((rd_T38 l0_0 (rd l0_2 x4_3)).f5)) ∧ w'.cell? ⟨(ad178.add (((rd l0_2 x4_3)).toNat * 7)).block, (ad178.add (((rd l0_2 x4_3)).toNat * 7)).off + 6, none⟩ = some (.slice A178_6 ((rd_T38 l0_0 (rd l0_2 x4_3)).f6).length c178_6)) (ds := []) #[false, false, false, false, false, false, false, false, false, false, false, false, false, false, false, false, false, false, false, false, false, false, false, false, false, false, false, false, false, false, false] (by kernel_rfl) rfl rfl ⟨(blk_cell BK165.out 0).trans rfl, (blk_cell BK165.out 1).trans rfl, (blk_cell BK165.out 2).trans rfl, (blk_cell BK165.out 3).trans rfl, (blk_cell BK165.out 4).trans rfl, (pc_ HB hw174_0 :), (pc_ HB hw175_0 :), (pc_ HB hw177_0 :), (pc_ HB hw178_0 :), (pc_ HB hw178_1 :), (pc_ HB hw178_2 :), (pc_ HB hw178_3 :), (pc_ HB hw178_4 :), (pc_ HB hw178_5 :), (pc_ HB hw178_6 :)⟩ (fun hHeld => ?_); refine with_tabW spec_PageOk.tab11 spec_PageOk.bits11 (fun HT_ HW_ => ?_)
             generalize wr.drew = w67 at BK165 HB HR178_3 HR178_6 hx174_0 hx175_0 hx177_0 hx178_0 hx178_1 hx178_2 hx178_3 hx178_4 hx178_5 hx178_6 hHeld ⊢
             refine pa_ 0 81 HT_ ?_
             refine pa_ 2 83 HT_ ?_
             refine tk_ 1 82 HT_ HW_ hHeld ?_
             refine pa_ 3 84 HT_ ?_
             refine tk_ 4 85 HT_ HW_ hHeld ?_
             refine pa_ 5 86 HT_ ?_
             refine pa_ 6 87 HT_ ?_
             refine pa_ 7 88 HT_ ?_
             refine pa_ 9 90 HT_ ?_
             refine pa_ 11 92 HT_ ?_
             refine tk_ 8 89 HT_ HW_ hHeld ?_
             refine tk_ 10 91 HT_ HW_ hHeld ?_
             refine pa_ 12 93 HT_ ?_
             refine tk_ 13 94 HT_ HW_ hHeld ?_
             refine on_ 14 95 HT_ fun K hK => ?_
             refine goes_ Try.func38 (by kernel_rfl) rfl #[.slice (some ad178) l0_0.length c0_0, .int .i64 (rd l0_2 x4_3), .string (⟨#[]⟩ : ByteArray)] (by rfl) rfl rfl ab5 ?_
             with_reducible refine (spec_l8Tag.calls _ _ l0_0 (rd l0_2 x4_3) (⟨#[]⟩ : ByteArray) true _ ?side1 ?side2 A57.out).mono ?_
             (case side1 => repeat (first | exact (Kd.C_below HR0_0.out HB.out) | (with_reducible refine Kd.C_alloc ?_ _) | (with_reducible refine Kd.C_drewN ?_ _) | (with_reducible refine Kd.C_drew ?_)))
             (case side2 => exact HC0_0.out)
             rintro e w' ⟨rfl, ⟨nd, rfl⟩⟩
             refine ⟨_, rfl, ?_⟩
             refine hK.out _ _ ⟨(blk_cell BK165.out 0).trans rfl, (blk_cell BK165.out 1).trans rfl, (blk_cell BK165.out 2).trans rfl, (blk_cell BK165.out 3).trans rfl, (blk_cell BK165.out 4).trans rfl, (pc_ HB hw174_0 :), (pc_ HB hw175_0 :), (pc_ HB hw177_0 :), (pc_ HB hw178_0 :), (pc_ HB hw178_1 :), (pc_ HB hw178_2 :), (pc_ HB hw178_3 :), (pc_ HB hw178_4 :), (pc_ HB hw178_5 :), (pc_ HB hw178_6 :)⟩ (fun hHeld => ?_)
             clear hK K
             refine nm_ ?_
             refine pa_ 15 96 HT_ ?_
             refine pa_ 16 97 HT_ ?_
             refine pa_ 17 98 HT_ ?_
             refine pa_ 19 100 HT_ ?_
             refine pa_ 21 102 HT_ ?_
             refine tk_ 18 99 HT_ HW_ hHeld ?_
             refine tk_ 20 101 HT_ HW_ hHeld ?_
             refine pa_ 22 103 HT_ ?_
             refine tk_ 23 104 HT_ HW_ hHeld ?_
             refine pa_ 24 105 HT_ ?_
             refine pa_ 25 106 HT_ ?_
             refine tk_ 26 107 HT_ HW_ hHeld ?_
             refine on_ 27 108 HT_ fun K hK => ?_
             refine goes_ Try.func40 (by kernel_rfl) rfl #[.string ((rd_T38 l0_0 (rd l0_2 x4_3)).f2)] (by rfl) rfl rfl ab5 ?_
             with_reducible refine (spec_Format.calls k3 ((rd_T38 l0_0 (rd l0_2 x4_3)).f2) false _ A61.out).mono ?_
             rintro e w68 ⟨rfl, hb⟩
             refine ⟨_, rfl, ?_⟩
             replace BK165 := bl_ BK165 hb
             replace HB := am (below_step (ab2 GE165) hb)
             (try clear hb)
             (try clear hb2)
             (try clear hk)
             (try clear hi)
             refine hK.out _ _ ⟨(blk_cell BK165.out 0).trans rfl, (blk_cell BK165.out 1).trans rfl, (blk_cell BK165.out 2).trans rfl, (blk_cell BK165.out 3).trans rfl, (blk_cell BK165.out 4).trans rfl, (pc_ HB hw174_0 :), (pc_ HB hw175_0 :), (pc_ HB hw177_0 :), (pc_ HB hw178_0 :), (pc_ HB hw178_1 :), (pc_ HB hw178_2 :), (pc_ HB hw178_3 :), (pc_ HB hw178_4 :), (pc_ HB hw178_5 :), (pc_ HB hw178_6 :)⟩ (fun hHeld => ?_)
             clear hK K
             refine nm_ ?_
             refine pa_ 28 109 HT_ ?_
             refine pa_ 29 110 HT_ ?_
             refine pa_ 30 111 HT_ ?_
             refine dn_ HT_ ?_
             try go_wp2
             go_ret
             exact ⟨ab7, ab2 GE165⟩
           ·obtain rfl := Option.some.inj H
            obtain ⟨⟨_, _, _, _, _⟩, _, _, _, _, _⟩ := Op.cells5 BK165.out
            try go_wp2
            replace BK165 := am (blk_drew BK165.out)
            replace HB := am (below_drew1 HB.out)
            have p174 : 0 ≤ (x4_3 : Int) := of_decide_eq_true ab4
            have q174 : x4_3 < (l0_2.length : Int) := of_decide_eq_true ab4
            obtain ⟨ad174, e174, hx174_0⟩ := Kd.at_int HR0_2.out x4_3 p174 q174
            have hw174_0 := hx174_0
            cases e174
            replace hx174_0 := pc_ HB hx174_0
            replace p174 := eq_true p174
            replace q174 := eq_true q174
            have p175 : 0 ≤ (x4_3 : Int) := of_decide_eq_true ab4
            have q175 : x4_3 < (l0_2.length : Int) := of_decide_eq_true ab4
            obtain ⟨ad175, e175, hx175_0⟩ := Kd.at_int HR0_2.out x4_3 p175 q175
            have hw175_0 := hx175_0
            obtain rfl : ad174 = ad175 := (by injection e175)
            replace hx175_0 := pc_ HB hx175_0
            replace p175 := eq_true p175
            replace q175 := eq_true q175
            refine start_ (n := 31) (S := fun w' => w'.cell? ⟨gb165, 0, none⟩ = some (.slice A0_0 l0_0.length c0_0) ∧ w'.cell? ⟨gb165, 1, none⟩ = some (.slice A0_1 l0_1.length c0_1) ∧ w'.cell? ⟨gb165, 2, none⟩ = some (.slice (some ad174) l0_2.length c0_2) ∧ w'.cell? ⟨gb165, 3, none⟩ = some (.int .i64 a0_3) ∧ w'.cell? ⟨gb165, 4, none⟩ = some (.int .i64 a0_4) ∧ w'.cell? (ad174.add (x4_3).toNat) = some (.int .i64 (rd l0_2 x4_3)) ∧ w'.cell? (ad174.add (x4_3).toNat) = some (.int .i64 (rd l0_2 x4_3))) (ds := []) #[false, false, false, false, false, false, false, false, false, false, false, false, false, false, false, false, false, false, false, false, false, false, false, false, false, false, false, false, false, false, false] (by kernel_rfl) rfl rfl ⟨(blk_cell BK165.out 0).trans rfl, (blk_cell BK165.out 1).trans rfl, (blk_cell BK165.out 2).trans rfl, (blk_cell BK165.out 3).trans rfl, (blk_cell BK165.out 4).trans rfl, (pc_ HB hw174_0 :), (pc_ HB hw175_0 :)⟩ (fun hHeld => ?_); refine with_tabW spec_PageOk.tab11 spec_PageOk.bits11 (fun HT_ HW_ => ?_)
            generalize wr.drew = w70 at BK165 HB hx174_0 hx175_0 hHeld ⊢
            refine pa_ 0 81 HT_ ?_
            refine pa_ 2 83 HT_ ?_
            refine tk_ 1 82 HT_ HW_ hHeld ?_
            refine pa_ 3 84 HT_ ?_
            refine tk_ 4 85 HT_ HW_ hHeld ?_
            refine pa_ 5 86 HT_ ?_
            refine pa_ 6 87 HT_ ?_
            refine pa_ 7 88 HT_ ?_
            refine pa_ 9 90 HT_ ?_
            refine pa_ 11 92 HT_ ?_
            refine tk_ 8 89 HT_ HW_ hHeld ?_
            refine tk_ 10 91 HT_ HW_ hHeld ?_
            refine pa_ 12 93 HT_ ?_
            refine tk_ 13 94 HT_ HW_ hHeld ?_
            refine on_ 14 95 HT_ fun K hK => ?_
            refine goes_ Try.func38 (by kernel_rfl) rfl #[.slice A0_0 l0_0.length c0_0, .int .i64 (rd l0_2 x4_3), .string (⟨#[]⟩ : ByteArray)] (by rfl) rfl rfl ab5 ?_
            with_reducible refine (spec_l8Tag.calls _ _ l0_0 (rd l0_2 x4_3) (⟨#[]⟩ : ByteArray) false _ ?side1 ?side2 A57.out).mono ?_
            (case side1 => repeat (first | exact (Kd.C_below HR0_0.out HB.out) | (with_reducible refine Kd.C_alloc ?_ _) | (with_reducible refine Kd.C_drewN ?_ _) | (with_reducible refine Kd.C_drew ?_)))
            (case side2 => exact HC0_0.out)
            rintro e w' ⟨rfl, ⟨nd, rfl⟩⟩
            refine ⟨_, rfl, ?_⟩
            refine hK.out _ _ ⟨(blk_cell BK165.out 0).trans rfl, (blk_cell BK165.out 1).trans rfl, (blk_cell BK165.out 2).trans rfl, (blk_cell BK165.out 3).trans rfl, (blk_cell BK165.out 4).trans rfl, (pc_ HB hw174_0 :), (pc_ HB hw175_0 :)⟩ (fun hHeld => ?_)
            clear hK K
            refine nm_ ?_
            refine pa_ 15 96 HT_ ?_
            refine pa_ 16 97 HT_ ?_
            refine pu_ 17 98 HT_ ?_
            refine pu_ 18 99 HT_ ?_
            refine pu_ 19 100 HT_ ?_
            refine pu_ 20 101 HT_ ?_
            refine pu_ 21 102 HT_ ?_
            refine pu_ 22 103 HT_ ?_
            refine pu_ 23 104 HT_ ?_
            refine pu_ 24 105 HT_ ?_
            refine pu_ 25 106 HT_ ?_
            refine pu_ 26 107 HT_ ?_
            refine pu_ 27 108 HT_ ?_
            refine pu_ 28 109 HT_ ?_
            refine pa_ 29 110 HT_ ?_
            refine pa_ 30 111 HT_ ?_
            refine dn_ HT_ ?_
            try go_wp2
            go_ret
            exact ⟨ab7, ab2 GE165⟩
         ·obtain rfl := Option.some.inj H
          obtain ⟨⟨_, _, _, _, _⟩, _, _, _, _, _⟩ := Op.cells5 BK165.out
          go_wp2
          go_ret
          exact ⟨ab7, ab2 GE165⟩
end Go.Proofs.Ytekkalnafngfeaa.P
