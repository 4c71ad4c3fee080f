-- WRITTEN BY hprint.py
import Derived.Test.YthpdpnpojgegiaaGreatDoorPw0
import Derived.Test.YthpdpnpojgegiaaGreatDoorPw8
namespace Go.Proofs.YthpdpnpojgegiaaGreatDoor.P
open Go.RowKit Go.Proofs.YthpdpnpojgegiaaGreatDoorW.PrintWords Go.Proofs.YthpdpnpojgegiaaGreatDoorW.PrintLast Go.Proofs.YthpdpnpojgegiaaGreatDoorW.PrintMore
attribute [local go_sem] max2_int min2_int max_two min_two max_three min_three max_four min_four
set_option linter.unusedVariables false
set_option linter.unusedSimpArgs false
set_option maxHeartbeats 8000000
set_option maxRecDepth 100000

/-! ### spec_l17Said: function 17 -/
mutual
def spec_l17Said.j0 : Nat → ByteArray → Int → Int → ByteArray → List (S62) → ByteArray → List (S31) → Option (ByteArray)
 | 0, _, _, _, _, _, _, _ => none
 | k + 1, x5, x254000, x254001, x254002, x254003, x254004, x254005 => spec_l17Said.l0 k x5 0 x254000 x254001 x254002 x254003 x254004 x254005
def spec_l17Said.l0 : Nat → ByteArray → Int → Int → Int → ByteArray → List (S62) → ByteArray → List (S31) → Option (ByteArray)
 | 0, _, _, _, _, _, _, _, _ => none
 | k + 1, x5, x6, x254000, x254001, x254002, x254003, x254004, x254005 => if x6 < (x254003.length : Int) then (if x5.size + 1 ≤ 9223372036854775807 then (if 0 ≤ x6 then (if (x5 ++ (⟨#[32]⟩ : ByteArray)).size + ((rd_T62 x254003 x6).f0).size ≤ 9223372036854775807 then (if ((x5 ++ (⟨#[32]⟩ : ByteArray)) ++ ((rd_T62 x254003 x6).f0)).size + 2 ≤ 9223372036854775807 then ((spec_Escape.f k ((rd_T62 x254003 x6).f1) true).bind fun t258 => (if (((x5 ++ (⟨#[32]⟩ : ByteArray)) ++ ((rd_T62 x254003 x6).f0)) ++ (⟨#[61, 34]⟩ : ByteArray)).size + t258.size ≤ 9223372036854775807 then (if ((((x5 ++ (⟨#[32]⟩ : ByteArray)) ++ ((rd_T62 x254003 x6).f0)) ++ (⟨#[61, 34]⟩ : ByteArray)) ++ t258).size + 1 ≤ 9223372036854775807 then (spec_l17Said.l0 k (((((x5 ++ (⟨#[32]⟩ : ByteArray)) ++ ((rd_T62 x254003 x6).f0)) ++ (⟨#[61, 34]⟩ : ByteArray)) ++ t258) ++ (⟨#[34]⟩ : ByteArray)) (wrap64 (x6 + 1)) x254000 x254001 x254002 x254003 x254004 x254005) else (none)) else (none))) else (none)) else (none)) else (none)) else (none)) else (if (x254005.length : Int) = 0 then (if x5.size + 2 ≤ 9223372036854775807 then (some (x5 ++ (⟨#[47, 62]⟩ : ByteArray))) else (none)) else (if x5.size + 1 ≤ 9223372036854775807 then (spec_l17Said.l1 k (x5 ++ (⟨#[62]⟩ : ByteArray)) 0 x254000 x254001 x254002 x254003 x254004 x254005) else (none)))
def spec_l17Said.l1 : Nat → ByteArray → Int → Int → Int → ByteArray → List (S62) → ByteArray → List (S31) → Option (ByteArray)
 | 0, _, _, _, _, _, _, _, _ => none
 | k + 1, x5, x7, x254000, x254001, x254002, x254003, x254004, x254005 => if x7 < (x254005.length : Int) then (if 0 ≤ x7 then ((spec_l17Said.f k ((rd_T31 x254005 x7).f0) ((rd_T31 x254005 x7).f1) ((rd_T31 x254005 x7).f2) ((rd_T31 x254005 x7).f3) ((rd_T31 x254005 x7).f4) ((rd_T31 x254005 x7).f5) x254001).bind fun t260 => (if x5.size + t260.size ≤ 9223372036854775807 then (spec_l17Said.l1 k (x5 ++ t260) (wrap64 (x7 + 1)) x254000 x254001 x254002 x254003 x254004 x254005) else (none))) else (none)) else (if x5.size + 2 ≤ 9223372036854775807 then (if (x5 ++ (⟨#[60, 47]⟩ : ByteArray)).size + x254002.size ≤ 9223372036854775807 then (if ((x5 ++ (⟨#[60, 47]⟩ : ByteArray)) ++ x254002).size + 1 ≤ 9223372036854775807 then (some (((x5 ++ (⟨#[60, 47]⟩ : ByteArray)) ++ x254002) ++ (⟨#[62]⟩ : ByteArray))) else (none)) else (none)) else (none))
def spec_l17Said.f : Nat → Int → Int → ByteArray → List (S62) → ByteArray → List (S31) → Int → Option (ByteArray)
 | 0, _, _, _, _, _, _, _ => none
 | k + 1, a0_0, a0_1, a0_2, l0_3, a0_4, l0_5, a1 => if a0_0 = 2 then ((spec_Escape.f k a0_4 false).bind fun t254 => (some t254)) else (if a0_0 = 3 then (if 4 + a0_4.size ≤ 9223372036854775807 then (if ((⟨#[60, 33, 45, 45]⟩ : ByteArray) ++ a0_4).size + 3 ≤ 9223372036854775807 then (some (((⟨#[60, 33, 45, 45]⟩ : ByteArray) ++ a0_4) ++ (⟨#[45, 45, 62]⟩ : ByteArray))) else (none)) else (none)) else (if 1 + a0_2.size ≤ 9223372036854775807 then (if a0_1 = a1 then (spec_l17Said.j0 k ((⟨#[60]⟩ : ByteArray) ++ a0_2) a0_0 a0_1 a0_2 l0_3 a0_4 l0_5) else (if ((⟨#[60]⟩ : ByteArray) ++ a0_2).size + 8 ≤ 9223372036854775807 then ((spec_SpaceName.f a0_1).bind fun t255 => (if (((⟨#[60]⟩ : ByteArray) ++ a0_2) ++ (⟨#[32, 120, 109, 108, 110, 115, 61, 34]⟩ : ByteArray)).size + t255.size ≤ 9223372036854775807 then (if ((((⟨#[60]⟩ : ByteArray) ++ a0_2) ++ (⟨#[32, 120, 109, 108, 110, 115, 61, 34]⟩ : ByteArray)) ++ t255).size + 1 ≤ 9223372036854775807 then (spec_l17Said.j0 k (((((⟨#[60]⟩ : ByteArray) ++ a0_2) ++ (⟨#[32, 120, 109, 108, 110, 115, 61, 34]⟩ : ByteArray)) ++ t255) ++ (⟨#[34]⟩ : ByteArray)) a0_0 a0_1 a0_2 l0_3 a0_4 l0_5) else (none)) else (none))) else (none))) else (none)))
end
theorem spec_l17Said.mono_l : ∀ k, (∀ y0 y1 y2 y3 y4 y5 y6, LeO (spec_l17Said.f k y0 y1 y2 y3 y4 y5 y6) (spec_l17Said.f (k + 1) y0 y1 y2 y3 y4 y5 y6)) ∧ (∀ y0 y1 y2 y3 y4 y5 y6, LeO (spec_l17Said.j0 k y0 y1 y2 y3 y4 y5 y6) (spec_l17Said.j0 (k + 1) y0 y1 y2 y3 y4 y5 y6)) ∧ (∀ y0 y1 y2 y3 y4 y5 y6 y7, LeO (spec_l17Said.l0 k y0 y1 y2 y3 y4 y5 y6 y7) (spec_l17Said.l0 (k + 1) y0 y1 y2 y3 y4 y5 y6 y7)) ∧ (∀ y0 y1 y2 y3 y4 y5 y6 y7, LeO (spec_l17Said.l1 k y0 y1 y2 y3 y4 y5 y6 y7) (spec_l17Said.l1 (k + 1) y0 y1 y2 y3 y4 y5 y6 y7))
 | 0 => ⟨fun _ _ _ _ _ _ _ r h => by simp [spec_l17Said.f] at h, fun _ _ _ _ _ _ _ r h => by simp [spec_l17Said.j0] at h, fun _ _ _ _ _ _ _ _ r h => by simp [spec_l17Said.l0] at h, fun _ _ _ _ _ _ _ _ r h => by simp [spec_l17Said.l1] at h⟩
 | k + 1 => by
  obtain ⟨ih0, ih1, ih2, ih3⟩ := spec_l17Said.mono_l k
  refine ⟨?_, ?_, ?_, ?_⟩
  ·intro y0 y1 y2 y3 y4 y5 y6
   unfold spec_l17Said.f
   repeat' with_reducible first | exact ih0 _ _ _ _ _ _ _ | exact ih1 _ _ _ _ _ _ _ | exact ih2 _ _ _ _ _ _ _ _ | exact ih3 _ _ _ _ _ _ _ _ | exact spec_Escape.mono _ _ _ | exact LeO.refl _ | exact LeO.none _ | refine LeO.ite ?_ ?_ | refine LeO.bind ?_ fun _ => ?_
  ·intro y0 y1 y2 y3 y4 y5 y6
   unfold spec_l17Said.j0
   repeat' with_reducible first | exact ih0 _ _ _ _ _ _ _ | exact ih1 _ _ _ _ _ _ _ | exact ih2 _ _ _ _ _ _ _ _ | exact ih3 _ _ _ _ _ _ _ _ | exact spec_Escape.mono _ _ _ | exact LeO.refl _ | exact LeO.none _ | refine LeO.ite ?_ ?_ | refine LeO.bind ?_ fun _ => ?_
  ·intro y0 y1 y2 y3 y4 y5 y6 y7
   unfold spec_l17Said.l0
   repeat' with_reducible first | exact ih0 _ _ _ _ _ _ _ | exact ih1 _ _ _ _ _ _ _ | exact ih2 _ _ _ _ _ _ _ _ | exact ih3 _ _ _ _ _ _ _ _ | exact spec_Escape.mono _ _ _ | exact LeO.refl _ | exact LeO.none _ | refine LeO.ite ?_ ?_ | refine LeO.bind ?_ fun _ => ?_
  ·intro y0 y1 y2 y3 y4 y5 y6 y7
   unfold spec_l17Said.l1
   repeat' with_reducible first | exact ih0 _ _ _ _ _ _ _ | exact ih1 _ _ _ _ _ _ _ | exact ih2 _ _ _ _ _ _ _ _ | exact ih3 _ _ _ _ _ _ _ _ | exact spec_Escape.mono _ _ _ | exact LeO.refl _ | exact LeO.none _ | refine LeO.ite ?_ ?_ | refine LeO.bind ?_ fun _ => ?_
theorem spec_l17Said.mono : ∀ a0 a1 a2 a3 a4 a5 a6 k, LeO (spec_l17Said.f k a0 a1 a2 a3 a4 a5 a6) (spec_l17Said.f (k + 1) a0 a1 a2 a3 a4 a5 a6) := by
 intro a0 a1 a2 a3 a4 a5 a6 k
 obtain ⟨ih0, ih1, ih2, ih3⟩ := spec_l17Said.mono_l k
 exact ih0 a0 a1 a2 a3 a4 a5 a6
def spec_l17Said.T12 : Bool × List (List Nat × List Nat) := (true, [([], []), ([0], [0]), ([], []), ([2], [2]), ([], []), ([3, 4], [3, 4]), ([5], [5]), ([6], [6]), ([1, 7], [1, 7]), ([8], [8]), ([], []), ([10], [10]), ([], []), ([11, 12], [11, 12]), ([13], [13]), ([14], [14]), ([15], [15]), ([9, 16], [9, 16]), ([17], [17]), ([18, 16, 0, 1, 2, 3, 4, 5, 6, 7, 8, 9, 10, 11, 12, 13, 14, 15, 16, 17, 18], [0, 18])])
def spec_l17Said.B12 : List Nat := [0, 1, 0, 4, 0, 28, 60, 124, 255, 511, 0, 1024, 0, 7168, 15360, 31744, 64512, 131071, 262143, 524287]
theorem spec_l17Said.tab12 : rtab .any (opsOf Tryz.f17 12) = spec_l17Said.T12 := by kernel_rfl
theorem spec_l17Said.bits12 : waitsOk spec_l17Said.T12.2 spec_l17Said.B12 = true := by kernel_rfl
def spec_l17Said.T19 : Bool × List (List Nat × List Nat) := (true, [([], []), ([], []), ([1], [1]), ([], []), ([2, 3], [2, 3]), ([4], [4]), ([], []), ([6], [6]), ([5, 7], [5, 7]), ([0, 8], [0, 8]), ([9, 8, 0, 1, 2, 3, 4, 5, 6, 7, 8, 9], [0, 9])])
def spec_l17Said.B19 : List Nat := [0, 0, 2, 0, 14, 30, 0, 64, 254, 511, 1023]
theorem spec_l17Said.tab19 : rtab .any (opsOf Tryz.f17 19) = spec_l17Said.T19 := by kernel_rfl
theorem spec_l17Said.bits19 : waitsOk spec_l17Said.T19.2 spec_l17Said.B19 = true := by kernel_rfl
theorem spec_l17Said.calls (k : Nat) : ∀ (a0_0 : Int) (a0_1 : Int) (a0_2 : ByteArray) (A0_3 : Option Addr) (c0_3 : Nat) (l0_3 : List (S62)) (a0_4 : ByteArray) (A0_5 : Option Addr) (c0_5 : Nat) (l0_5 : List (S31)) (a1 : Int) (r : ByteArray) (w : World) (hr0_3 : Kd.C k62 w A0_3 l0_3.length l0_3) (hc0_3 : l0_3.length ≤ c0_3) (hr0_5 : Kd.C k31 w A0_5 l0_5.length l0_5) (hc0_5 : l0_5.length ≤ c0_5) (h : spec_l17Said.f k a0_0 a0_1 a0_2 l0_3 a0_4 l0_5 a1 = some r),
  Calls Tryz.prog 17 #[.agg #[.int .i64 a0_0, .int .i64 a0_1, .string a0_2, .slice A0_3 l0_3.length c0_3, .string a0_4, .slice A0_5 l0_5.length c0_5], .int .i64 a1] w fun e w' => e = .returned (.string r) ∧ Below w.heap.size w w' := by
 induction k using Nat.strongRecOn with
 | _ k ih =>
 intro a0_0 a0_1 a0_2 A0_3 c0_3 l0_3 a0_4 A0_5 c0_5 l0_5 a1 r w hr0_3 hc0_3 hr0_5 hc0_5 h
 cases k with
 | zero => exact absurd h (by simp [spec_l17Said.f])
 | succ k =>
 simp only [spec_l17Said.f] at h
 have hu31 := Tryz.underlying31
 have HR0_3 := am hr0_3
 have HC0_3 := am hc0_3
 clear hr0_3 hc0_3
 have HR0_5 := am hr0_5
 have HC0_5 := am hc0_5
 clear hr0_5 hc0_5
 have HB := am (Below.refl w.heap.size w)
 have H : (if a0_0 = 2 then ((spec_Escape.f k a0_4 false).bind fun t254 => (some t254)) else (if a0_0 = 3 then (if 4 + a0_4.size ≤ 9223372036854775807 then (if ((⟨#[60, 33, 45, 45]⟩ : ByteArray) ++ a0_4).size + 3 ≤ 9223372036854775807 then (some (((⟨#[60, 33, 45, 45]⟩ : ByteArray) ++ a0_4) ++ (⟨#[45, 45, 62]⟩ : ByteArray))) else (none)) else (none)) else (if 1 + a0_2.size ≤ 9223372036854775807 then (if a0_1 = a1 then (spec_l17Said.j0 k ((⟨#[60]⟩ : ByteArray) ++ a0_2) a0_0 a0_1 a0_2 l0_3 a0_4 l0_5) else (if ((⟨#[60]⟩ : ByteArray) ++ a0_2).size + 8 ≤ 9223372036854775807 then ((spec_SpaceName.f a0_1).bind fun t255 => (if (((⟨#[60]⟩ : ByteArray) ++ a0_2) ++ (⟨#[32, 120, 109, 108, 110, 115, 61, 34]⟩ : ByteArray)).size + t255.size ≤ 9223372036854775807 then (if ((((⟨#[60]⟩ : ByteArray) ++ a0_2) ++ (⟨#[32, 120, 109, 108, 110, 115, 61, 34]⟩ : ByteArray)) ++ t255).size + 1 ≤ 9223372036854775807 then (spec_l17Said.j0 k (((((⟨#[60]⟩ : ByteArray) ++ a0_2) ++ (⟨#[32, 120, 109, 108, 110, 115, 61, 34]⟩ : ByteArray)) ++ t255) ++ (⟨#[34]⟩ : ByteArray)) a0_0 a0_1 a0_2 l0_3 a0_4 l0_5) else (none)) else (none))) else (none))) else (none)))) = some r := h
 clear h
 replace H := ie_ H; rcases H with ⟨c3b0, c3b1, H⟩ | ⟨c3, c3b0, c3b1, H⟩
 ·replace H := bi_ H; obtain ⟨t254, A4, H⟩ := H
  obtain rfl := Option.some.inj H
  go_enter Tryz.func17, Tryz.ntmps17
  go_wp2_with (first | ((with_reducible refine gd_ 2 ?_); refine bx_ 2 (cs := #[.int .i64 a0_0, .int .i64 a0_1, .string a0_2, .slice A0_3 l0_3.length c0_3, .string a0_4, .slice A0_5 l0_5.length c0_5]) 31 ?_; intro gb253 hg w5 hbox hb; have BK253 := am hbox; have GW253 := ge_ (w := w) hg; have GE253 := ge_ (w := w) hg; replace HB := am (below_step ab1 hb); clear hb hbox hg; obtain ⟨⟨_, _, _, _, _, _⟩, _, _, _, _, _, _⟩ := Op.cells6 BK253.out) | ((with_reducible refine gf_ 30 ?_); refine gc_ Tryz.func30 (spec_Escape.calls k a0_4 false t254 _ A4.out) ?_; rintro w7 hb; replace BK253 := bl_ BK253 hb; replace HB := am (below_step (ab2 GE253) hb); (try clear hb); (try clear hb2); (try clear hk); (try clear hi)))
  go_ret
  exact ⟨ab7, ab2 GE253⟩
 ·replace H := ie_ H; rcases H with ⟨c8b0, c8b1, H⟩ | ⟨c8, c8b0, c8b1, H⟩
  ·by_cases c9 : 4 + a0_4.size ≤ 9223372036854775807
   case neg => rw [if_neg c9] at H; exact absurd H (by simp)
   rw [if_pos c9] at H
   have c9b0 := eq_true c9
   have c9b1 := decide_eq_true c9
   try have c9b2 : (9223372036854775807 < 4 + a0_4.size) = False := eq_false (Nat.not_lt.2 c9)
   by_cases c10 : ((⟨#[60, 33, 45, 45]⟩ : ByteArray) ++ a0_4).size + 3 ≤ 9223372036854775807
   case neg => rw [if_neg c10] at H; exact absurd H (by simp)
   rw [if_pos c10] at H
   have c10b0 := eq_true c10
   have c10b1 := decide_eq_true c10
   try (have c10b5 := c10; simp only [ByteArray.size_append, show (⟨#[60, 33, 45, 45]⟩ : ByteArray).size = 4 from rfl] at c10b5; have c10b6 := eq_false (Nat.not_lt.2 c10b5))
   try have c10b2 : (9223372036854775807 < ((⟨#[60, 33, 45, 45]⟩ : ByteArray) ++ a0_4).size + 3) = False := eq_false (Nat.not_lt.2 c10)
   obtain rfl := Option.some.inj H
   go_enter Tryz.func17, Tryz.ntmps17
   go_wp2_with (first | ((with_reducible refine gd_ 2 ?_); refine bx_ 2 (cs := #[.int .i64 a0_0, .int .i64 a0_1, .string a0_2, .slice A0_3 l0_3.length c0_3, .string a0_4, .slice A0_5 l0_5.length c0_5]) 31 ?_; intro gb253 hg w11 hbox hb; have BK253 := am hbox; have GW253 := ge_ (w := w) hg; have GE253 := ge_ (w := w) hg; replace HB := am (below_step ab1 hb); clear hb hbox hg; obtain ⟨⟨_, _, _, _, _, _⟩, _, _, _, _, _, _⟩ := Op.cells6 BK253.out))
   go_ret
   exact ⟨ab7, ab2 GE253⟩
  ·by_cases c13 : 1 + a0_2.size ≤ 9223372036854775807
   case neg => rw [if_neg c13] at H; exact absurd H (by simp)
   rw [if_pos c13] at H
   have c13b0 := eq_true c13
   have c13b1 := decide_eq_true c13
   try have c13b2 : (9223372036854775807 < 1 + a0_2.size) = False := eq_false (Nat.not_lt.2 c13)
   have HC14 := am H
   clear H
   go_enter Tryz.func17, Tryz.ntmps17
   go_upto_if 27 with (first | ((with_reducible refine gd_ 2 ?_); refine bx_ 2 (cs := #[.int .i64 a0_0, .int .i64 a0_1, .string a0_2, .slice A0_3 l0_3.length c0_3, .string a0_4, .slice A0_5 l0_5.length c0_5]) 31 ?_; intro gb253 hg w15 hbox hb; have BK253 := am hbox; have GW253 := ge_ (w := w) hg; have GE253 := ge_ (w := w) hg; replace HB := am (below_step ab1 hb); clear hb hbox hg; obtain ⟨⟨_, _, _, _, _, _⟩, _, _, _, _, _, _⟩ := Op.cells6 BK253.out))
   (try simp only [Act.put, List.setIfInBounds_toArray, List.set_cons_zero, List.set_cons_succ])
   go_cut [5] (fun v5 wc => ∃ (kq : Nat) (x5_13 : ByteArray), v5 = .string x5_13 ∧ Aside0 (spec_l17Said.j0 kq x5_13 a0_0 a0_1 a0_2 l0_3 a0_4 l0_5 = some r) ∧ Aside0 (kq ≤ k) ∧ Aside0 (wc.heap[gb253]? = some (.cells #[.int .i64 a0_0, .int .i64 a0_1, .string a0_2, (.slice A0_3 l0_3.length c0_3), .string a0_4, (.slice A0_5 l0_5.length c0_5)] 31 (0, 0))) ∧ Aside0 (Below w.heap.size w wc))
   case first =>
    have H := HC14.out
    clear HC14
    replace H := ie_ H; rcases H with ⟨c17b0, c17b1, H⟩ | ⟨c17, c17b0, c17b1, H⟩
    ·(first | rw [c17b0] | (simp only [i64_w, i32_w]; rw [c17b0]) | skip)
     (try (generalize hgzc17 : (a0_1 == a1) = bqc17 at *; subst c17b0; have c17b0 := hgzc17; clear hgzc17))
     have H' := am H
     clear H
     go_wp2
     go_meet
     case rel => exact ⟨_, ((⟨#[60]⟩ : ByteArray) ++ a0_2), ab6, (by first | exact H' | (have h_ := H'.out; rw [c17b0] at h_; exact ⟨h_⟩)), ⟨by first | omega | exact Nat.le_refl _⟩, ⟨ab3 BK253⟩, ⟨ab2 GE253⟩⟩
    ·(first | rw [c17b0] | (simp only [i64_w, i32_w]; rw [c17b0]) | skip)
     (try (generalize hgzc17 : (a0_1 == a1) = bqc17 at *; subst c17b0; have c17b0 := hgzc17; clear hgzc17))
     by_cases c18 : ((⟨#[60]⟩ : ByteArray) ++ a0_2).size + 8 ≤ 9223372036854775807
     case neg => rw [if_neg c18] at H; exact absurd H (by simp)
     rw [if_pos c18] at H
     have c18b0 := eq_true c18
     have c18b1 := decide_eq_true c18
     try (have c18b5 := c18; simp only [ByteArray.size_append, show (⟨#[60]⟩ : ByteArray).size = 1 from rfl] at c18b5; have c18b6 := eq_false (Nat.not_lt.2 c18b5))
     try have c18b2 : (9223372036854775807 < ((⟨#[60]⟩ : ByteArray) ++ a0_2).size + 8) = False := eq_false (Nat.not_lt.2 c18)
     replace H := bi_ H; obtain ⟨t255, A19, H⟩ := H
     replace H : (if (((⟨#[60]⟩ : ByteArray) ++ a0_2) ++ (⟨#[32, 120, 109, 108, 110, 115, 61, 34]⟩ : ByteArray)).size + t255.size ≤ 9223372036854775807 then (if ((((⟨#[60]⟩ : ByteArray) ++ a0_2) ++ (⟨#[32, 120, 109, 108, 110, 115, 61, 34]⟩ : ByteArray)) ++ t255).size + 1 ≤ 9223372036854775807 then (spec_l17Said.j0 k (((((⟨#[60]⟩ : ByteArray) ++ a0_2) ++ (⟨#[32, 120, 109, 108, 110, 115, 61, 34]⟩ : ByteArray)) ++ t255) ++ (⟨#[34]⟩ : ByteArray)) a0_0 a0_1 a0_2 l0_3 a0_4 l0_5) else (none)) else (none)) = some r := by first | exact H | (rw [c17b0]; exact H)
     by_cases c20 : (((⟨#[60]⟩ : ByteArray) ++ a0_2) ++ (⟨#[32, 120, 109, 108, 110, 115, 61, 34]⟩ : ByteArray)).size + t255.size ≤ 9223372036854775807
     case neg => rw [if_neg c20] at H; exact absurd H (by simp)
     rw [if_pos c20] at H
     have c20b0 := eq_true c20
     have c20b1 := decide_eq_true c20
     try (have c20b5 := c20; simp only [ByteArray.size_append, show (⟨#[32, 120, 109, 108, 110, 115, 61, 34]⟩ : ByteArray).size = 8 from rfl, show (⟨#[60]⟩ : ByteArray).size = 1 from rfl] at c20b5; have c20b6 := eq_false (Nat.not_lt.2 c20b5))
     try have c20b2 : (9223372036854775807 < (((⟨#[60]⟩ : ByteArray) ++ a0_2) ++ (⟨#[32, 120, 109, 108, 110, 115, 61, 34]⟩ : ByteArray)).size + t255.size) = False := eq_false (Nat.not_lt.2 c20)
     by_cases c21 : ((((⟨#[60]⟩ : ByteArray) ++ a0_2) ++ (⟨#[32, 120, 109, 108, 110, 115, 61, 34]⟩ : ByteArray)) ++ t255).size + 1 ≤ 9223372036854775807
     case neg => rw [if_neg c21] at H; exact absurd H (by simp)
     rw [if_pos c21] at H
     have c21b0 := eq_true c21
     have c21b1 := decide_eq_true c21
     try (have c21b5 := c21; simp only [ByteArray.size_append, show (⟨#[32, 120, 109, 108, 110, 115, 61, 34]⟩ : ByteArray).size = 8 from rfl, show (⟨#[60]⟩ : ByteArray).size = 1 from rfl] at c21b5; have c21b6 := eq_false (Nat.not_lt.2 c21b5))
     try have c21b2 : (9223372036854775807 < ((((⟨#[60]⟩ : ByteArray) ++ a0_2) ++ (⟨#[32, 120, 109, 108, 110, 115, 61, 34]⟩ : ByteArray)) ++ t255).size + 1) = False := eq_false (Nat.not_lt.2 c21)
     have H' := am H
     clear H
     obtain ⟨⟨_, _, _, _, _, _⟩, _, _, _, _, _, _⟩ := Op.cells6 BK253.out
     go_wp2_with (first | ((with_reducible refine gf_ 31 ?_); refine gc_ Tryz.func31 (spec_SpaceName.calls a0_1 t255 _ A19.out) ?_; rintro w' ⟨nd, rfl⟩))
     go_meet
     case rel => exact ⟨_, (((((⟨#[60]⟩ : ByteArray) ++ a0_2) ++ (⟨#[32, 120, 109, 108, 110, 115, 61, 34]⟩ : ByteArray)) ++ t255) ++ (⟨#[34]⟩ : ByteArray)), ab6, (by first | exact H' | (have h_ := H'.out; rw [c17b0] at h_; exact ⟨h_⟩)), ⟨by first | omega | exact Nat.le_refl _⟩, ⟨ab3 BK253⟩, ⟨ab2 GE253⟩⟩
   case rest =>
    clear HC14
    (try clear c1); (try clear c2); (try clear p2); (try clear c3); (try clear c3b0); (try clear c3b1); (try clear c8); (try clear c8b0); (try clear c8b1); (try clear c9); (try clear c9b0); (try clear c9b1); (try clear c9b2); (try clear c10); (try clear c10b0); (try clear c10b1); (try clear c10b2); (try clear c13); (try clear c13b0); (try clear c13b1); (try clear c13b2); (try clear c17); (try clear c17b0); (try clear c17b1); (try clear c18); (try clear c18b0); (try clear c18b1); (try clear c18b2); (try clear c20); (try clear c20b0); (try clear c20b1); (try clear c20b2); (try clear c21); (try clear c21b0); (try clear c21b1); (try clear c21b2); (try clear hcz12_0); (try clear hcz12_1); (try clear hcz12_2); (try clear hcz12_3); (try clear hcz12_4); (try clear hcz12_5); (try clear hcz16_0); (try clear hcz16_1); (try clear hcz16_2); (try clear hcz16_3); (try clear hcz16_4); (try clear hcz16_5); (try clear hcz22_0); (try clear hcz22_1); (try clear hcz22_2); (try clear hcz22_3); (try clear hcz22_4); (try clear hcz22_5); (try clear hcz6_0); (try clear hcz6_1); (try clear hcz6_2); (try clear hcz6_3); (try clear hcz6_4); (try clear hcz6_5); (try clear hfz12_0); (try clear hfz12_1); (try clear hfz12_2); (try clear hfz12_3); (try clear hfz12_4); (try clear hfz12_5); (try clear hfz16_0); (try clear hfz16_1); (try clear hfz16_2); (try clear hfz16_3); (try clear hfz16_4); (try clear hfz16_5); (try clear hfz22_0); (try clear hfz22_1); (try clear hfz22_2); (try clear hfz22_3); (try clear hfz22_4); (try clear hfz22_5); (try clear hfz6_0); (try clear hfz6_1); (try clear hfz6_2); (try clear hfz6_3); (try clear hfz6_4); (try clear hfz6_5)
    obtain ⟨kq, x5_13, rfl, HA, HJ13, BK253, HB⟩ := hcut
    cases kq with
    | zero => exact absurd HA.out (by simp [spec_l17Said.j0])
    | succ kj13 =>
     have H := HA.out
     clear HA
     simp only [spec_l17Said.j0] at H
     have H' := am H
     clear H
     go_wp2
     go_loopg [5, 6] kj13 (fun kq v5 v6 w' => ∃ (x5_2 : ByteArray) (x6_2 : Int), v5 = .string x5_2 ∧ v6 = .int .i64 x6_2 ∧ Aside0 (spec_l17Said.l0 kq x5_2 x6_2 a0_0 a0_1 a0_2 l0_3 a0_4 l0_5 = some r) ∧ Aside0 (kq ≤ kj13) ∧ Aside0 (w'.heap[gb253]? = some (.cells #[.int .i64 a0_0, .int .i64 a0_1, .string a0_2, (.slice A0_3 l0_3.length c0_3), .string a0_4, (.slice A0_5 l0_5.length c0_5)] 31 (0, 0))) ∧ Aside0 (Below w.heap.size w w'))
     case atStart => exact ⟨(x5_13), (0), ab6, ab6, H', ⟨Nat.le_refl _⟩, ⟨ab3 BK253⟩, ⟨ab2 GE253⟩⟩
     case round =>
      clear H'
      (try clear c1); (try clear c2); (try clear p2); (try clear c3); (try clear c3b0); (try clear c3b1); (try clear c8); (try clear c8b0); (try clear c8b1); (try clear c9); (try clear c9b0); (try clear c9b1); (try clear c9b2); (try clear c10); (try clear c10b0); (try clear c10b1); (try clear c10b2); (try clear c13); (try clear c13b0); (try clear c13b1); (try clear c13b2); (try clear c17); (try clear c17b0); (try clear c17b1); (try clear c18); (try clear c18b0); (try clear c18b1); (try clear c18b2); (try clear c20); (try clear c20b0); (try clear c20b1); (try clear c20b2); (try clear c21); (try clear c21b0); (try clear c21b1); (try clear c21b2); (try clear hcz12_0); (try clear hcz12_1); (try clear hcz12_2); (try clear hcz12_3); (try clear hcz12_4); (try clear hcz12_5); (try clear hcz16_0); (try clear hcz16_1); (try clear hcz16_2); (try clear hcz16_3); (try clear hcz16_4); (try clear hcz16_5); (try clear hcz22_0); (try clear hcz22_1); (try clear hcz22_2); (try clear hcz22_3); (try clear hcz22_4); (try clear hcz22_5); (try clear hcz6_0); (try clear hcz6_1); (try clear hcz6_2); (try clear hcz6_3); (try clear hcz6_4); (try clear hcz6_5); (try clear hfz12_0); (try clear hfz12_1); (try clear hfz12_2); (try clear hfz12_3); (try clear hfz12_4); (try clear hfz12_5); (try clear hfz16_0); (try clear hfz16_1); (try clear hfz16_2); (try clear hfz16_3); (try clear hfz16_4); (try clear hfz16_5); (try clear hfz22_0); (try clear hfz22_1); (try clear hfz22_2); (try clear hfz22_3); (try clear hfz22_4); (try clear hfz22_5); (try clear hfz6_0); (try clear hfz6_1); (try clear hfz6_2); (try clear hfz6_3); (try clear hfz6_4); (try clear hfz6_5); (try clear p2)
      obtain ⟨x5_2, x6_2, rfl, rfl, HA, HK2, BK253, HB⟩ := hrel
      cases gk with
      | zero => exact absurd HA.out (by simp [spec_l17Said.l0])
      | succ k2 =>
       have H := HA.out
       clear HA
       simp only [spec_l17Said.l0] at H
       replace H := ir_ H; rcases H with ⟨c23b0, H⟩ | ⟨c23b0, H⟩
       ·by_cases c24 : x5_2.size + 1 ≤ 9223372036854775807
        case neg => rw [if_neg c24] at H; exact absurd H (by simp)
        rw [if_pos c24] at H
        have c24b0 := eq_true c24
        have c24b1 := decide_eq_true c24
        try have c24b2 : (9223372036854775807 < x5_2.size + 1) = False := eq_false (Nat.not_lt.2 c24)
        replace H := iq_ H; obtain ⟨c25b0, H⟩ := H
        by_cases c26 : (x5_2 ++ (⟨#[32]⟩ : ByteArray)).size + ((rd_T62 l0_3 x6_2).f0).size ≤ 9223372036854775807
        case neg => rw [if_neg c26] at H; exact absurd H (by simp)
        rw [if_pos c26] at H
        have c26b0 := eq_true c26
        have c26b1 := decide_eq_true c26
        try (have c26b5 := c26; simp only [ByteArray.size_append, show (⟨#[32]⟩ : ByteArray).size = 1 from rfl] at c26b5; have c26b6 := eq_false (Nat.not_lt.2 c26b5))
        try have c26b2 : (9223372036854775807 < (x5_2 ++ (⟨#[32]⟩ : ByteArray)).size + ((rd_T62 l0_3 x6_2).f0).size) = False := eq_false (Nat.not_lt.2 c26)
        by_cases c27 : ((x5_2 ++ (⟨#[32]⟩ : ByteArray)) ++ ((rd_T62 l0_3 x6_2).f0)).size + 2 ≤ 9223372036854775807
        case neg => rw [if_neg c27] at H; exact absurd H (by simp)
        rw [if_pos c27] at H
        have c27b0 := eq_true c27
        have c27b1 := decide_eq_true c27
        try (have c27b5 := c27; simp only [ByteArray.size_append, show (⟨#[32]⟩ : ByteArray).size = 1 from rfl] at c27b5; have c27b6 := eq_false (Nat.not_lt.2 c27b5))
        try have c27b2 : (9223372036854775807 < ((x5_2 ++ (⟨#[32]⟩ : ByteArray)) ++ ((rd_T62 l0_3 x6_2).f0)).size + 2) = False := eq_false (Nat.not_lt.2 c27)
        replace H := bi_ H; obtain ⟨t258, A28, H⟩ := H
        by_cases c29 : (((x5_2 ++ (⟨#[32]⟩ : ByteArray)) ++ ((rd_T62 l0_3 x6_2).f0)) ++ (⟨#[61, 34]⟩ : ByteArray)).size + t258.size ≤ 9223372036854775807
        case neg => rw [if_neg c29] at H; exact absurd H (by simp)
        rw [if_pos c29] at H
        have c29b0 := eq_true c29
        have c29b1 := decide_eq_true c29
        try (have c29b5 := c29; simp only [ByteArray.size_append, show (⟨#[32]⟩ : ByteArray).size = 1 from rfl, show (⟨#[61, 34]⟩ : ByteArray).size = 2 from rfl] at c29b5; have c29b6 := eq_false (Nat.not_lt.2 c29b5))
        try have c29b2 : (9223372036854775807 < (((x5_2 ++ (⟨#[32]⟩ : ByteArray)) ++ ((rd_T62 l0_3 x6_2).f0)) ++ (⟨#[61, 34]⟩ : ByteArray)).size + t258.size) = False := eq_false (Nat.not_lt.2 c29)
        by_cases c30 : ((((x5_2 ++ (⟨#[32]⟩ : ByteArray)) ++ ((rd_T62 l0_3 x6_2).f0)) ++ (⟨#[61, 34]⟩ : ByteArray)) ++ t258).size + 1 ≤ 9223372036854775807
        case neg => rw [if_neg c30] at H; exact absurd H (by simp)
        rw [if_pos c30] at H
        have c30b0 := eq_true c30
        have c30b1 := decide_eq_true c30
        try (have c30b5 := c30; simp only [ByteArray.size_append, show (⟨#[32]⟩ : ByteArray).size = 1 from rfl, show (⟨#[61, 34]⟩ : ByteArray).size = 2 from rfl] at c30b5; have c30b6 := eq_false (Nat.not_lt.2 c30b5))
        try have c30b2 : (9223372036854775807 < ((((x5_2 ++ (⟨#[32]⟩ : ByteArray)) ++ ((rd_T62 l0_3 x6_2).f0)) ++ (⟨#[61, 34]⟩ : ByteArray)) ++ t258).size + 1) = False := eq_false (Nat.not_lt.2 c30)
        have H' := am H
        clear H
        obtain ⟨⟨_, _, _, _, _, _⟩, _, _, _, _, _, _⟩ := Op.cells6 BK253.out
        try go_wp2
        replace BK253 := am (blk_drew BK253.out)
        replace HB := am (below_drew1 HB.out)
        have p256 : 0 ≤ (x6_2 : Int) := of_decide_eq_true ab4
        have q256 : x6_2 < (l0_3.length : Int) := of_decide_eq_true ab4
        obtain ⟨ad256, e256, hx256_0, hx256_1⟩ := at_T62 HR0_3.out x6_2 p256 q256
        have hw256_1 := hx256_1
        have hw256_0 := hx256_0
        cases e256
        replace hx256_0 := pc_ HB hx256_0
        replace hx256_1 := pc_ HB hx256_1
        replace p256 := eq_true p256
        replace q256 := eq_true q256
        have p257 : 0 ≤ (x6_2 : Int) := of_decide_eq_true ab4
        have q257 : x6_2 < (l0_3.length : Int) := of_decide_eq_true ab4
        obtain ⟨ad257, e257, hx257_0, hx257_1⟩ := at_T62 HR0_3.out x6_2 p257 q257
        have hw257_1 := hx257_1
        have hw257_0 := hx257_0
        obtain rfl : ad256 = ad257 := (by injection e257)
        replace hx257_0 := pc_ HB hx257_0
        replace hx257_1 := pc_ HB hx257_1
        replace p257 := eq_true p257
        replace q257 := eq_true q257
        refine start_ (n := 20) (S := fun w' => w'.cell? ⟨gb253, 0, none⟩ = some (.int .i64 a0_0) ∧ w'.cell? ⟨gb253, 1, none⟩ = some (.int .i64 a0_1) ∧ w'.cell? ⟨gb253, 2, none⟩ = some (.string a0_2) ∧ w'.cell? ⟨gb253, 3, none⟩ = some (.slice (some ad256) l0_3.length c0_3) ∧ w'.cell? ⟨gb253, 4, none⟩ = some (.string a0_4) ∧ w'.cell? ⟨gb253, 5, none⟩ = some (.slice A0_5 l0_5.length c0_5) ∧ w'.cell? (ad256.add ((x6_2).toNat * 2)) = some (.string ((rd_T62 l0_3 x6_2).f0)) ∧ w'.cell? ⟨(ad256.add ((x6_2).toNat * 2)).block, (ad256.add ((x6_2).toNat * 2)).off + 1, none⟩ = some (.string ((rd_T62 l0_3 x6_2).f1)) ∧ w'.cell? (ad256.add ((x6_2).toNat * 2)) = some (.string ((rd_T62 l0_3 x6_2).f0)) ∧ w'.cell? ⟨(ad256.add ((x6_2).toNat * 2)).block, (ad256.add ((x6_2).toNat * 2)).off + 1, none⟩ = some (.string ((rd_T62 l0_3 x6_2).f1))) (ds := []) #[false, false, false, false, false, false, false, false, false, false, false, false, false, false, false, false, false, false, false, false] (by kernel_rfl) rfl rfl ⟨(blk_cell BK253.out 0).trans rfl, (blk_cell BK253.out 1).trans rfl, (blk_cell BK253.out 2).trans rfl, (blk_cell BK253.out 3).trans rfl, (blk_cell BK253.out 4).trans rfl, (blk_cell BK253.out 5).trans rfl, (pc_ HB hw256_0 :), (pc_ HB hw256_1 :), (pc_ HB hw257_0 :), (pc_ HB hw257_1 :)⟩ (fun hHeld => ?_); refine with_tabW spec_l17Said.tab12 spec_l17Said.bits12 (fun HT_ HW_ => ?_)
        generalize wr.drew = w32 at BK253 HB hx256_0 hx256_1 hx257_0 hx257_1 hHeld ⊢
        refine pa_ 0 42 HT_ ?_
        refine pa_ 1 43 HT_ ?_
        refine pa_ 2 44 HT_ ?_
        refine pa_ 4 46 HT_ ?_
        refine pa_ 10 52 HT_ ?_
        refine pa_ 12 54 HT_ ?_
        refine tk_ 3 45 HT_ HW_ hHeld ?_
        refine pa_ 5 47 HT_ ?_
        refine pa_ 6 48 HT_ ?_
        refine tk_ 7 49 HT_ HW_ hHeld ?_
        refine pa_ 8 50 HT_ ?_
        refine pa_ 9 51 HT_ ?_
        refine tk_ 11 53 HT_ HW_ hHeld ?_
        refine pa_ 13 55 HT_ ?_
        refine pa_ 14 56 HT_ ?_
        refine tk_ 15 57 HT_ HW_ hHeld ?_
        refine on_ 16 58 HT_ fun K hK => ?_
        refine goes_ Tryz.func30 (by kernel_rfl) rfl #[.string ((rd_T62 l0_3 x6_2).f1), .bool true] (by rfl) rfl rfl ab5 ?_
        with_reducible refine (spec_Escape.calls k2 ((rd_T62 l0_3 x6_2).f1) true t258 _ A28.out).mono ?_
        rintro e w33 ⟨rfl, hb⟩
        refine ⟨_, rfl, ?_⟩
        replace BK253 := bl_ BK253 hb
        replace HB := am (below_step (ab2 GE253) hb)
        (try clear hb)
        (try clear hb2)
        (try clear hk)
        (try clear hi)
        refine hK.out _ _ ⟨(blk_cell BK253.out 0).trans rfl, (blk_cell BK253.out 1).trans rfl, (blk_cell BK253.out 2).trans rfl, (blk_cell BK253.out 3).trans rfl, (blk_cell BK253.out 4).trans rfl, (blk_cell BK253.out 5).trans rfl, (pc_ HB hw256_0 :), (pc_ HB hw256_1 :), (pc_ HB hw257_0 :), (pc_ HB hw257_1 :)⟩ (fun hHeld => ?_)
        clear hK K
        refine nm_ ?_
        refine pa_ 17 59 HT_ ?_
        refine pa_ 18 60 HT_ ?_
        refine pa_ 19 5 HT_ ?_
        refine dn_ HT_ ?_
        try go_wp2
        go_roundg k2
        case measure => have := HJ13.out; have := HK2.out; omega
        case rel => exact ⟨(((((x5_2 ++ (⟨#[32]⟩ : ByteArray)) ++ ((rd_T62 l0_3 x6_2).f0)) ++ (⟨#[61, 34]⟩ : ByteArray)) ++ t258) ++ (⟨#[34]⟩ : ByteArray)), (wrap64 (x6_2 + 1)), ab6, ab6, H', ⟨by have := HJ13.out; have := HK2.out; omega⟩, ⟨ab3 BK253⟩, ⟨ab2 GE253⟩⟩
       ·replace H := ie_ H; rcases H with ⟨c34b0, c34b1, H⟩ | ⟨c34, c34b0, c34b1, H⟩
        ·by_cases c35 : x5_2.size + 2 ≤ 9223372036854775807
         case neg => rw [if_neg c35] at H; exact absurd H (by simp)
         rw [if_pos c35] at H
         have c35b0 := eq_true c35
         have c35b1 := decide_eq_true c35
         try have c35b2 : (9223372036854775807 < x5_2.size + 2) = False := eq_false (Nat.not_lt.2 c35)
         obtain rfl := Option.some.inj H
         obtain ⟨⟨_, _, _, _, _, _⟩, _, _, _, _, _, _⟩ := Op.cells6 BK253.out
         go_wp2
         go_ret
         exact ⟨ab7, ab2 GE253⟩
        ·have c34b2 : ¬ (l0_5 = []) := fun h_ => c34 (by rw [h_]; rfl)
         by_cases c37 : x5_2.size + 1 ≤ 9223372036854775807
         case neg => rw [if_neg c37] at H; exact absurd H (by simp)
         rw [if_pos c37] at H
         have c37b0 := eq_true c37
         have c37b1 := decide_eq_true c37
         try have c37b2 : (9223372036854775807 < x5_2.size + 1) = False := eq_false (Nat.not_lt.2 c37)
         have H' := am H
         clear H
         obtain ⟨⟨_, _, _, _, _, _⟩, _, _, _, _, _, _⟩ := Op.cells6 BK253.out
         go_wp2
         go_loopg [5, 7] k2 (fun kq v5 v7 w' => ∃ (x5_3 : ByteArray) (x7_3 : Int), v5 = .string x5_3 ∧ v7 = .int .i64 x7_3 ∧ Aside0 (spec_l17Said.l1 kq x5_3 x7_3 a0_0 a0_1 a0_2 l0_3 a0_4 l0_5 = some r) ∧ Aside0 (kq ≤ k2) ∧ Aside0 (w'.heap[gb253]? = some (.cells #[.int .i64 a0_0, .int .i64 a0_1, .string a0_2, (.slice A0_3 l0_3.length c0_3), .string a0_4, (.slice A0_5 l0_5.length c0_5)] 31 (0, 0))) ∧ Aside0 (Below w.heap.size w w'))
         case atStart => exact ⟨(x5_2 ++ (⟨#[62]⟩ : ByteArray)), (0), ab6, ab6, H', ⟨Nat.le_refl _⟩, ⟨ab3 BK253⟩, ⟨ab2 GE253⟩⟩
         case round =>
          clear H'
          (try clear c1); (try clear c2); (try clear p2); (try clear q2); (try clear hx2); (try clear c3); (try clear c3b0); (try clear c3b1); (try clear p6); (try clear c8); (try clear c8b0); (try clear c8b1); (try clear c9); (try clear c9b0); (try clear c9b1); (try clear c9b2); (try clear c10); (try clear c10b0); (try clear c10b1); (try clear c10b2); (try clear c13); (try clear c13b0); (try clear c13b1); (try clear c13b2); (try clear c17); (try clear c17b0); (try clear c17b1); (try clear c18); (try clear c18b0); (try clear c18b1); (try clear c18b2); (try clear c20); (try clear c20b0); (try clear c20b1); (try clear c20b2); (try clear c21); (try clear c21b0); (try clear c21b1); (try clear c21b2); (try clear c23); (try clear c23b0); (try clear c24); (try clear c24b0); (try clear c24b1); (try clear c24b2); (try clear c25); (try clear c25b0); (try clear p25); (try clear q25); (try clear hx25); (try clear c26); (try clear c26b0); (try clear c26b1); (try clear c26b2); (try clear c27); (try clear c27b0); (try clear c27b1); (try clear c27b2); (try clear c29); (try clear c29b0); (try clear c29b1); (try clear c29b2); (try clear c30); (try clear c30b0); (try clear c30b1); (try clear c30b2); (try clear c31); (try clear c34); (try clear c34b0); (try clear c34b1); (try clear c34b2); (try clear c35); (try clear c35b0); (try clear c35b1); (try clear c35b2); (try clear c37); (try clear c37b0); (try clear c37b1); (try clear c37b2); (try clear hcz12_0); (try clear hcz12_1); (try clear hcz12_2); (try clear hcz12_3); (try clear hcz12_4); (try clear hcz12_5); (try clear hcz16_0); (try clear hcz16_1); (try clear hcz16_2); (try clear hcz16_3); (try clear hcz16_4); (try clear hcz16_5); (try clear hcz22_0); (try clear hcz22_1); (try clear hcz22_2); (try clear hcz22_3); (try clear hcz22_4); (try clear hcz22_5); (try clear hcz31_0); (try clear hcz31_1); (try clear hcz31_2); (try clear hcz31_3); (try clear hcz31_4); (try clear hcz31_5); (try clear hcz36_0); (try clear hcz36_1); (try clear hcz36_2); (try clear hcz36_3); (try clear hcz36_4); (try clear hcz36_5); (try clear hcz38_0); (try clear hcz38_1); (try clear hcz38_2); (try clear hcz38_3); (try clear hcz38_4); (try clear hcz38_5); (try clear hcz6_0); (try clear hcz6_1); (try clear hcz6_2); (try clear hcz6_3); (try clear hcz6_4); (try clear hcz6_5); (try clear hfz12_0); (try clear hfz12_1); (try clear hfz12_2); (try clear hfz12_3); (try clear hfz12_4); (try clear hfz12_5); (try clear hfz16_0); (try clear hfz16_1); (try clear hfz16_2); (try clear hfz16_3); (try clear hfz16_4); (try clear hfz16_5); (try clear hfz22_0); (try clear hfz22_1); (try clear hfz22_2); (try clear hfz22_3); (try clear hfz22_4); (try clear hfz22_5); (try clear hfz31_0); (try clear hfz31_1); (try clear hfz31_2); (try clear hfz31_3); (try clear hfz31_4); (try clear hfz31_5); (try clear hfz36_0); (try clear hfz36_1); (try clear hfz36_2); (try clear hfz36_3); (try clear hfz36_4); (try clear hfz36_5); (try clear hfz38_0); (try clear hfz38_1); (try clear hfz38_2); (try clear hfz38_3); (try clear hfz38_4); (try clear hfz38_5); (try clear hfz6_0); (try clear hfz6_1); (try clear hfz6_2); (try clear hfz6_3); (try clear hfz6_4); (try clear hfz6_5); (try clear hx256_0); (try clear hx256_1); (try clear hx257_0); (try clear hx257_1); (try clear p2); (try clear p256); (try clear p257); (try clear q256); (try clear q257)
          obtain ⟨x5_3, x7_3, rfl, rfl, HA, HK3, BK253, HB⟩ := hrel
          cases gk with
          | zero => exact absurd HA.out (by simp [spec_l17Said.l1])
          | succ k3 =>
           have H := HA.out
           clear HA
           simp only [spec_l17Said.l1] at H
           replace H := ir_ H; rcases H with ⟨c39b0, H⟩ | ⟨c39b0, H⟩
           ·replace H := iq_ H; obtain ⟨c40b0, H⟩ := H
            replace H := bi_ H; obtain ⟨t260, A41, H⟩ := H
            by_cases c42 : x5_3.size + t260.size ≤ 9223372036854775807
            case neg => rw [if_neg c42] at H; exact absurd H (by simp)
            rw [if_pos c42] at H
            have c42b0 := eq_true c42
            have c42b1 := decide_eq_true c42
            try have c42b2 : (9223372036854775807 < x5_3.size + t260.size) = False := eq_false (Nat.not_lt.2 c42)
            have H' := am H
            clear H
            obtain ⟨⟨_, _, _, _, _, _⟩, _, _, _, _, _, _⟩ := Op.cells6 BK253.out
            try go_wp2
            replace BK253 := am (blk_drew BK253.out)
            replace HB := am (below_drew1 HB.out)
            have p259 : 0 ≤ (x7_3 : Int) := of_decide_eq_true ab4
            have q259 : x7_3 < (l0_5.length : Int) := of_decide_eq_true ab4
            obtain ⟨ad259, A259_3, c259_3, A259_5, c259_5, e259, hx259_0, hx259_1, hx259_2, hx259_3, hx259_4, hx259_5, hl259_3, hi259_3, hl259_5, hi259_5⟩ := at_T31 HR0_5.out x7_3 p259 q259
            have hw259_5 := hx259_5
            have hw259_4 := hx259_4
            have hw259_3 := hx259_3
            have hw259_2 := hx259_2
            have hw259_1 := hx259_1
            have hw259_0 := hx259_0
            cases e259
            replace hx259_0 := pc_ HB hx259_0
            replace hx259_1 := pc_ HB hx259_1
            replace hx259_2 := pc_ HB hx259_2
            replace hx259_3 := pc_ HB hx259_3
            replace hx259_4 := pc_ HB hx259_4
            replace hx259_5 := pc_ HB hx259_5
            have HR259_3 := am hi259_3
            have HC259_3 := am hl259_3
            clear hi259_3 hl259_3
            have HR259_5 := am hi259_5
            have HC259_5 := am hl259_5
            clear hi259_5 hl259_5
            replace p259 := eq_true p259
            replace q259 := eq_true q259
            refine start_ (n := 11) (S := fun w' => w'.cell? ⟨gb253, 0, none⟩ = some (.int .i64 a0_0) ∧ w'.cell? ⟨gb253, 1, none⟩ = some (.int .i64 a0_1) ∧ w'.cell? ⟨gb253, 2, none⟩ = some (.string a0_2) ∧ w'.cell? ⟨gb253, 3, none⟩ = some (.slice A0_3 l0_3.length c0_3) ∧ w'.cell? ⟨gb253, 4, none⟩ = some (.string a0_4) ∧ w'.cell? ⟨gb253, 5, none⟩ = some (.slice (some ad259) l0_5.length c0_5) ∧ w'.cell? (ad259.add ((x7_3).toNat * 6)) = some (.int .i64 ((rd_T31 l0_5 x7_3).f0)) ∧ w'.cell? ⟨(ad259.add ((x7_3).toNat * 6)).block, (ad259.add ((x7_3).toNat * 6)).off + 1, none⟩ = some (.int .i64 ((rd_T31 l0_5 x7_3).f1)) ∧ w'.cell? ⟨(ad259.add ((x7_3).toNat * 6)).block, (ad259.add ((x7_3).toNat * 6)).off + 2, none⟩ = some (.string ((rd_T31 l0_5 x7_3).f2)) ∧ w'.cell? ⟨(ad259.add ((x7_3).toNat * 6)).block, (ad259.add ((x7_3).toNat * 6)).off + 3, none⟩ = some (.slice A259_3 ((rd_T31 l0_5 x7_3).f3).length c259_3) ∧ w'.cell? ⟨(ad259.add ((x7_3).toNat * 6)).block, (ad259.add ((x7_3).toNat * 6)).off + 4, none⟩ = some (.string ((rd_T31 l0_5 x7_3).f4)) ∧ w'.cell? ⟨(ad259.add ((x7_3).toNat * 6)).block, (ad259.add ((x7_3).toNat * 6)).off + 5, none⟩ = some (.slice A259_5 ((rd_T31 l0_5 x7_3).f5).length c259_5)) (ds := []) #[false, false, false, false, false, false, false, false, false, false, false] (by kernel_rfl) rfl rfl ⟨(blk_cell BK253.out 0).trans rfl, (blk_cell BK253.out 1).trans rfl, (blk_cell BK253.out 2).trans rfl, (blk_cell BK253.out 3).trans rfl, (blk_cell BK253.out 4).trans rfl, (blk_cell BK253.out 5).trans rfl, (pc_ HB hw259_0 :), (pc_ HB hw259_1 :), (pc_ HB hw259_2 :), (pc_ HB hw259_3 :), (pc_ HB hw259_4 :), (pc_ HB hw259_5 :)⟩ (fun hHeld => ?_); refine with_tabW spec_l17Said.tab19 spec_l17Said.bits19 (fun HT_ HW_ => ?_)
            generalize wr.drew = w44 at BK253 HB HR259_3 HR259_5 hx259_0 hx259_1 hx259_2 hx259_3 hx259_4 hx259_5 hHeld ⊢
            refine pa_ 0 76 HT_ ?_
            refine pa_ 1 77 HT_ ?_
            refine pa_ 3 79 HT_ ?_
            refine pa_ 6 82 HT_ ?_
            refine tk_ 2 78 HT_ HW_ hHeld ?_
            refine pa_ 4 80 HT_ ?_
            refine tk_ 5 81 HT_ HW_ hHeld ?_
            refine tk_ 7 83 HT_ HW_ hHeld ?_
            refine on_ 8 84 HT_ fun K hK => ?_
            refine goes_ Tryz.func17 (by kernel_rfl) rfl #[.agg #[.int .i64 ((rd_T31 l0_5 x7_3).f0), .int .i64 ((rd_T31 l0_5 x7_3).f1), .string ((rd_T31 l0_5 x7_3).f2), .slice A259_3 ((rd_T31 l0_5 x7_3).f3).length c259_3, .string ((rd_T31 l0_5 x7_3).f4), .slice A259_5 ((rd_T31 l0_5 x7_3).f5).length c259_5], .int .i64 a0_1] (by rfl) rfl rfl ab5 ?_
            with_reducible refine (ih k3 (by have := HJ13.out; have := HK2.out; have := HK3.out; omega) ((rd_T31 l0_5 x7_3).f0) ((rd_T31 l0_5 x7_3).f1) ((rd_T31 l0_5 x7_3).f2) _ _ ((rd_T31 l0_5 x7_3).f3) ((rd_T31 l0_5 x7_3).f4) _ _ ((rd_T31 l0_5 x7_3).f5) a0_1 t260 _ ?side1 ?side2 ?side3 ?side4 A41.out).mono ?_
            (case side1 => repeat (first | exact (Kd.C_below HR259_3.out HB.out) | (with_reducible refine Kd.C_alloc ?_ _) | (with_reducible refine Kd.C_drewN ?_ _) | (with_reducible refine Kd.C_drew ?_)))
            (case side2 => exact HC259_3.out)
            (case side3 => repeat (first | exact (Kd.C_below HR259_5.out HB.out) | (with_reducible refine Kd.C_alloc ?_ _) | (with_reducible refine Kd.C_drewN ?_ _) | (with_reducible refine Kd.C_drew ?_)))
            (case side4 => exact HC259_5.out)
            rintro e w45 ⟨rfl, hb⟩
            refine ⟨_, rfl, ?_⟩
            replace BK253 := bl_ BK253 hb
            replace HB := am (below_step (ab2 GE253) hb)
            (try clear hb)
            (try clear hb2)
            (try clear hk)
            (try clear hi)
            refine hK.out _ _ ⟨(blk_cell BK253.out 0).trans rfl, (blk_cell BK253.out 1).trans rfl, (blk_cell BK253.out 2).trans rfl, (blk_cell BK253.out 3).trans rfl, (blk_cell BK253.out 4).trans rfl, (blk_cell BK253.out 5).trans rfl, (pc_ HB hw259_0 :), (pc_ HB hw259_1 :), (pc_ HB hw259_2 :), (pc_ HB hw259_3 :), (pc_ HB hw259_4 :), (pc_ HB hw259_5 :)⟩ (fun hHeld => ?_)
            clear hK K
            refine nm_ ?_
            refine pa_ 9 85 HT_ ?_
            refine pa_ 10 5 HT_ ?_
            refine dn_ HT_ ?_
            try go_wp2
            go_roundg k3
            case measure => have := HJ13.out; have := HK2.out; have := HK3.out; omega
            case rel => exact ⟨(x5_3 ++ t260), (wrap64 (x7_3 + 1)), ab6, ab6, H', ⟨by have := HJ13.out; have := HK2.out; have := HK3.out; omega⟩, ⟨ab3 BK253⟩, ⟨ab2 GE253⟩⟩
           ·by_cases c46 : x5_3.size + 2 ≤ 9223372036854775807
            case neg => rw [if_neg c46] at H; exact absurd H (by simp)
            rw [if_pos c46] at H
            have c46b0 := eq_true c46
            have c46b1 := decide_eq_true c46
            try have c46b2 : (9223372036854775807 < x5_3.size + 2) = False := eq_false (Nat.not_lt.2 c46)
            by_cases c47 : (x5_3 ++ (⟨#[60, 47]⟩ : ByteArray)).size + a0_2.size ≤ 9223372036854775807
            case neg => rw [if_neg c47] at H; exact absurd H (by simp)
            rw [if_pos c47] at H
            have c47b0 := eq_true c47
            have c47b1 := decide_eq_true c47
            try (have c47b5 := c47; simp only [ByteArray.size_append, show (⟨#[60, 47]⟩ : ByteArray).size = 2 from rfl] at c47b5; have c47b6 := eq_false (Nat.not_lt.2 c47b5))
            try have c47b2 : (9223372036854775807 < (x5_3 ++ (⟨#[60, 47]⟩ : ByteArray)).size + a0_2.size) = False := eq_false (Nat.not_lt.2 c47)
            by_cases c48 : ((x5_3 ++ (⟨#[60, 47]⟩ : ByteArray)) ++ a0_2).size + 1 ≤ 9223372036854775807
            case neg => rw [if_neg c48] at H; exact absurd H (by simp)
            rw [if_pos c48] at H
            have c48b0 := eq_true c48
            have c48b1 := decide_eq_true c48
            try (have c48b5 := c48; simp only [ByteArray.size_append, show (⟨#[60, 47]⟩ : ByteArray).size = 2 from rfl] at c48b5; have c48b6 := eq_false (Nat.not_lt.2 c48b5))
            try have c48b2 : (9223372036854775807 < ((x5_3 ++ (⟨#[60, 47]⟩ : ByteArray)) ++ a0_2).size + 1) = False := eq_false (Nat.not_lt.2 c48)
            obtain rfl := Option.some.inj H
            obtain ⟨⟨_, _, _, _, _, _⟩, _, _, _, _, _, _⟩ := Op.cells6 BK253.out
            go_wp2
            go_ret
            exact ⟨ab7, ab2 GE253⟩

end Go.Proofs.YthpdpnpojgegiaaGreatDoor.P
