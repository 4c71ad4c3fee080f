-- WRITTEN BY hprint.py, this session's own program, over the kit's printer: not typed by hand; Lean checks it
import Derived.Test.YtgljgbkbjlondaaDoorPp0
import Derived.Test.YtgljgbkbjlondaaDoorPp4
import Derived.Test.YtgljgbkbjlondaaDoorPp5
namespace Go.Proofs.YtgljgbkbjlondaaDoor.P
open Go.RowKit Go.Proofs.YtgljgbkbjlondaaDoorW.PrintWords Go.Proofs.YtgljgbkbjlondaaDoorW.PrintLast Go.Proofs.YtgljgbkbjlondaaDoorW.PrintMore
attribute [local go_sem] max2_int min2_int max_two min_two max_three min_three max_four min_four   -- for this text's walks alone
set_option linter.unusedVariables false
set_option linter.unusedSimpArgs false

/-! ### spec_l11Said: function 75 -/
mutual
def spec_l11Said.j1 : Nat → List (S90) → ByteArray → Int → Int → ByteArray → List (S114) → ByteArray → Int → List Int → Option (ByteArray)
 | 0, _, _, _, _, _, _, _, _, _ => none
 | k + 1, x0, x8, x172000, x172001, x172002, x172003, x172004, x172005, x172006 => spec_l11Said.l1 k x0 x8 0 x172000 x172001 x172002 x172003 x172004 x172005 x172006
def spec_l11Said.l1 : Nat → List (S90) → ByteArray → Int → Int → Int → ByteArray → List (S114) → ByteArray → Int → List Int → Option (ByteArray)
 | 0, _, _, _, _, _, _, _, _, _, _ => none
 | k + 1, x0, x8, x10, x172000, x172001, x172002, x172003, x172004, x172005, x172006 => if x10 < (x172006.length : Int) then (if 0 ≤ x10 then (if x172002.toList = ([115, 99, 114, 105, 112, 116] : List UInt8) then ((spec_l11Said.f k x0 (rd x172006 x10) true).bind fun t183 => (if x8.size + t183.size ≤ 9223372036854775807 then (spec_l11Said.l1 k x0 (x8 ++ t183) (wrap64 (x10 + 1)) x172000 x172001 x172002 x172003 x172004 x172005 x172006) else (none))) else ((spec_l11Said.f k x0 (rd x172006 x10) (x172002.toList == ([115, 116, 121, 108, 101] : List UInt8))).bind fun t184 => (if x8.size + t184.size ≤ 9223372036854775807 then (spec_l11Said.l1 k x0 (x8 ++ t184) (wrap64 (x10 + 1)) x172000 x172001 x172002 x172003 x172004 x172005 x172006) else (none)))) else (none)) else (if x172000 = 1 then (some x8) else ((spec_Void.f k x172002).bind fun t185 => (if t185 = true then (if x172001 = 0 then (some x8) else (if x8.size + 2 ≤ 9223372036854775807 then (if (x8 ++ (⟨#[60, 47]⟩ : ByteArray)).size + x172002.size ≤ 9223372036854775807 then (if ((x8 ++ (⟨#[60, 47]⟩ : ByteArray)) ++ x172002).size + 1 ≤ 9223372036854775807 then (some (((x8 ++ (⟨#[60, 47]⟩ : ByteArray)) ++ x172002) ++ (⟨#[62]⟩ : ByteArray))) else (none)) else (none)) else (none))) else (if x8.size + 2 ≤ 9223372036854775807 then (if (x8 ++ (⟨#[60, 47]⟩ : ByteArray)).size + x172002.size ≤ 9223372036854775807 then (if ((x8 ++ (⟨#[60, 47]⟩ : ByteArray)) ++ x172002).size + 1 ≤ 9223372036854775807 then (some (((x8 ++ (⟨#[60, 47]⟩ : ByteArray)) ++ x172002) ++ (⟨#[62]⟩ : ByteArray))) else (none)) else (none)) else (none)))))
def spec_l11Said.l0 : Nat → List (S90) → ByteArray → Int → Int → Int → ByteArray → List (S114) → ByteArray → Int → List Int → Option (ByteArray)
 | 0, _, _, _, _, _, _, _, _, _, _ => none
 | k + 1, x0, x8, x9, x172000, x172001, x172002, x172003, x172004, x172005, x172006 => if x9 < (x172003.length : Int) then (if x8.size + 1 ≤ 9223372036854775807 then (if 0 ≤ x9 then (if (x8 ++ (⟨#[32]⟩ : ByteArray)).size + ((rd_T114 x172003 x9).f0).size ≤ 9223372036854775807 then (if ((x8 ++ (⟨#[32]⟩ : ByteArray)) ++ ((rd_T114 x172003 x9).f0)).size + 2 ≤ 9223372036854775807 then ((spec_l5Swap.f k ((rd_T114 x172003 x9).f1) (⟨#[38, 34, 13]⟩ : ByteArray) (([(⟨#[38, 97, 109, 112, 59]⟩ : ByteArray), (⟨#[38, 113, 117, 111, 116, 59]⟩ : ByteArray), (⟨#[38, 35, 49, 51, 59]⟩ : ByteArray)] : List ByteArray))).bind fun t181 => (if (((x8 ++ (⟨#[32]⟩ : ByteArray)) ++ ((rd_T114 x172003 x9).f0)) ++ (⟨#[61, 34]⟩ : ByteArray)).size + t181.size ≤ 9223372036854775807 then (if ((((x8 ++ (⟨#[32]⟩ : ByteArray)) ++ ((rd_T114 x172003 x9).f0)) ++ (⟨#[61, 34]⟩ : ByteArray)) ++ t181).size + 1 ≤ 9223372036854775807 then (spec_l11Said.l0 k x0 (((((x8 ++ (⟨#[32]⟩ : ByteArray)) ++ ((rd_T114 x172003 x9).f0)) ++ (⟨#[61, 34]⟩ : ByteArray)) ++ t181) ++ (⟨#[34]⟩ : ByteArray)) (wrap64 (x9 + 1)) x172000 x172001 x172002 x172003 x172004 x172005 x172006) else (none)) else (none))) else (none)) else (none)) else (none)) else (none)) else (if x8.size + 1 ≤ 9223372036854775807 then (spec_l11Said.j1 k x0 (x8 ++ (⟨#[62]⟩ : ByteArray)) x172000 x172001 x172002 x172003 x172004 x172005 x172006) else (none))
def spec_l11Said.f : Nat → List (S90) → Int → Bool → Option (ByteArray)
 | 0, _, _, _ => none
 | k + 1, l0, a1, a2 => if 0 ≤ a1 then (if a1 < (l0.length : Int) then (if ((rd_T90 l0 a1).f0) = 5 then (if 10 + ((rd_T90 l0 a1).f4).size ≤ 9223372036854775807 then (if ((⟨#[60, 33, 100, 111, 99, 116, 121, 112, 101, 32]⟩ : ByteArray) ++ ((rd_T90 l0 a1).f4)).size + 1 ≤ 9223372036854775807 then (some (((⟨#[60, 33, 100, 111, 99, 116, 121, 112, 101, 32]⟩ : ByteArray) ++ ((rd_T90 l0 a1).f4)) ++ (⟨#[62]⟩ : ByteArray))) else (none)) else (none)) else (if ((rd_T90 l0 a1).f0) = 4 then (if 4 + ((rd_T90 l0 a1).f4).size ≤ 9223372036854775807 then (if ((⟨#[60, 33, 45, 45]⟩ : ByteArray) ++ ((rd_T90 l0 a1).f4)).size + 3 ≤ 9223372036854775807 then (some (((⟨#[60, 33, 45, 45]⟩ : ByteArray) ++ ((rd_T90 l0 a1).f4)) ++ (⟨#[45, 45, 62]⟩ : ByteArray))) else (none)) else (none)) else (if ((rd_T90 l0 a1).f0) = 3 then (if a2 = true then (some ((rd_T90 l0 a1).f4)) else ((spec_l5Swap.f k ((rd_T90 l0 a1).f4) (⟨#[38, 60, 62, 13]⟩ : ByteArray) (([(⟨#[38, 97, 109, 112, 59]⟩ : ByteArray), (⟨#[38, 108, 116, 59]⟩ : ByteArray), (⟨#[38, 103, 116, 59]⟩ : ByteArray), (⟨#[38, 35, 49, 51, 59]⟩ : ByteArray)] : List ByteArray))).bind fun t175 => (some t175))) else (if ((rd_T90 l0 a1).f0) = 2 then (if 1 + ((rd_T90 l0 a1).f2).size ≤ 9223372036854775807 then (spec_l11Said.l0 k l0 ((⟨#[60]⟩ : ByteArray) ++ ((rd_T90 l0 a1).f2)) 0 ((rd_T90 l0 a1).f0) ((rd_T90 l0 a1).f1) ((rd_T90 l0 a1).f2) ((rd_T90 l0 a1).f3) ((rd_T90 l0 a1).f4) ((rd_T90 l0 a1).f5) ((rd_T90 l0 a1).f6)) else (none)) else (spec_l11Said.j1 k l0 (⟨#[]⟩ : ByteArray) ((rd_T90 l0 a1).f0) ((rd_T90 l0 a1).f1) ((rd_T90 l0 a1).f2) ((rd_T90 l0 a1).f3) ((rd_T90 l0 a1).f4) ((rd_T90 l0 a1).f5) ((rd_T90 l0 a1).f6)))))) else (none)) else (none)
end
theorem spec_l11Said.mono_l : ∀ k, (∀ y0 y1 y2, LeO (spec_l11Said.f k y0 y1 y2) (spec_l11Said.f (k + 1) y0 y1 y2)) ∧ (∀ y0 y1 y2 y3 y4 y5 y6 y7 y8, LeO (spec_l11Said.j1 k y0 y1 y2 y3 y4 y5 y6 y7 y8) (spec_l11Said.j1 (k + 1) y0 y1 y2 y3 y4 y5 y6 y7 y8)) ∧ (∀ y0 y1 y2 y3 y4 y5 y6 y7 y8 y9, LeO (spec_l11Said.l1 k y0 y1 y2 y3 y4 y5 y6 y7 y8 y9) (spec_l11Said.l1 (k + 1) y0 y1 y2 y3 y4 y5 y6 y7 y8 y9)) ∧ (∀ y0 y1 y2 y3 y4 y5 y6 y7 y8 y9, LeO (spec_l11Said.l0 k y0 y1 y2 y3 y4 y5 y6 y7 y8 y9) (spec_l11Said.l0 (k + 1) y0 y1 y2 y3 y4 y5 y6 y7 y8 y9))
 | 0 => ⟨fun _ _ _ r h => by simp [spec_l11Said.f] at h, fun _ _ _ _ _ _ _ _ _ r h => by simp [spec_l11Said.j1] at h, fun _ _ _ _ _ _ _ _ _ _ r h => by simp [spec_l11Said.l1] at h, fun _ _ _ _ _ _ _ _ _ _ r h => by simp [spec_l11Said.l0] at h⟩
 | k + 1 => by
  obtain ⟨ih0, ih1, ih2, ih3⟩ := spec_l11Said.mono_l k
  refine ⟨?_, ?_, ?_, ?_⟩
  ·intro y0 y1 y2
   unfold spec_l11Said.f
   repeat' first
   | (with_reducible exact ih0 _ _ _)
   | (with_reducible exact ih1 _ _ _ _ _ _ _ _ _)
   | (with_reducible exact ih2 _ _ _ _ _ _ _ _ _ _)
   | (with_reducible exact ih3 _ _ _ _ _ _ _ _ _ _)
   | (with_reducible exact spec_Void.mono _ _)
   | (with_reducible exact spec_l5Swap.mono _ _ _ _)
   | (with_reducible exact LeO.refl _)
   | (with_reducible exact LeO.none _)
   | (with_reducible refine LeO.ite ?_ ?_)
   | (with_reducible refine LeO.bind ?_ (fun _ => ?_))
  ·intro y0 y1 y2 y3 y4 y5 y6 y7 y8
   unfold spec_l11Said.j1
   repeat' first
   | (with_reducible exact ih0 _ _ _)
   | (with_reducible exact ih1 _ _ _ _ _ _ _ _ _)
   | (with_reducible exact ih2 _ _ _ _ _ _ _ _ _ _)
   | (with_reducible exact ih3 _ _ _ _ _ _ _ _ _ _)
   | (with_reducible exact spec_Void.mono _ _)
   | (with_reducible exact spec_l5Swap.mono _ _ _ _)
   | (with_reducible exact LeO.refl _)
   | (with_reducible exact LeO.none _)
   | (with_reducible refine LeO.ite ?_ ?_)
   | (with_reducible refine LeO.bind ?_ (fun _ => ?_))
  ·intro y0 y1 y2 y3 y4 y5 y6 y7 y8 y9
   unfold spec_l11Said.l1
   repeat' first
   | (with_reducible exact ih0 _ _ _)
   | (with_reducible exact ih1 _ _ _ _ _ _ _ _ _)
   | (with_reducible exact ih2 _ _ _ _ _ _ _ _ _ _)
   | (with_reducible exact ih3 _ _ _ _ _ _ _ _ _ _)
   | (with_reducible exact spec_Void.mono _ _)
   | (with_reducible exact spec_l5Swap.mono _ _ _ _)
   | (with_reducible exact LeO.refl _)
   | (with_reducible exact LeO.none _)
   | (with_reducible refine LeO.ite ?_ ?_)
   | (with_reducible refine LeO.bind ?_ (fun _ => ?_))
  ·intro y0 y1 y2 y3 y4 y5 y6 y7 y8 y9
   unfold spec_l11Said.l0
   repeat' first
   | (with_reducible exact ih0 _ _ _)
   | (with_reducible exact ih1 _ _ _ _ _ _ _ _ _)
   | (with_reducible exact ih2 _ _ _ _ _ _ _ _ _ _)
   | (with_reducible exact ih3 _ _ _ _ _ _ _ _ _ _)
   | (with_reducible exact spec_Void.mono _ _)
   | (with_reducible exact spec_l5Swap.mono _ _ _ _)
   | (with_reducible exact LeO.refl _)
   | (with_reducible exact LeO.none _)
   | (with_reducible refine LeO.ite ?_ ?_)
   | (with_reducible refine LeO.bind ?_ (fun _ => ?_))
theorem spec_l11Said.mono : ∀ a0 a1 a2 k, LeO (spec_l11Said.f k a0 a1 a2) (spec_l11Said.f (k + 1) a0 a1 a2) := by
 intro a0 a1 a2 k
 obtain ⟨ih0, ih1, ih2, ih3⟩ := spec_l11Said.mono_l k
 exact ih0 a0 a1 a2
def spec_l11Said.T17 : Bool × List (List Nat × List Nat) := (true, [([], []), ([0], [0]), ([], []), ([2], [2]), ([], []), ([3, 4], [3, 4]), ([5], [5]), ([6], [6]), ([1, 7], [1, 7]), ([8], [8]), ([], []), ([10], [10]), ([], []), ([11, 12], [11, 12]), ([13], [13]), ([14], [14]), ([], []), ([15, 16], [15, 16]), ([9, 17], [9, 17]), ([18], [18]), ([19, 17, 0, 1, 2, 3, 4, 5, 6, 7, 8, 9, 10, 11, 12, 13, 14, 15, 16, 17, 18, 19], [0, 19])])
def spec_l11Said.B17 : List Nat := [0, 1, 0, 4, 0, 28, 60, 124, 255, 511, 0, 1024, 0, 7168, 15360, 31744, 0, 130048, 262143, 524287, 1048575]
theorem spec_l11Said.tab17 : rtab .any (opsOf Tryd.f75 17) = spec_l11Said.T17 := by kernel_rfl
theorem spec_l11Said.bits17 : waitsOk spec_l11Said.T17.2 spec_l11Said.B17 = true := by kernel_rfl
def spec_l11Said.T22 : Bool × List (List Nat × List Nat) := (true, [([], []), ([], []), ([], []), ([2], [2]), ([], []), ([3, 4], [3, 4]), ([5], [5]), ([], []), ([7], [7]), ([8], [8]), ([9], [9]), ([10], [10]), ([11, 10], [10, 11]), ([12, 10], [10, 12]), ([10, 13], [10, 13]), ([1, 6, 14, 10], [1, 6, 14]), ([0, 15], [0, 15]), ([16, 15, 0, 1, 2, 3, 4, 5, 6, 7, 8, 9, 10, 11, 12, 13, 14, 15, 16], [0, 16])])
def spec_l11Said.B22 : List Nat := [0, 0, 0, 4, 0, 28, 60, 0, 128, 384, 896, 1920, 3968, 8064, 16256, 32766, 65535, 131071]
theorem spec_l11Said.tab22 : rtab .any (opsOf Tryd.f75 22) = spec_l11Said.T22 := by kernel_rfl
theorem spec_l11Said.bits22 : waitsOk spec_l11Said.T22.2 spec_l11Said.B22 = true := by kernel_rfl
set_option maxHeartbeats 8000000 in
set_option maxRecDepth 100000 in
theorem spec_l11Said.calls (k : Nat) : ∀ (A0 : Option Addr) (c0 : Nat) (l0 : List (S90)) (a1 : Int) (a2 : Bool) (r : ByteArray) (w : World) (hr0 : Kd.C k90 w A0 l0.length l0) (hc0 : l0.length ≤ c0) (h : spec_l11Said.f k l0 a1 a2 = some r),
  Calls Tryd.prog 75 #[.slice A0 l0.length c0, .int .i64 a1, .bool a2] w fun e w' => e = .returned (.string r) ∧ Below w.heap.size w w' := by
 induction k using Nat.strongRecOn with
 | _ k ih =>
 intro A0 c0 l0 a1 a2 r w hr0 hc0 h
 cases k with
 | zero => exact absurd h (by simp [spec_l11Said.f])
 | succ k =>
 simp only [spec_l11Said.f] at h
 have hu90 := Tryd.underlying90
 have HR0 := Aside0.mk hr0
 have HC0 := Aside0.mk hc0
 clear hr0 hc0
 have HB := Aside0.mk (Below.refl w.heap.size w)
 have H : (if 0 ≤ a1 then (if a1 < (l0.length : Int) then (if ((rd_T90 l0 a1).f0) = 5 then (if 10 + ((rd_T90 l0 a1).f4).size ≤ 9223372036854775807 then (if ((⟨#[60, 33, 100, 111, 99, 116, 121, 112, 101, 32]⟩ : ByteArray) ++ ((rd_T90 l0 a1).f4)).size + 1 ≤ 9223372036854775807 then (some (((⟨#[60, 33, 100, 111, 99, 116, 121, 112, 101, 32]⟩ : ByteArray) ++ ((rd_T90 l0 a1).f4)) ++ (⟨#[62]⟩ : ByteArray))) else (none)) else (none)) else (if ((rd_T90 l0 a1).f0) = 4 then (if 4 + ((rd_T90 l0 a1).f4).size ≤ 9223372036854775807 then (if ((⟨#[60, 33, 45, 45]⟩ : ByteArray) ++ ((rd_T90 l0 a1).f4)).size + 3 ≤ 9223372036854775807 then (some (((⟨#[60, 33, 45, 45]⟩ : ByteArray) ++ ((rd_T90 l0 a1).f4)) ++ (⟨#[45, 45, 62]⟩ : ByteArray))) else (none)) else (none)) else (if ((rd_T90 l0 a1).f0) = 3 then (if a2 = true then (some ((rd_T90 l0 a1).f4)) else ((spec_l5Swap.f k ((rd_T90 l0 a1).f4) (⟨#[38, 60, 62, 13]⟩ : ByteArray) (([(⟨#[38, 97, 109, 112, 59]⟩ : ByteArray), (⟨#[38, 108, 116, 59]⟩ : ByteArray), (⟨#[38, 103, 116, 59]⟩ : ByteArray), (⟨#[38, 35, 49, 51, 59]⟩ : ByteArray)] : List ByteArray))).bind fun t175 => (some t175))) else (if ((rd_T90 l0 a1).f0) = 2 then (if 1 + ((rd_T90 l0 a1).f2).size ≤ 9223372036854775807 then (spec_l11Said.l0 k l0 ((⟨#[60]⟩ : ByteArray) ++ ((rd_T90 l0 a1).f2)) 0 ((rd_T90 l0 a1).f0) ((rd_T90 l0 a1).f1) ((rd_T90 l0 a1).f2) ((rd_T90 l0 a1).f3) ((rd_T90 l0 a1).f4) ((rd_T90 l0 a1).f5) ((rd_T90 l0 a1).f6)) else (none)) else (spec_l11Said.j1 k l0 (⟨#[]⟩ : ByteArray) ((rd_T90 l0 a1).f0) ((rd_T90 l0 a1).f1) ((rd_T90 l0 a1).f2) ((rd_T90 l0 a1).f3) ((rd_T90 l0 a1).f4) ((rd_T90 l0 a1).f5) ((rd_T90 l0 a1).f6)))))) else (none)) else (none)) = some r := h
 clear h
 by_cases c4 : 0 ≤ a1
 case neg => rw [if_neg c4] at H; exact absurd H (by simp)
 rw [if_pos c4] at H
 have c4b0 := decide_eq_true c4
 clear c4
 by_cases c5 : a1 < (l0.length : Int)
 case neg => rw [if_neg c5] at H; exact absurd H (by simp)
 rw [if_pos c5] at H
 have c5b0 := decide_eq_true c5
 clear c5
 by_cases c6 : ((rd_T90 l0 a1).f0) = 5
 ·rw [if_pos c6] at H
  have c6b0 : (((rd_T90 l0 a1).f0) == 5) = true := beq_iff_eq.mpr c6
  have c6b1 : (((rd_T90 l0 a1).f0) != 5) = false := bne_eq_false_iff_eq.mpr c6
  clear c6
  by_cases c7 : 10 + ((rd_T90 l0 a1).f4).size ≤ 9223372036854775807
  case neg => rw [if_neg c7] at H; exact absurd H (by simp)
  rw [if_pos c7] at H
  have c7b0 := eq_true c7
  have c7b1 := decide_eq_true c7
  try have c7b2 : (9223372036854775807 < 10 + ((rd_T90 l0 a1).f4).size) = False := eq_false (Nat.not_lt.2 c7)
  by_cases c8 : ((⟨#[60, 33, 100, 111, 99, 116, 121, 112, 101, 32]⟩ : ByteArray) ++ ((rd_T90 l0 a1).f4)).size + 1 ≤ 9223372036854775807
  case neg => rw [if_neg c8] at H; exact absurd H (by simp)
  rw [if_pos c8] at H
  have c8b0 := eq_true c8
  have c8b1 := decide_eq_true c8
  try (have c8b5 := c8; simp only [ByteArray.size_append, show (⟨#[60, 33, 100, 111, 99, 116, 121, 112, 101, 32]⟩ : ByteArray).size = 10 from rfl] at c8b5; have c8b6 := eq_false (Nat.not_lt.2 c8b5))
  try have c8b2 : (9223372036854775807 < ((⟨#[60, 33, 100, 111, 99, 116, 121, 112, 101, 32]⟩ : ByteArray) ++ ((rd_T90 l0 a1).f4)).size + 1) = False := eq_false (Nat.not_lt.2 c8)
  obtain rfl := Option.some.inj H
  have p170 : 0 ≤ (a1 : Int) := of_decide_eq_true ab4
  have q170 : a1 < (l0.length : Int) := of_decide_eq_true ab4
  obtain ⟨ad170, A170_3, c170_3, A170_6, c170_6, e170, hx170_0, hx170_1, hx170_2, hx170_3, hx170_4, hx170_5, hx170_6, hl170_3, hi170_3, hl170_6, hi170_6⟩ := at_T90 HR0.out a1 p170 q170
  cases e170
  have HR170_3 := Aside0.mk hi170_3
  have HC170_3 := Aside0.mk hl170_3
  clear hi170_3 hl170_3
  have HR170_6 := Aside0.mk hi170_6
  have HC170_6 := Aside0.mk hl170_6
  clear hi170_6 hl170_6
  replace p170 := eq_true p170
  replace q170 := eq_true q170
  go_enter Tryd.func75, Tryd.ntmps75
  go_wp2_with (first | ((with_reducible refine gate_dst (N := 7) rfl ?_); refine box_event ?hg (N := 7) ?hd (cs := #[.int .i64 0, .int .i64 0, .string (⟨#[]⟩ : ByteArray), .slice none 0 0, .string (⟨#[]⟩ : ByteArray), .int .i64 0, .slice none 0 0]) (t := 90) ?hr ?_; (case hd => rfl); (case hg => rfl); (case hr => first | (go_simp; done) | (go_simp; rfl)); intro gb171 hg w9 hbox hb; have n0_ := Aside0.mk (below_step ab1 hb); have n1_ := Aside0.mk (hbox); have n2_ := Aside0.mk ((by rw [hg]; exact (below_size ab1) : w.heap.size ≤ gb171)); have n3_ := Aside0.mk ((by rw [hg]; exact (below_size ab1) : w.heap.size ≤ gb171)); clear HB; have HB := n0_; have BK171 := n1_; have GW171 := n2_; have GE171 := n3_; clear n0_ n1_ n2_ n3_; clear hb hbox hg; obtain ⟨⟨hcz10_0, hcz10_1, hcz10_2, hcz10_3, hcz10_4, hcz10_5, hcz10_6⟩, hfz10_0, hfz10_1, hfz10_2, hfz10_3, hfz10_4, hfz10_5, hfz10_6⟩ := Op.cells7 BK171.out))
  go_ret
  exact ⟨ab7, ab2 GE171⟩
 ·rw [if_neg c6] at H
  have c6b0 : (((rd_T90 l0 a1).f0) == 5) = false := beq_eq_false_iff_ne.mpr c6
  have c6b1 : (((rd_T90 l0 a1).f0) != 5) = true := bne_iff_ne.mpr c6
  by_cases c11 : ((rd_T90 l0 a1).f0) = 4
  ·rw [if_pos c11] at H
   have c11b0 : (((rd_T90 l0 a1).f0) == 4) = true := beq_iff_eq.mpr c11
   have c11b1 : (((rd_T90 l0 a1).f0) != 4) = false := bne_eq_false_iff_eq.mpr c11
   clear c11
   by_cases c12 : 4 + ((rd_T90 l0 a1).f4).size ≤ 9223372036854775807
   case neg => rw [if_neg c12] at H; exact absurd H (by simp)
   rw [if_pos c12] at H
   have c12b0 := eq_true c12
   have c12b1 := decide_eq_true c12
   try have c12b2 : (9223372036854775807 < 4 + ((rd_T90 l0 a1).f4).size) = False := eq_false (Nat.not_lt.2 c12)
   by_cases c13 : ((⟨#[60, 33, 45, 45]⟩ : ByteArray) ++ ((rd_T90 l0 a1).f4)).size + 3 ≤ 9223372036854775807
   case neg => rw [if_neg c13] at H; exact absurd H (by simp)
   rw [if_pos c13] at H
   have c13b0 := eq_true c13
   have c13b1 := decide_eq_true c13
   try (have c13b5 := c13; simp only [ByteArray.size_append, show (⟨#[60, 33, 45, 45]⟩ : ByteArray).size = 4 from rfl] at c13b5; have c13b6 := eq_false (Nat.not_lt.2 c13b5))
   try have c13b2 : (9223372036854775807 < ((⟨#[60, 33, 45, 45]⟩ : ByteArray) ++ ((rd_T90 l0 a1).f4)).size + 3) = False := eq_false (Nat.not_lt.2 c13)
   obtain rfl := Option.some.inj H
   have p170 : 0 ≤ (a1 : Int) := of_decide_eq_true ab4
   have q170 : a1 < (l0.length : Int) := of_decide_eq_true ab4
   obtain ⟨ad170, A170_3, c170_3, A170_6, c170_6, e170, hx170_0, hx170_1, hx170_2, hx170_3, hx170_4, hx170_5, hx170_6, hl170_3, hi170_3, hl170_6, hi170_6⟩ := at_T90 HR0.out a1 p170 q170
   cases e170
   have HR170_3 := Aside0.mk hi170_3
   have HC170_3 := Aside0.mk hl170_3
   clear hi170_3 hl170_3
   have HR170_6 := Aside0.mk hi170_6
   have HC170_6 := Aside0.mk hl170_6
   clear hi170_6 hl170_6
   replace p170 := eq_true p170
   replace q170 := eq_true q170
   go_enter Tryd.func75, Tryd.ntmps75
   go_wp2_with (first | ((with_reducible refine gate_dst (N := 7) rfl ?_); refine box_event ?hg (N := 7) ?hd (cs := #[.int .i64 0, .int .i64 0, .string (⟨#[]⟩ : ByteArray), .slice none 0 0, .string (⟨#[]⟩ : ByteArray), .int .i64 0, .slice none 0 0]) (t := 90) ?hr ?_; (case hd => rfl); (case hg => rfl); (case hr => first | (go_simp; done) | (go_simp; rfl)); intro gb171 hg w14 hbox hb; have n0_ := Aside0.mk (below_step ab1 hb); have n1_ := Aside0.mk (hbox); have n2_ := Aside0.mk ((by rw [hg]; exact (below_size ab1) : w.heap.size ≤ gb171)); have n3_ := Aside0.mk ((by rw [hg]; exact (below_size ab1) : w.heap.size ≤ gb171)); clear HB; have HB := n0_; have BK171 := n1_; have GW171 := n2_; have GE171 := n3_; clear n0_ n1_ n2_ n3_; clear hb hbox hg; obtain ⟨⟨hcz15_0, hcz15_1, hcz15_2, hcz15_3, hcz15_4, hcz15_5, hcz15_6⟩, hfz15_0, hfz15_1, hfz15_2, hfz15_3, hfz15_4, hfz15_5, hfz15_6⟩ := Op.cells7 BK171.out))
   go_ret
   exact ⟨ab7, ab2 GE171⟩
  ·rw [if_neg c11] at H
   have c11b0 : (((rd_T90 l0 a1).f0) == 4) = false := beq_eq_false_iff_ne.mpr c11
   have c11b1 : (((rd_T90 l0 a1).f0) != 4) = true := bne_iff_ne.mpr c11
   by_cases c16 : ((rd_T90 l0 a1).f0) = 3
   ·rw [if_pos c16] at H
    have c16b0 : (((rd_T90 l0 a1).f0) == 3) = true := beq_iff_eq.mpr c16
    have c16b1 : (((rd_T90 l0 a1).f0) != 3) = false := bne_eq_false_iff_eq.mpr c16
    clear c16
    by_cases c17 : a2 = true
    ·subst c17
     rw [if_pos rfl] at H
     obtain rfl := Option.some.inj H
     have p170 : 0 ≤ (a1 : Int) := of_decide_eq_true ab4
     have q170 : a1 < (l0.length : Int) := of_decide_eq_true ab4
     obtain ⟨ad170, A170_3, c170_3, A170_6, c170_6, e170, hx170_0, hx170_1, hx170_2, hx170_3, hx170_4, hx170_5, hx170_6, hl170_3, hi170_3, hl170_6, hi170_6⟩ := at_T90 HR0.out a1 p170 q170
     cases e170
     have HR170_3 := Aside0.mk hi170_3
     have HC170_3 := Aside0.mk hl170_3
     clear hi170_3 hl170_3
     have HR170_6 := Aside0.mk hi170_6
     have HC170_6 := Aside0.mk hl170_6
     clear hi170_6 hl170_6
     replace p170 := eq_true p170
     replace q170 := eq_true q170
     go_enter Tryd.func75, Tryd.ntmps75
     go_wp2_with (first | ((with_reducible refine gate_dst (N := 7) rfl ?_); refine box_event ?hg (N := 7) ?hd (cs := #[.int .i64 0, .int .i64 0, .string (⟨#[]⟩ : ByteArray), .slice none 0 0, .string (⟨#[]⟩ : ByteArray), .int .i64 0, .slice none 0 0]) (t := 90) ?hr ?_; (case hd => rfl); (case hg => rfl); (case hr => first | (go_simp; done) | (go_simp; rfl)); intro gb171 hg w18 hbox hb; have n0_ := Aside0.mk (below_step ab1 hb); have n1_ := Aside0.mk (hbox); have n2_ := Aside0.mk ((by rw [hg]; exact (below_size ab1) : w.heap.size ≤ gb171)); have n3_ := Aside0.mk ((by rw [hg]; exact (below_size ab1) : w.heap.size ≤ gb171)); clear HB; have HB := n0_; have BK171 := n1_; have GW171 := n2_; have GE171 := n3_; clear n0_ n1_ n2_ n3_; clear hb hbox hg; obtain ⟨⟨hcz19_0, hcz19_1, hcz19_2, hcz19_3, hcz19_4, hcz19_5, hcz19_6⟩, hfz19_0, hfz19_1, hfz19_2, hfz19_3, hfz19_4, hfz19_5, hfz19_6⟩ := Op.cells7 BK171.out))
     go_ret
     exact ⟨ab7, ab2 GE171⟩
    ·replace c17 := Bool.eq_false_iff.mpr c17
     subst c17
     rw [if_neg (show ¬ (false = true) by decide)] at H
     obtain ⟨y172, hy172⟩ : ∃ y_ : List ByteArray, y_ = (([(⟨#[38, 97, 109, 112, 59]⟩ : ByteArray), (⟨#[38, 108, 116, 59]⟩ : ByteArray), (⟨#[38, 103, 116, 59]⟩ : ByteArray), (⟨#[38, 35, 49, 51, 59]⟩ : ByteArray)] : List ByteArray)) := ⟨_, rfl⟩
     replace H : ((spec_l5Swap.f k ((rd_T90 l0 a1).f4) (⟨#[38, 60, 62, 13]⟩ : ByteArray) y172).bind fun t175 => (some t175)) = some r := by first | (rw [hy172]; with_reducible exact H) | (have H2_ := (Option.bind_some _ _).symm.trans H; rw [hy172]; with_reducible exact H2_) | (have H2_ := (Option.bind_some _ _).symm.trans H; with_reducible exact H2_) | with_reducible exact H | (rw [hy172]; exact H) | exact H
     have Ny172 := Aside0.mk hy172
     clear hy172
     replace H := Option.bind_eq_some_iff.mp H
     obtain ⟨t175, A200, H⟩ := H
     try dsimp only at H
     have A20 := Aside0.mk A200
     clear A200
     obtain rfl := Option.some.inj H
     have p170 : 0 ≤ (a1 : Int) := of_decide_eq_true ab4
     have q170 : a1 < (l0.length : Int) := of_decide_eq_true ab4
     obtain ⟨ad170, A170_3, c170_3, A170_6, c170_6, e170, hx170_0, hx170_1, hx170_2, hx170_3, hx170_4, hx170_5, hx170_6, hl170_3, hi170_3, hl170_6, hi170_6⟩ := at_T90 HR0.out a1 p170 q170
     cases e170
     have HR170_3 := Aside0.mk hi170_3
     have HC170_3 := Aside0.mk hl170_3
     clear hi170_3 hl170_3
     have HR170_6 := Aside0.mk hi170_6
     have HC170_6 := Aside0.mk hl170_6
     clear hi170_6 hl170_6
     replace p170 := eq_true p170
     replace q170 := eq_true q170
     go_enter Tryd.func75, Tryd.ntmps75
     go_wp2_with (first | ((with_reducible refine gate_dst (N := 7) rfl ?_); refine box_event ?hg (N := 7) ?hd (cs := #[.int .i64 0, .int .i64 0, .string (⟨#[]⟩ : ByteArray), .slice none 0 0, .string (⟨#[]⟩ : ByteArray), .int .i64 0, .slice none 0 0]) (t := 90) ?hr ?_; (case hd => rfl); (case hg => rfl); (case hr => first | (go_simp; done) | (go_simp; rfl)); intro gb171 hg w21 hbox hb; have n0_ := Aside0.mk (below_step ab1 hb); have n1_ := Aside0.mk (hbox); have n2_ := Aside0.mk ((by rw [hg]; exact (below_size ab1) : w.heap.size ≤ gb171)); have n3_ := Aside0.mk ((by rw [hg]; exact (below_size ab1) : w.heap.size ≤ gb171)); clear HB; have HB := n0_; have BK171 := n1_; have GW171 := n2_; have GE171 := n3_; clear n0_ n1_ n2_ n3_; clear hb hbox hg; obtain ⟨⟨hcz22_0, hcz22_1, hcz22_2, hcz22_3, hcz22_4, hcz22_5, hcz22_6⟩, hfz22_0, hfz22_1, hfz22_2, hfz22_3, hfz22_4, hfz22_5, hfz22_6⟩ := Op.cells7 BK171.out) | ((with_reducible refine gate_dst (N := 36) rfl ?_); refine Kd.R_lit Kd.string _ 9 ?hg (N := 36) ?hd (xs := ([(⟨#[38, 97, 109, 112, 59]⟩ : ByteArray), (⟨#[38, 108, 116, 59]⟩ : ByteArray), (⟨#[38, 103, 116, 59]⟩ : ByteArray), (⟨#[38, 35, 49, 51, 59]⟩ : ByteArray)] : List ByteArray)) (inner := [.string (⟨#[38, 97, 109, 112, 59]⟩ : ByteArray), .string (⟨#[38, 108, 116, 59]⟩ : ByteArray), .string (⟨#[38, 103, 116, 59]⟩ : ByteArray), .string (⟨#[38, 35, 49, 51, 59]⟩ : ByteArray)]) (ok := fun _ => True) (okp := fun _ => True) ?hr ?hp (fun _ hk => hk) trivial (Below.refl _ _) (Nat.le_refl _) (by simp) ?_; (case hd => rfl); (case hg => rfl); (case hr => first | (go_simp; done) | (go_simp; rfl)); (case hp => exact (Reps.one (show Kd.M Kd.string _ _ _ (⟨#[38, 97, 109, 112, 59]⟩ : ByteArray) [.string (⟨#[38, 97, 109, 112, 59]⟩ : ByteArray)] from rfl) (Reps.one (show Kd.M Kd.string _ _ _ (⟨#[38, 108, 116, 59]⟩ : ByteArray) [.string (⟨#[38, 108, 116, 59]⟩ : ByteArray)] from rfl) (Reps.one (show Kd.M Kd.string _ _ _ (⟨#[38, 103, 116, 59]⟩ : ByteArray) [.string (⟨#[38, 103, 116, 59]⟩ : ByteArray)] from rfl) (Reps.one (show Kd.M Kd.string _ _ _ (⟨#[38, 35, 49, 51, 59]⟩ : ByteArray) [.string (⟨#[38, 35, 49, 51, 59]⟩ : ByteArray)] from rfl) (Reps.none _ _)))))); intro v173 w23 ho24 hb hg_ hnew_; clear hg_ hnew_; (first | rw [← Ny172.out] at ho24 | (simp only [Int.reduceToNat] at ho24; rw [← Ny172.out] at ho24)); have n0_ := Aside0.mk (Kd.R_lower ho24 (below_size (ab2 GE171))); have n1_ := Aside0.mk (blk_below (g := gb171) (o := .cells #[.int .i64 ((rd_T90 l0 a1).f0), .int .i64 ((rd_T90 l0 a1).f1), .string ((rd_T90 l0 a1).f2), .slice A170_3 ((rd_T90 l0 a1).f3).length c170_3, .string ((rd_T90 l0 a1).f4), .int .i64 ((rd_T90 l0 a1).f5), .slice A170_6 ((rd_T90 l0 a1).f6).length c170_6] 90 (0, 0)) (by (with_reducible repeat (first | refine blk_drewN ?_ _ | refine blk_drew ?_ | refine blk_alloc ?_ _)); refine blk_put (cs := #[.int .i64 ((rd_T90 l0 a1).f0), .int .i64 ((rd_T90 l0 a1).f1), .string ((rd_T90 l0 a1).f2), .slice A170_3 ((rd_T90 l0 a1).f3).length c170_3, .string ((rd_T90 l0 a1).f4), .int .i64 ((rd_T90 l0 a1).f5), .slice none 0 0]) ?_ 6 _ rfl; (with_reducible repeat (first | refine blk_drewN ?_ _ | refine blk_drew ?_ | refine blk_alloc ?_ _)); refine blk_put (cs := #[.int .i64 ((rd_T90 l0 a1).f0), .int .i64 ((rd_T90 l0 a1).f1), .string ((rd_T90 l0 a1).f2), .slice A170_3 ((rd_T90 l0 a1).f3).length c170_3, .string ((rd_T90 l0 a1).f4), .int .i64 0, .slice none 0 0]) ?_ 5 _ rfl; (with_reducible repeat (first | refine blk_drewN ?_ _ | refine blk_drew ?_ | refine blk_alloc ?_ _)); refine blk_put (cs := #[.int .i64 ((rd_T90 l0 a1).f0), .int .i64 ((rd_T90 l0 a1).f1), .string ((rd_T90 l0 a1).f2), .slice A170_3 ((rd_T90 l0 a1).f3).length c170_3, .string (⟨#[]⟩ : ByteArray), .int .i64 0, .slice none 0 0]) ?_ 4 _ rfl; (with_reducible repeat (first | refine blk_drewN ?_ _ | refine blk_drew ?_ | refine blk_alloc ?_ _)); refine blk_put (cs := #[.int .i64 ((rd_T90 l0 a1).f0), .int .i64 ((rd_T90 l0 a1).f1), .string ((rd_T90 l0 a1).f2), .slice none 0 0, .string (⟨#[]⟩ : ByteArray), .int .i64 0, .slice none 0 0]) ?_ 3 _ rfl; (with_reducible repeat (first | refine blk_drewN ?_ _ | refine blk_drew ?_ | refine blk_alloc ?_ _)); refine blk_put (cs := #[.int .i64 ((rd_T90 l0 a1).f0), .int .i64 ((rd_T90 l0 a1).f1), .string (⟨#[]⟩ : ByteArray), .slice none 0 0, .string (⟨#[]⟩ : ByteArray), .int .i64 0, .slice none 0 0]) ?_ 2 _ rfl; (with_reducible repeat (first | refine blk_drewN ?_ _ | refine blk_drew ?_ | refine blk_alloc ?_ _)); refine blk_put (cs := #[.int .i64 ((rd_T90 l0 a1).f0), .int .i64 0, .string (⟨#[]⟩ : ByteArray), .slice none 0 0, .string (⟨#[]⟩ : ByteArray), .int .i64 0, .slice none 0 0]) ?_ 1 _ rfl; (with_reducible repeat (first | refine blk_drewN ?_ _ | refine blk_drew ?_ | refine blk_alloc ?_ _)); refine blk_put (cs := #[.int .i64 0, .int .i64 0, .string (⟨#[]⟩ : ByteArray), .slice none 0 0, .string (⟨#[]⟩ : ByteArray), .int .i64 0, .slice none 0 0]) ?_ 0 _ rfl; (with_reducible repeat (first | refine blk_drewN ?_ _ | refine blk_drew ?_ | refine blk_alloc ?_ _)); exact BK171.out) hb); have n2_ := Aside0.mk (below_step (ab2 GE171) hb); clear BK171; clear HB; have HO174 := n0_; have BK171 := n1_; have HB := n2_; clear n0_ n1_ n2_; clear hb ho24; obtain ⟨Ao25, co25, eo25⟩ := Kd.R_slice HO174.out; subst eo25) | ((with_reducible refine gate_callee (f := 105) rfl ?_); refine goesL_ (some 37) rfl rfl Tryd.func105 (by kernel_rfl) rfl #[.string ((rd_T90 l0 a1).f4), .string (⟨#[38, 60, 62, 13]⟩ : ByteArray), .slice Ao25 y172.length co25] rfl ab5 ?_; (with_reducible refine (spec_l5Swap.calls k ((rd_T90 l0 a1).f4) (⟨#[38, 60, 62, 13]⟩ : ByteArray) _ _ y172 t175 _ ?side1 ?side2 A20.out).mono ?_); (case side1 => repeat (first | exact (Kd.R_reads' HO174.out).2.2 | (with_reducible refine Kd.C_alloc ?_ _) | (with_reducible refine Kd.C_drewN ?_ _) | (with_reducible refine Kd.C_drew ?_))); (case side2 => exact (Kd.R_reads' HO174.out).2.1); rintro e w26 ⟨rfl, hb⟩; refine ⟨_, rfl, ?_⟩; have n0_ := Aside0.mk (Kd.R_below (ab8 HO174) hb); have n1_ := Aside0.mk (blk_below (g := gb171) (o := .cells #[.int .i64 ((rd_T90 l0 a1).f0), .int .i64 ((rd_T90 l0 a1).f1), .string ((rd_T90 l0 a1).f2), .slice A170_3 ((rd_T90 l0 a1).f3).length c170_3, .string ((rd_T90 l0 a1).f4), .int .i64 ((rd_T90 l0 a1).f5), .slice A170_6 ((rd_T90 l0 a1).f6).length c170_6] 90 (0, 0)) (ab3 BK171) hb); have n2_ := Aside0.mk (below_step (ab2 GE171) hb); clear HO174; clear BK171; clear HB; have HO174 := n0_; have BK171 := n1_; have HB := n2_; clear n0_ n1_ n2_; (try clear hb); (try clear hb2); (try clear hk); (try clear hi)))
     go_ret
     exact ⟨ab7, ab2 GE171⟩
   ·rw [if_neg c16] at H
    have c16b0 : (((rd_T90 l0 a1).f0) == 3) = false := beq_eq_false_iff_ne.mpr c16
    have c16b1 : (((rd_T90 l0 a1).f0) != 3) = true := bne_iff_ne.mpr c16
    have HC27 := Aside0.mk H
    clear H
    have p170 : 0 ≤ (a1 : Int) := of_decide_eq_true ab4
    have q170 : a1 < (l0.length : Int) := of_decide_eq_true ab4
    obtain ⟨ad170, A170_3, c170_3, A170_6, c170_6, e170, hx170_0, hx170_1, hx170_2, hx170_3, hx170_4, hx170_5, hx170_6, hl170_3, hi170_3, hl170_6, hi170_6⟩ := at_T90 HR0.out a1 p170 q170
    cases e170
    have HR170_3 := Aside0.mk hi170_3
    have HC170_3 := Aside0.mk hl170_3
    clear hi170_3 hl170_3
    have HR170_6 := Aside0.mk hi170_6
    have HC170_6 := Aside0.mk hl170_6
    clear hi170_6 hl170_6
    replace p170 := eq_true p170
    replace q170 := eq_true q170
    go_enter Tryd.func75, Tryd.ntmps75
    go_upto_if 40 with (first | ((with_reducible refine gate_dst (N := 7) rfl ?_); refine box_event ?hg (N := 7) ?hd (cs := #[.int .i64 0, .int .i64 0, .string (⟨#[]⟩ : ByteArray), .slice none 0 0, .string (⟨#[]⟩ : ByteArray), .int .i64 0, .slice none 0 0]) (t := 90) ?hr ?_; (case hd => rfl); (case hg => rfl); (case hr => first | (go_simp; done) | (go_simp; rfl)); intro gb171 hg w28 hbox hb; have n0_ := Aside0.mk (below_step ab1 hb); have n1_ := Aside0.mk (hbox); have n2_ := Aside0.mk ((by rw [hg]; exact (below_size ab1) : w.heap.size ≤ gb171)); have n3_ := Aside0.mk ((by rw [hg]; exact (below_size ab1) : w.heap.size ≤ gb171)); clear HB; have HB := n0_; have BK171 := n1_; have GW171 := n2_; have GE171 := n3_; clear n0_ n1_ n2_ n3_; clear hb hbox hg; obtain ⟨⟨hcz29_0, hcz29_1, hcz29_2, hcz29_3, hcz29_4, hcz29_5, hcz29_6⟩, hfz29_0, hfz29_1, hfz29_2, hfz29_3, hfz29_4, hfz29_5, hfz29_6⟩ := Op.cells7 BK171.out))
    (try simp only [Act.put, List.setIfInBounds_toArray, List.set_cons_zero, List.set_cons_succ])
    go_cut [8] (fun v8 wc => ∃ (kq : Nat) (x8_26 : ByteArray), v8 = .string x8_26 ∧ Aside0 (spec_l11Said.j1 kq l0 x8_26 ((rd_T90 l0 a1).f0) ((rd_T90 l0 a1).f1) ((rd_T90 l0 a1).f2) ((rd_T90 l0 a1).f3) ((rd_T90 l0 a1).f4) ((rd_T90 l0 a1).f5) ((rd_T90 l0 a1).f6) = some r) ∧ Aside0 (kq ≤ k) ∧ Aside0 (wc.heap[gb171]? = some (.cells #[.int .i64 ((rd_T90 l0 a1).f0), .int .i64 ((rd_T90 l0 a1).f1), .string ((rd_T90 l0 a1).f2), (.slice A170_3 ((rd_T90 l0 a1).f3).length c170_3), .string ((rd_T90 l0 a1).f4), .int .i64 ((rd_T90 l0 a1).f5), (.slice A170_6 ((rd_T90 l0 a1).f6).length c170_6)] 90 (0, 0))) ∧ Aside0 (Below w.heap.size w wc))
    case first =>
     have H := HC27.out
     clear HC27
     by_cases c30 : ((rd_T90 l0 a1).f0) = 2
     ·rw [if_pos c30] at H
      have c30b0 : (((rd_T90 l0 a1).f0) == 2) = true := beq_iff_eq.mpr c30
      have c30b1 : (((rd_T90 l0 a1).f0) != 2) = false := bne_eq_false_iff_eq.mpr c30
      clear c30
      (first | rw [c30b0] | (simp only [i64_w, i32_w]; rw [c30b0]) | skip)
      (try (generalize hgzc30 : (((rd_T90 l0 a1).f0) == 2) = bqc30 at *; subst c30b0; have c30b0 := hgzc30; clear hgzc30))
      by_cases c31 : 1 + ((rd_T90 l0 a1).f2).size ≤ 9223372036854775807
      case neg => rw [if_neg c31] at H; exact absurd H (by simp)
      rw [if_pos c31] at H
      have c31b0 := eq_true c31
      have c31b1 := decide_eq_true c31
      try have c31b2 : (9223372036854775807 < 1 + ((rd_T90 l0 a1).f2).size) = False := eq_false (Nat.not_lt.2 c31)
      have H' := Aside0.mk H
      clear H
      obtain ⟨⟨hcz32_0, hcz32_1, hcz32_2, hcz32_3, hcz32_4, hcz32_5, hcz32_6⟩, hfz32_0, hfz32_1, hfz32_2, hfz32_3, hfz32_4, hfz32_5, hfz32_6⟩ := Op.cells7 BK171.out
      go_wp2
      go_loopg [8, 9] k (fun kq v8 v9 w' => ∃ (x8_1 : ByteArray) (x9_1 : Int), v8 = .string x8_1 ∧ v9 = .int .i64 x9_1 ∧ Aside0 (spec_l11Said.l0 kq l0 x8_1 x9_1 ((rd_T90 l0 a1).f0) ((rd_T90 l0 a1).f1) ((rd_T90 l0 a1).f2) ((rd_T90 l0 a1).f3) ((rd_T90 l0 a1).f4) ((rd_T90 l0 a1).f5) ((rd_T90 l0 a1).f6) = some r) ∧ Aside0 (kq ≤ k) ∧ Aside0 (w'.heap[gb171]? = some (.cells #[.int .i64 ((rd_T90 l0 a1).f0), .int .i64 ((rd_T90 l0 a1).f1), .string ((rd_T90 l0 a1).f2), (.slice A170_3 ((rd_T90 l0 a1).f3).length c170_3), .string ((rd_T90 l0 a1).f4), .int .i64 ((rd_T90 l0 a1).f5), (.slice A170_6 ((rd_T90 l0 a1).f6).length c170_6)] 90 (0, 0))) ∧ Aside0 (Below w.heap.size w w'))
      case atStart => exact ⟨((⟨#[60]⟩ : ByteArray) ++ ((rd_T90 l0 a1).f2)), (0), ab6, ab6, (by first | exact H' | (have h_ := H'.out; rw [c30b0] at h_; exact ⟨h_⟩)), ⟨Nat.le_refl _⟩, ⟨by (with_reducible repeat (first | refine blk_drewN ?_ _ | refine blk_drew ?_ | refine blk_alloc ?_ _)); refine blk_put (cs := #[.int .i64 ((rd_T90 l0 a1).f0), .int .i64 ((rd_T90 l0 a1).f1), .string ((rd_T90 l0 a1).f2), .slice A170_3 ((rd_T90 l0 a1).f3).length c170_3, .string ((rd_T90 l0 a1).f4), .int .i64 ((rd_T90 l0 a1).f5), .slice none 0 0]) ?_ 6 _ rfl; (with_reducible repeat (first | refine blk_drewN ?_ _ | refine blk_drew ?_ | refine blk_alloc ?_ _)); refine blk_put (cs := #[.int .i64 ((rd_T90 l0 a1).f0), .int .i64 ((rd_T90 l0 a1).f1), .string ((rd_T90 l0 a1).f2), .slice A170_3 ((rd_T90 l0 a1).f3).length c170_3, .string ((rd_T90 l0 a1).f4), .int .i64 0, .slice none 0 0]) ?_ 5 _ rfl; (with_reducible repeat (first | refine blk_drewN ?_ _ | refine blk_drew ?_ | refine blk_alloc ?_ _)); refine blk_put (cs := #[.int .i64 ((rd_T90 l0 a1).f0), .int .i64 ((rd_T90 l0 a1).f1), .string ((rd_T90 l0 a1).f2), .slice A170_3 ((rd_T90 l0 a1).f3).length c170_3, .string (⟨#[]⟩ : ByteArray), .int .i64 0, .slice none 0 0]) ?_ 4 _ rfl; (with_reducible repeat (first | refine blk_drewN ?_ _ | refine blk_drew ?_ | refine blk_alloc ?_ _)); refine blk_put (cs := #[.int .i64 ((rd_T90 l0 a1).f0), .int .i64 ((rd_T90 l0 a1).f1), .string ((rd_T90 l0 a1).f2), .slice none 0 0, .string (⟨#[]⟩ : ByteArray), .int .i64 0, .slice none 0 0]) ?_ 3 _ rfl; (with_reducible repeat (first | refine blk_drewN ?_ _ | refine blk_drew ?_ | refine blk_alloc ?_ _)); refine blk_put (cs := #[.int .i64 ((rd_T90 l0 a1).f0), .int .i64 ((rd_T90 l0 a1).f1), .string (⟨#[]⟩ : ByteArray), .slice none 0 0, .string (⟨#[]⟩ : ByteArray), .int .i64 0, .slice none 0 0]) ?_ 2 _ rfl; (with_reducible repeat (first | refine blk_drewN ?_ _ | refine blk_drew ?_ | refine blk_alloc ?_ _)); refine blk_put (cs := #[.int .i64 ((rd_T90 l0 a1).f0), .int .i64 0, .string (⟨#[]⟩ : ByteArray), .slice none 0 0, .string (⟨#[]⟩ : ByteArray), .int .i64 0, .slice none 0 0]) ?_ 1 _ rfl; (with_reducible repeat (first | refine blk_drewN ?_ _ | refine blk_drew ?_ | refine blk_alloc ?_ _)); refine blk_put (cs := #[.int .i64 0, .int .i64 0, .string (⟨#[]⟩ : ByteArray), .slice none 0 0, .string (⟨#[]⟩ : ByteArray), .int .i64 0, .slice none 0 0]) ?_ 0 _ rfl; (with_reducible repeat (first | refine blk_drewN ?_ _ | refine blk_drew ?_ | refine blk_alloc ?_ _)); exact BK171.out⟩, ⟨ab2 GE171⟩⟩
      case round =>
       clear H'
       (try clear c1); (try clear p1); (try clear q1); (try clear hx1); (try clear p2); (try clear c3); (try clear c4); (try clear c4b0); (try clear c5); (try clear c5b0); (try clear c6); (try clear c6b0); (try clear c6b1); (try clear c7); (try clear c7b0); (try clear c7b1); (try clear c7b2); (try clear c8); (try clear c8b0); (try clear c8b1); (try clear c8b2); (try clear c10); (try clear c11); (try clear c11b0); (try clear c11b1); (try clear c12); (try clear c12b0); (try clear c12b1); (try clear c12b2); (try clear c13); (try clear c13b0); (try clear c13b1); (try clear c13b2); (try clear c16); (try clear c16b0); (try clear c16b1); (try clear c17); (try clear p17); (try clear q17); (try clear hx17); (try clear c30); (try clear c30b0); (try clear c30b1); (try clear c31); (try clear c31b0); (try clear c31b1); (try clear c31b2); (try clear hcz10_0); (try clear hcz10_1); (try clear hcz10_2); (try clear hcz10_3); (try clear hcz10_4); (try clear hcz10_5); (try clear hcz10_6); (try clear hcz15_0); (try clear hcz15_1); (try clear hcz15_2); (try clear hcz15_3); (try clear hcz15_4); (try clear hcz15_5); (try clear hcz15_6); (try clear hcz19_0); (try clear hcz19_1); (try clear hcz19_2); (try clear hcz19_3); (try clear hcz19_4); (try clear hcz19_5); (try clear hcz19_6); (try clear hcz22_0); (try clear hcz22_1); (try clear hcz22_2); (try clear hcz22_3); (try clear hcz22_4); (try clear hcz22_5); (try clear hcz22_6); (try clear hcz29_0); (try clear hcz29_1); (try clear hcz29_2); (try clear hcz29_3); (try clear hcz29_4); (try clear hcz29_5); (try clear hcz29_6); (try clear hcz32_0); (try clear hcz32_1); (try clear hcz32_2); (try clear hcz32_3); (try clear hcz32_4); (try clear hcz32_5); (try clear hcz32_6); (try clear hfz10_0); (try clear hfz10_1); (try clear hfz10_2); (try clear hfz10_3); (try clear hfz10_4); (try clear hfz10_5); (try clear hfz10_6); (try clear hfz15_0); (try clear hfz15_1); (try clear hfz15_2); (try clear hfz15_3); (try clear hfz15_4); (try clear hfz15_5); (try clear hfz15_6); (try clear hfz19_0); (try clear hfz19_1); (try clear hfz19_2); (try clear hfz19_3); (try clear hfz19_4); (try clear hfz19_5); (try clear hfz19_6); (try clear hfz22_0); (try clear hfz22_1); (try clear hfz22_2); (try clear hfz22_3); (try clear hfz22_4); (try clear hfz22_5); (try clear hfz22_6); (try clear hfz29_0); (try clear hfz29_1); (try clear hfz29_2); (try clear hfz29_3); (try clear hfz29_4); (try clear hfz29_5); (try clear hfz29_6); (try clear hfz32_0); (try clear hfz32_1); (try clear hfz32_2); (try clear hfz32_3); (try clear hfz32_4); (try clear hfz32_5); (try clear hfz32_6); (try clear hx170_0); (try clear hx170_1); (try clear hx170_2); (try clear hx170_3); (try clear hx170_4); (try clear hx170_5); (try clear hx170_6); (try clear p170); (try clear q170)
       obtain ⟨x8_1, x9_1, rfl, rfl, HA, HK1, BK171, HB⟩ := hrel
       cases gk with
       | zero => exact absurd HA.out (by simp [spec_l11Said.l0])
       | succ k1 =>
        have H := HA.out
        clear HA
        simp only [spec_l11Said.l0] at H
        by_cases c33 : x9_1 < (((rd_T90 l0 a1).f3).length : Int)
        ·rw [if_pos c33] at H
         have c33b0 := decide_eq_true c33
         clear c33
         by_cases c34 : x8_1.size + 1 ≤ 9223372036854775807
         case neg => rw [if_neg c34] at H; exact absurd H (by simp)
         rw [if_pos c34] at H
         have c34b0 := eq_true c34
         have c34b1 := decide_eq_true c34
         try have c34b2 : (9223372036854775807 < x8_1.size + 1) = False := eq_false (Nat.not_lt.2 c34)
         by_cases c35 : 0 ≤ x9_1
         case neg => rw [if_neg c35] at H; exact absurd H (by simp)
         rw [if_pos c35] at H
         have c35b0 := decide_eq_true c35
         clear c35
         by_cases c36 : (x8_1 ++ (⟨#[32]⟩ : ByteArray)).size + ((rd_T114 ((rd_T90 l0 a1).f3) x9_1).f0).size ≤ 9223372036854775807
         case neg => rw [if_neg c36] at H; exact absurd H (by simp)
         rw [if_pos c36] at H
         have c36b0 := eq_true c36
         have c36b1 := decide_eq_true c36
         try (have c36b5 := c36; simp only [ByteArray.size_append, show (⟨#[32]⟩ : ByteArray).size = 1 from rfl] at c36b5; have c36b6 := eq_false (Nat.not_lt.2 c36b5))
         try have c36b2 : (9223372036854775807 < (x8_1 ++ (⟨#[32]⟩ : ByteArray)).size + ((rd_T114 ((rd_T90 l0 a1).f3) x9_1).f0).size) = False := eq_false (Nat.not_lt.2 c36)
         by_cases c37 : ((x8_1 ++ (⟨#[32]⟩ : ByteArray)) ++ ((rd_T114 ((rd_T90 l0 a1).f3) x9_1).f0)).size + 2 ≤ 9223372036854775807
         case neg => rw [if_neg c37] at H; exact absurd H (by simp)
         rw [if_pos c37] at H
         have c37b0 := eq_true c37
         have c37b1 := decide_eq_true c37
         try (have c37b5 := c37; simp only [ByteArray.size_append, show (⟨#[32]⟩ : ByteArray).size = 1 from rfl] at c37b5; have c37b6 := eq_false (Nat.not_lt.2 c37b5))
         try have c37b2 : (9223372036854775807 < ((x8_1 ++ (⟨#[32]⟩ : ByteArray)) ++ ((rd_T114 ((rd_T90 l0 a1).f3) x9_1).f0)).size + 2) = False := eq_false (Nat.not_lt.2 c37)
         obtain ⟨y178, hy178⟩ : ∃ y_ : List ByteArray, y_ = (([(⟨#[38, 97, 109, 112, 59]⟩ : ByteArray), (⟨#[38, 113, 117, 111, 116, 59]⟩ : ByteArray), (⟨#[38, 35, 49, 51, 59]⟩ : ByteArray)] : List ByteArray)) := ⟨_, rfl⟩
         replace H : ((spec_l5Swap.f k1 ((rd_T114 ((rd_T90 l0 a1).f3) x9_1).f1) (⟨#[38, 34, 13]⟩ : ByteArray) y178).bind fun t181 => (if (((x8_1 ++ (⟨#[32]⟩ : ByteArray)) ++ ((rd_T114 ((rd_T90 l0 a1).f3) x9_1).f0)) ++ (⟨#[61, 34]⟩ : ByteArray)).size + t181.size ≤ 9223372036854775807 then (if ((((x8_1 ++ (⟨#[32]⟩ : ByteArray)) ++ ((rd_T114 ((rd_T90 l0 a1).f3) x9_1).f0)) ++ (⟨#[61, 34]⟩ : ByteArray)) ++ t181).size + 1 ≤ 9223372036854775807 then (spec_l11Said.l0 k1 l0 (((((x8_1 ++ (⟨#[32]⟩ : ByteArray)) ++ ((rd_T114 ((rd_T90 l0 a1).f3) x9_1).f0)) ++ (⟨#[61, 34]⟩ : ByteArray)) ++ t181) ++ (⟨#[34]⟩ : ByteArray)) (wrap64 (x9_1 + 1)) ((rd_T90 l0 a1).f0) ((rd_T90 l0 a1).f1) ((rd_T90 l0 a1).f2) ((rd_T90 l0 a1).f3) ((rd_T90 l0 a1).f4) ((rd_T90 l0 a1).f5) ((rd_T90 l0 a1).f6)) else (none)) else (none))) = some r := by first | (rw [hy178]; with_reducible exact H) | (have H2_ := (Option.bind_some _ _).symm.trans H; rw [hy178]; with_reducible exact H2_) | (have H2_ := (Option.bind_some _ _).symm.trans H; with_reducible exact H2_) | with_reducible exact H | (rw [hy178]; exact H) | exact H
         have Ny178 := Aside0.mk hy178
         clear hy178
         replace H := Option.bind_eq_some_iff.mp H
         obtain ⟨t181, A380, H⟩ := H
         replace H : (if (((x8_1 ++ (⟨#[32]⟩ : ByteArray)) ++ ((rd_T114 ((rd_T90 l0 a1).f3) x9_1).f0)) ++ (⟨#[61, 34]⟩ : ByteArray)).size + t181.size ≤ 9223372036854775807 then (if ((((x8_1 ++ (⟨#[32]⟩ : ByteArray)) ++ ((rd_T114 ((rd_T90 l0 a1).f3) x9_1).f0)) ++ (⟨#[61, 34]⟩ : ByteArray)) ++ t181).size + 1 ≤ 9223372036854775807 then (spec_l11Said.l0 k1 l0 (((((x8_1 ++ (⟨#[32]⟩ : ByteArray)) ++ ((rd_T114 ((rd_T90 l0 a1).f3) x9_1).f0)) ++ (⟨#[61, 34]⟩ : ByteArray)) ++ t181) ++ (⟨#[34]⟩ : ByteArray)) (wrap64 (x9_1 + 1)) ((rd_T90 l0 a1).f0) ((rd_T90 l0 a1).f1) ((rd_T90 l0 a1).f2) ((rd_T90 l0 a1).f3) ((rd_T90 l0 a1).f4) ((rd_T90 l0 a1).f5) ((rd_T90 l0 a1).f6)) else (none)) else (none)) = some r := by first | exact H | (rw [c30b0]; exact H)
         have A38 := Aside0.mk A380
         clear A380
         by_cases c39 : (((x8_1 ++ (⟨#[32]⟩ : ByteArray)) ++ ((rd_T114 ((rd_T90 l0 a1).f3) x9_1).f0)) ++ (⟨#[61, 34]⟩ : ByteArray)).size + t181.size ≤ 9223372036854775807
         case neg => rw [if_neg c39] at H; exact absurd H (by simp)
         rw [if_pos c39] at H
         have c39b0 := eq_true c39
         have c39b1 := decide_eq_true c39
         try (have c39b5 := c39; simp only [ByteArray.size_append, show (⟨#[32]⟩ : ByteArray).size = 1 from rfl, show (⟨#[61, 34]⟩ : ByteArray).size = 2 from rfl] at c39b5; have c39b6 := eq_false (Nat.not_lt.2 c39b5))
         try have c39b2 : (9223372036854775807 < (((x8_1 ++ (⟨#[32]⟩ : ByteArray)) ++ ((rd_T114 ((rd_T90 l0 a1).f3) x9_1).f0)) ++ (⟨#[61, 34]⟩ : ByteArray)).size + t181.size) = False := eq_false (Nat.not_lt.2 c39)
         by_cases c40 : ((((x8_1 ++ (⟨#[32]⟩ : ByteArray)) ++ ((rd_T114 ((rd_T90 l0 a1).f3) x9_1).f0)) ++ (⟨#[61, 34]⟩ : ByteArray)) ++ t181).size + 1 ≤ 9223372036854775807
         case neg => rw [if_neg c40] at H; exact absurd H (by simp)
         rw [if_pos c40] at H
         have c40b0 := eq_true c40
         have c40b1 := decide_eq_true c40
         try (have c40b5 := c40; simp only [ByteArray.size_append, show (⟨#[32]⟩ : ByteArray).size = 1 from rfl, show (⟨#[61, 34]⟩ : ByteArray).size = 2 from rfl] at c40b5; have c40b6 := eq_false (Nat.not_lt.2 c40b5))
         try have c40b2 : (9223372036854775807 < ((((x8_1 ++ (⟨#[32]⟩ : ByteArray)) ++ ((rd_T114 ((rd_T90 l0 a1).f3) x9_1).f0)) ++ (⟨#[61, 34]⟩ : ByteArray)) ++ t181).size + 1) = False := eq_false (Nat.not_lt.2 c40)
         have H' := Aside0.mk H
         clear H
         obtain ⟨⟨hcz41_0, hcz41_1, hcz41_2, hcz41_3, hcz41_4, hcz41_5, hcz41_6⟩, hfz41_0, hfz41_1, hfz41_2, hfz41_3, hfz41_4, hfz41_5, hfz41_6⟩ := Op.cells7 BK171.out
         try go_wp2
         have n0_ := Aside0.mk (blk_drew BK171.out)
         have n1_ := Aside0.mk (below_drew1 HB.out)
         clear BK171
         clear HB
         have BK171 := n0_
         have HB := n1_
         clear n0_ n1_
         have p176 : 0 ≤ (x9_1 : Int) := of_decide_eq_true ab4
         have q176 : x9_1 < (((rd_T90 l0 a1).f3).length : Int) := of_decide_eq_true ab4
         obtain ⟨ad176, e176, hx176_0, hx176_1⟩ := at_T114 HR170_3.out x9_1 p176 q176
         have hw176_1 := hx176_1
         have hw176_0 := hx176_0
         cases e176
         replace hx176_0 := pw_cell_below HB.out hx176_0
         replace hx176_1 := pw_cell_below HB.out hx176_1
         replace p176 := eq_true p176
         replace q176 := eq_true q176
         have p177 : 0 ≤ (x9_1 : Int) := of_decide_eq_true ab4
         have q177 : x9_1 < (((rd_T90 l0 a1).f3).length : Int) := of_decide_eq_true ab4
         obtain ⟨ad177, e177, hx177_0, hx177_1⟩ := at_T114 HR170_3.out x9_1 p177 q177
         have hw177_1 := hx177_1
         have hw177_0 := hx177_0
         obtain rfl : ad176 = ad177 := (by injection e177)
         replace hx177_0 := pw_cell_below HB.out hx177_0
         replace hx177_1 := pw_cell_below HB.out hx177_1
         replace p177 := eq_true p177
         replace q177 := eq_true q177
         refine start_ (n := 21) (S := fun w' => w'.cell? ⟨gb171, 0, none⟩ = some (.int .i64 ((rd_T90 l0 a1).f0)) ∧ w'.cell? ⟨gb171, 1, none⟩ = some (.int .i64 ((rd_T90 l0 a1).f1)) ∧ w'.cell? ⟨gb171, 2, none⟩ = some (.string ((rd_T90 l0 a1).f2)) ∧ w'.cell? ⟨gb171, 3, none⟩ = some (.slice (some ad176) ((rd_T90 l0 a1).f3).length c170_3) ∧ w'.cell? ⟨gb171, 4, none⟩ = some (.string ((rd_T90 l0 a1).f4)) ∧ w'.cell? ⟨gb171, 5, none⟩ = some (.int .i64 ((rd_T90 l0 a1).f5)) ∧ w'.cell? ⟨gb171, 6, none⟩ = some (.slice A170_6 ((rd_T90 l0 a1).f6).length c170_6) ∧ w'.cell? (ad176.add ((x9_1).toNat * 2)) = some (.string ((rd_T114 ((rd_T90 l0 a1).f3) x9_1).f0)) ∧ w'.cell? ⟨(ad176.add ((x9_1).toNat * 2)).block, (ad176.add ((x9_1).toNat * 2)).off + 1, none⟩ = some (.string ((rd_T114 ((rd_T90 l0 a1).f3) x9_1).f1)) ∧ w'.cell? (ad176.add ((x9_1).toNat * 2)) = some (.string ((rd_T114 ((rd_T90 l0 a1).f3) x9_1).f0)) ∧ w'.cell? ⟨(ad176.add ((x9_1).toNat * 2)).block, (ad176.add ((x9_1).toNat * 2)).off + 1, none⟩ = some (.string ((rd_T114 ((rd_T90 l0 a1).f3) x9_1).f1))) (ds := []) #[false, false, false, false, false, false, false, false, false, false, false, false, false, false, false, false, false, false, false, false, false] (by kernel_rfl) rfl rfl ⟨(blk_cell BK171.out 0).trans rfl, (blk_cell BK171.out 1).trans rfl, (blk_cell BK171.out 2).trans rfl, (blk_cell BK171.out 3).trans rfl, (blk_cell BK171.out 4).trans rfl, (blk_cell BK171.out 5).trans rfl, (blk_cell BK171.out 6).trans rfl, ((HB.out.cell (World.block_lt_of_cell? w _ hw176_0)).trans hw176_0), ((HB.out.cell (World.block_lt_of_cell? w _ hw176_1)).trans hw176_1), ((HB.out.cell (World.block_lt_of_cell? w _ hw177_0)).trans hw177_0), ((HB.out.cell (World.block_lt_of_cell? w _ hw177_1)).trans hw177_1)⟩ (fun hHeld => ?_); refine with_tabW spec_l11Said.tab17 spec_l11Said.bits17 (fun HT_ HW_ => ?_)
         generalize wr.drew = w42 at BK171 HB hx176_0 hx176_1 hx177_0 hx177_1 hHeld ⊢
         refine pure_ (i := 0) (N := some 51) (v := ?_) (a' := ?_) #[true, false, false, false, false, false, false, false, false, false, false, false, false, false, false, false, false, false, false, false, false] rfl rfl (any_of HT_.out (by kernel_rfl)) (fun _ _ _ h => h) (Or.inl ⟨by rfl, ?_⟩) ?_ ?_
         rotate_left
         ·intro w'
          go_simp
          with_reducible rfl
         rotate_left
         ·simp only [Act.put, List.setIfInBounds_toArray, List.set_cons_zero, List.set_cons_succ, i64_w, i32_w]
          rfl
         refine pure_ (i := 1) (N := some 52) (v := ?_) (a' := ?_) #[true, true, false, false, false, false, false, false, false, false, false, false, false, false, false, false, false, false, false, false, false] rfl rfl (any_of HT_.out (by kernel_rfl)) (fun _ _ _ h => h) (Or.inl ⟨by rfl, ?_⟩) ?_ ?_
         rotate_left
         ·intro w'
          go_simp
          with_reducible rfl
         rotate_left
         ·simp only [Act.put, List.setIfInBounds_toArray, List.set_cons_zero, List.set_cons_succ, i64_w, i32_w]
          rfl
         refine pure_ (i := 2) (N := some 53) (v := ?_) (a' := ?_) #[true, true, true, false, false, false, false, false, false, false, false, false, false, false, false, false, false, false, false, false, false] rfl rfl (any_of HT_.out (by kernel_rfl)) (fun _ _ _ h => h) (Or.inl ⟨by rfl, ?_⟩) ?_ ?_
         rotate_left
         ·intro w'
          go_simp
          with_reducible rfl
         rotate_left
         ·simp only [Act.put, List.setIfInBounds_toArray, List.set_cons_zero, List.set_cons_succ, i64_w, i32_w]
          rfl
         refine pure_ (i := 4) (N := some 55) (v := ?_) (a' := ?_) #[true, true, true, false, true, false, false, false, false, false, false, false, false, false, false, false, false, false, false, false, false] rfl rfl (any_of HT_.out (by kernel_rfl)) (fun _ _ _ h => h) (Or.inl ⟨by rfl, ?_⟩) ?_ ?_
         rotate_left
         ·intro w'
          go_simp
          with_reducible rfl
         rotate_left
         ·simp only [Act.put, List.setIfInBounds_toArray, List.set_cons_zero, List.set_cons_succ, i64_w, i32_w]
          rfl
         refine pure_ (i := 10) (N := some 61) (v := ?_) (a' := ?_) #[true, true, true, false, true, false, false, false, false, false, true, false, false, false, false, false, false, false, false, false, false] rfl rfl (any_of HT_.out (by kernel_rfl)) (fun _ _ _ h => h) (Or.inl ⟨by rfl, ?_⟩) ?_ ?_
         rotate_left
         ·intro w'
          go_simp
          with_reducible rfl
         rotate_left
         ·simp only [Act.put, List.setIfInBounds_toArray, List.set_cons_zero, List.set_cons_succ, i64_w, i32_w]
          rfl
         refine pure_ (i := 12) (N := some 63) (v := ?_) (a' := ?_) #[true, true, true, false, true, false, false, false, false, false, true, false, true, false, false, false, false, false, false, false, false] rfl rfl (any_of HT_.out (by kernel_rfl)) (fun _ _ _ h => h) (Or.inl ⟨by rfl, ?_⟩) ?_ ?_
         rotate_left
         ·intro w'
          go_simp
          with_reducible rfl
         rotate_left
         ·simp only [Act.put, List.setIfInBounds_toArray, List.set_cons_zero, List.set_cons_succ, i64_w, i32_w]
          rfl
         refine take_ (i := 3) (N := some 54) (v := ?_) (a' := ?_) #[true, true, true, true, true, false, false, false, false, false, true, false, true, false, false, false, false, false, false, false, false] rfl rfl (take_ofW HT_.out HW_.out (by kernel_rfl)) (fun _ _ _ h => h) (Or.inl ⟨by rfl, ?_⟩) hHeld ?_ ?_
         rotate_left
         ·rintro w' ⟨s0, s1, s2, s3, s4, s5, s6, s7, s8, s9, s10⟩
          go_simp
          with_reducible rfl
         rotate_left
         ·simp only [Act.put, List.setIfInBounds_toArray, List.set_cons_zero, List.set_cons_succ, i64_w, i32_w]
          rfl
         refine pure_ (i := 5) (N := some 56) (v := ?_) (a' := ?_) #[true, true, true, true, true, true, false, false, false, false, true, false, true, false, false, false, false, false, false, false, false] rfl rfl (any_of HT_.out (by kernel_rfl)) (fun _ _ _ h => h) (Or.inl ⟨by rfl, ?_⟩) ?_ ?_
         rotate_left
         ·intro w'
          go_simp
          with_reducible rfl
         rotate_left
         ·simp only [Act.put, List.setIfInBounds_toArray, List.set_cons_zero, List.set_cons_succ, i64_w, i32_w]
          rfl
         refine pure_ (i := 6) (N := some 57) (v := ?_) (a' := ?_) #[true, true, true, true, true, true, true, false, false, false, true, false, true, false, false, false, false, false, false, false, false] rfl rfl (any_of HT_.out (by kernel_rfl)) (fun _ _ _ h => h) (Or.inl ⟨by rfl, ?_⟩) ?_ ?_
         rotate_left
         ·intro w'
          go_simp
          with_reducible rfl
         rotate_left
         ·simp only [Act.put, List.setIfInBounds_toArray, List.set_cons_zero, List.set_cons_succ, i64_w, i32_w]
          rfl
         refine take_ (i := 7) (N := some 58) (v := ?_) (a' := ?_) #[true, true, true, true, true, true, true, true, false, false, true, false, true, false, false, false, false, false, false, false, false] rfl rfl (take_ofW HT_.out HW_.out (by kernel_rfl)) (fun _ _ _ h => h) (Or.inl ⟨by rfl, ?_⟩) hHeld ?_ ?_
         rotate_left
         ·rintro w' ⟨s0, s1, s2, s3, s4, s5, s6, s7, s8, s9, s10⟩
          go_simp
          with_reducible rfl
         rotate_left
         ·simp only [Act.put, List.setIfInBounds_toArray, List.set_cons_zero, List.set_cons_succ, i64_w, i32_w]
          rfl
         refine pure_ (i := 8) (N := some 59) (v := ?_) (a' := ?_) #[true, true, true, true, true, true, true, true, true, false, true, false, true, false, false, false, false, false, false, false, false] rfl rfl (any_of HT_.out (by kernel_rfl)) (fun _ _ _ h => h) (Or.inl ⟨by rfl, ?_⟩) ?_ ?_
         rotate_left
         ·intro w'
          go_simp
          with_reducible rfl
         rotate_left
         ·simp only [Act.put, List.setIfInBounds_toArray, List.set_cons_zero, List.set_cons_succ, i64_w, i32_w]
          rfl
         refine pure_ (i := 9) (N := some 60) (v := ?_) (a' := ?_) #[true, true, true, true, true, true, true, true, true, true, true, false, true, false, false, false, false, false, false, false, false] rfl rfl (any_of HT_.out (by kernel_rfl)) (fun _ _ _ h => h) (Or.inl ⟨by rfl, ?_⟩) ?_ ?_
         rotate_left
         ·intro w'
          go_simp
          with_reducible rfl
         rotate_left
         ·simp only [Act.put, List.setIfInBounds_toArray, List.set_cons_zero, List.set_cons_succ, i64_w, i32_w]
          rfl
         refine take_ (i := 11) (N := some 62) (v := ?_) (a' := ?_) #[true, true, true, true, true, true, true, true, true, true, true, true, true, false, false, false, false, false, false, false, false] rfl rfl (take_ofW HT_.out HW_.out (by kernel_rfl)) (fun _ _ _ h => h) (Or.inl ⟨by rfl, ?_⟩) hHeld ?_ ?_
         rotate_left
         ·rintro w' ⟨s0, s1, s2, s3, s4, s5, s6, s7, s8, s9, s10⟩
          go_simp
          with_reducible rfl
         rotate_left
         ·simp only [Act.put, List.setIfInBounds_toArray, List.set_cons_zero, List.set_cons_succ, i64_w, i32_w]
          rfl
         refine pure_ (i := 13) (N := some 64) (v := ?_) (a' := ?_) #[true, true, true, true, true, true, true, true, true, true, true, true, true, true, false, false, false, false, false, false, false] rfl rfl (any_of HT_.out (by kernel_rfl)) (fun _ _ _ h => h) (Or.inl ⟨by rfl, ?_⟩) ?_ ?_
         rotate_left
         ·intro w'
          go_simp
          with_reducible rfl
         rotate_left
         ·simp only [Act.put, List.setIfInBounds_toArray, List.set_cons_zero, List.set_cons_succ, i64_w, i32_w]
          rfl
         refine pure_ (i := 14) (N := some 65) (v := ?_) (a' := ?_) #[true, true, true, true, true, true, true, true, true, true, true, true, true, true, true, false, false, false, false, false, false] rfl rfl (any_of HT_.out (by kernel_rfl)) (fun _ _ _ h => h) (Or.inl ⟨by rfl, ?_⟩) ?_ ?_
         rotate_left
         ·intro w'
          go_simp
          with_reducible rfl
         rotate_left
         ·simp only [Act.put, List.setIfInBounds_toArray, List.set_cons_zero, List.set_cons_succ, i64_w, i32_w]
          rfl
         refine take_ (i := 15) (N := some 66) (v := ?_) (a' := ?_) #[true, true, true, true, true, true, true, true, true, true, true, true, true, true, true, true, false, false, false, false, false] rfl rfl (take_ofW HT_.out HW_.out (by kernel_rfl)) (fun _ _ _ h => h) (Or.inl ⟨by rfl, ?_⟩) hHeld ?_ ?_
         rotate_left
         ·rintro w' ⟨s0, s1, s2, s3, s4, s5, s6, s7, s8, s9, s10⟩
          go_simp
          with_reducible rfl
         rotate_left
         ·simp only [Act.put, List.setIfInBounds_toArray, List.set_cons_zero, List.set_cons_succ, i64_w, i32_w]
          rfl
         refine one_ (i := 16) (N := some 67) #[true, true, true, true, true, true, true, true, true, true, true, true, true, true, true, true, true, false, false, false, false] rfl rfl (one_of HT_.out (by kernel_rfl)) (by decide) (fun K hK => ?_)
         refine Kd.R_lit_step Kd.string _ 9 ?hg (N := 67) ?hd (xs := ([(⟨#[38, 97, 109, 112, 59]⟩ : ByteArray), (⟨#[38, 113, 117, 111, 116, 59]⟩ : ByteArray), (⟨#[38, 35, 49, 51, 59]⟩ : ByteArray)] : List ByteArray)) (inner := [.string (⟨#[38, 97, 109, 112, 59]⟩ : ByteArray), .string (⟨#[38, 113, 117, 111, 116, 59]⟩ : ByteArray), .string (⟨#[38, 35, 49, 51, 59]⟩ : ByteArray)]) (ok := fun _ => True) (okp := fun _ => True) ?hr ?hp (fun _ hk => hk) trivial (Below.refl _ _) (Nat.le_refl _) (by simp) ?_; (case hd => rfl); (case hg => rfl); (case hr => first | (go_simp; done) | (go_simp; rfl)); (case hp => exact (Reps.one (show Kd.M Kd.string _ _ _ (⟨#[38, 97, 109, 112, 59]⟩ : ByteArray) [.string (⟨#[38, 97, 109, 112, 59]⟩ : ByteArray)] from rfl) (Reps.one (show Kd.M Kd.string _ _ _ (⟨#[38, 113, 117, 111, 116, 59]⟩ : ByteArray) [.string (⟨#[38, 113, 117, 111, 116, 59]⟩ : ByteArray)] from rfl) (Reps.one (show Kd.M Kd.string _ _ _ (⟨#[38, 35, 49, 51, 59]⟩ : ByteArray) [.string (⟨#[38, 35, 49, 51, 59]⟩ : ByteArray)] from rfl) (Reps.none _ _)))))
         intro v179 w43 ho44 hb hg_ hnew_
         clear hg_ hnew_
         (first | rw [← Ny178.out] at ho44 | (simp only [Int.reduceToNat] at ho44; rw [← Ny178.out] at ho44))
         have n0_ := Aside0.mk (Kd.R_lower ho44 (below_size (ab2 GE171)))
         have n1_ := Aside0.mk (blk_below (g := gb171) (o := .cells #[.int .i64 ((rd_T90 l0 a1).f0), .int .i64 ((rd_T90 l0 a1).f1), .string ((rd_T90 l0 a1).f2), .slice (some ad176) ((rd_T90 l0 a1).f3).length c170_3, .string ((rd_T90 l0 a1).f4), .int .i64 ((rd_T90 l0 a1).f5), .slice A170_6 ((rd_T90 l0 a1).f6).length c170_6] 90 (0, 0)) (ab3 BK171) hb)
         have n2_ := Aside0.mk (below_step (ab2 GE171) hb)
         clear BK171
         clear HB
         have HO180 := n0_
         have BK171 := n1_
         have HB := n2_
         clear n0_ n1_ n2_
         clear hb ho44
         obtain ⟨Ao45, co45, eo45⟩ := Kd.R_slice HO180.out
         (first | subst eo45 | (injection eo45 with f1_ f2_ f3_; have f4_ := f1_.symm; have f5_ := f3_.symm; clear f1_ f2_ f3_; subst f4_; subst f5_))
         refine hK.out _ _ ⟨(blk_cell BK171.out 0).trans rfl, (blk_cell BK171.out 1).trans rfl, (blk_cell BK171.out 2).trans rfl, (blk_cell BK171.out 3).trans rfl, (blk_cell BK171.out 4).trans rfl, (blk_cell BK171.out 5).trans rfl, (blk_cell BK171.out 6).trans rfl, ((HB.out.cell (World.block_lt_of_cell? w _ hw176_0)).trans hw176_0), ((HB.out.cell (World.block_lt_of_cell? w _ hw176_1)).trans hw176_1), ((HB.out.cell (World.block_lt_of_cell? w _ hw177_0)).trans hw177_0), ((HB.out.cell (World.block_lt_of_cell? w _ hw177_1)).trans hw177_1)⟩ (fun hHeld => ?_)
         clear hK K
         refine norm_ (a' := ?_) ?_ ?_
         rotate_left
         ·show Act.put _ (some 67) _ = _
          simp only [Act.put, List.setIfInBounds_toArray, List.set_cons_zero, List.set_cons_succ, i64_w, i32_w]
          rfl
         refine one_ (i := 17) (N := some 68) #[true, true, true, true, true, true, true, true, true, true, true, true, true, true, true, true, true, true, false, false, false] rfl rfl (one_of HT_.out (by kernel_rfl)) (by decide) (fun K hK => ?_)
         refine goes_ Tryd.func105 (by kernel_rfl) rfl #[.string ((rd_T114 ((rd_T90 l0 a1).f3) x9_1).f1), .string (⟨#[38, 34, 13]⟩ : ByteArray), .slice Ao45 y178.length co45] (by rfl) rfl rfl ab5 ?_
         with_reducible refine (spec_l5Swap.calls k1 ((rd_T114 ((rd_T90 l0 a1).f3) x9_1).f1) (⟨#[38, 34, 13]⟩ : ByteArray) _ _ y178 t181 _ ?side1 ?side2 A38.out).mono ?_
         (case side1 => repeat (first | exact (Kd.R_reads' HO180.out).2.2 | (with_reducible refine Kd.C_alloc ?_ _) | (with_reducible refine Kd.C_drewN ?_ _) | (with_reducible refine Kd.C_drew ?_)))
         (case side2 => exact (Kd.R_reads' HO180.out).2.1)
         rintro e w46 ⟨rfl, hb⟩
         refine ⟨_, rfl, ?_⟩
         have n0_ := Aside0.mk (Kd.R_below (ab8 HO180) hb)
         have n1_ := Aside0.mk (blk_below (g := gb171) (o := .cells #[.int .i64 ((rd_T90 l0 a1).f0), .int .i64 ((rd_T90 l0 a1).f1), .string ((rd_T90 l0 a1).f2), .slice (some ad176) ((rd_T90 l0 a1).f3).length c170_3, .string ((rd_T90 l0 a1).f4), .int .i64 ((rd_T90 l0 a1).f5), .slice A170_6 ((rd_T90 l0 a1).f6).length c170_6] 90 (0, 0)) (ab3 BK171) hb)
         have n2_ := Aside0.mk (below_step (ab2 GE171) hb)
         clear HO180
         clear BK171
         clear HB
         have HO180 := n0_
         have BK171 := n1_
         have HB := n2_
         clear n0_ n1_ n2_
         (try clear hb)
         (try clear hb2)
         (try clear hk)
         (try clear hi)
         refine hK.out _ _ ⟨(blk_cell BK171.out 0).trans rfl, (blk_cell BK171.out 1).trans rfl, (blk_cell BK171.out 2).trans rfl, (blk_cell BK171.out 3).trans rfl, (blk_cell BK171.out 4).trans rfl, (blk_cell BK171.out 5).trans rfl, (blk_cell BK171.out 6).trans rfl, ((HB.out.cell (World.block_lt_of_cell? w _ hw176_0)).trans hw176_0), ((HB.out.cell (World.block_lt_of_cell? w _ hw176_1)).trans hw176_1), ((HB.out.cell (World.block_lt_of_cell? w _ hw177_0)).trans hw177_0), ((HB.out.cell (World.block_lt_of_cell? w _ hw177_1)).trans hw177_1)⟩ (fun hHeld => ?_)
         clear hK K
         refine norm_ (a' := ?_) ?_ ?_
         rotate_left
         ·show Act.put _ (some 68) _ = _
          simp only [Act.put, List.setIfInBounds_toArray, List.set_cons_zero, List.set_cons_succ, i64_w, i32_w]
          rfl
         refine pure_ (i := 18) (N := some 69) (v := ?_) (a' := ?_) #[true, true, true, true, true, true, true, true, true, true, true, true, true, true, true, true, true, true, true, false, false] rfl rfl (any_of HT_.out (by kernel_rfl)) (fun _ _ _ h => h) (Or.inl ⟨by rfl, ?_⟩) ?_ ?_
         rotate_left
         ·intro w'
          go_simp
          with_reducible rfl
         rotate_left
         ·simp only [Act.put, List.setIfInBounds_toArray, List.set_cons_zero, List.set_cons_succ, i64_w, i32_w]
          rfl
         refine pure_ (i := 19) (N := some 70) (v := ?_) (a' := ?_) #[true, true, true, true, true, true, true, true, true, true, true, true, true, true, true, true, true, true, true, true, false] rfl rfl (any_of HT_.out (by kernel_rfl)) (fun _ _ _ h => h) (Or.inl ⟨by rfl, ?_⟩) ?_ ?_
         rotate_left
         ·intro w'
          go_simp
          with_reducible rfl
         rotate_left
         ·simp only [Act.put, List.setIfInBounds_toArray, List.set_cons_zero, List.set_cons_succ, i64_w, i32_w]
          rfl
         refine pure_ (i := 20) (N := some 8) (v := ?_) (a' := ?_) #[true, true, true, true, true, true, true, true, true, true, true, true, true, true, true, true, true, true, true, true, true] rfl rfl (any_of HT_.out (by kernel_rfl)) (fun _ _ _ h => h) (Or.inl ⟨by rfl, ?_⟩) ?_ ?_
         rotate_left
         ·intro w'
          go_simp
          with_reducible rfl
         rotate_left
         ·simp only [Act.put, List.setIfInBounds_toArray, List.set_cons_zero, List.set_cons_succ, i64_w, i32_w]
          rfl
         refine done_ (done_of HT_.out (by kernel_rfl)) ?_
         try go_wp2
         go_roundg k1
         case measure => have := HK1.out; omega
         case rel => exact ⟨(((((x8_1 ++ (⟨#[32]⟩ : ByteArray)) ++ ((rd_T114 ((rd_T90 l0 a1).f3) x9_1).f0)) ++ (⟨#[61, 34]⟩ : ByteArray)) ++ t181) ++ (⟨#[34]⟩ : ByteArray)), (wrap64 (x9_1 + 1)), ab6, ab6, (by first | exact H' | (have h_ := H'.out; rw [c30b0] at h_; exact ⟨h_⟩)), ⟨by have := HK1.out; omega⟩, ⟨ab3 BK171⟩, ⟨ab2 GE171⟩⟩
        ·rw [if_neg c33] at H
         have c33b0 := decide_eq_false c33
         clear c33
         by_cases c47 : x8_1.size + 1 ≤ 9223372036854775807
         case neg => rw [if_neg c47] at H; exact absurd H (by simp)
         rw [if_pos c47] at H
         have c47b0 := eq_true c47
         have c47b1 := decide_eq_true c47
         try have c47b2 : (9223372036854775807 < x8_1.size + 1) = False := eq_false (Nat.not_lt.2 c47)
         have H' := Aside0.mk H
         clear H
         obtain ⟨⟨hcz48_0, hcz48_1, hcz48_2, hcz48_3, hcz48_4, hcz48_5, hcz48_6⟩, hfz48_0, hfz48_1, hfz48_2, hfz48_3, hfz48_4, hfz48_5, hfz48_6⟩ := Op.cells7 BK171.out
         go_wp2
         go_meet
         case rel => exact ⟨_, (x8_1 ++ (⟨#[62]⟩ : ByteArray)), ab6, (by first | exact H' | (have h_ := H'.out; rw [c30b0] at h_; exact ⟨h_⟩)), ⟨by have := HK1.out; first | omega | exact Nat.le_refl _⟩, ⟨ab3 BK171⟩, ⟨ab2 GE171⟩⟩
     ·rw [if_neg c30] at H
      have c30b0 : (((rd_T90 l0 a1).f0) == 2) = false := beq_eq_false_iff_ne.mpr c30
      have c30b1 : (((rd_T90 l0 a1).f0) != 2) = true := bne_iff_ne.mpr c30
      (first | rw [c30b0] | (simp only [i64_w, i32_w]; rw [c30b0]) | skip)
      (try (generalize hgzc30 : (((rd_T90 l0 a1).f0) == 2) = bqc30 at *; subst c30b0; have c30b0 := hgzc30; clear hgzc30))
      have H' := Aside0.mk H
      clear H
      go_wp2
      go_meet
      case rel => exact ⟨_, ((⟨#[]⟩ : ByteArray)), ab6, (by first | exact H' | (have h_ := H'.out; rw [c30b0] at h_; exact ⟨h_⟩)), ⟨by first | omega | exact Nat.le_refl _⟩, ⟨by (with_reducible repeat (first | refine blk_drewN ?_ _ | refine blk_drew ?_ | refine blk_alloc ?_ _)); refine blk_put (cs := #[.int .i64 ((rd_T90 l0 a1).f0), .int .i64 ((rd_T90 l0 a1).f1), .string ((rd_T90 l0 a1).f2), .slice A170_3 ((rd_T90 l0 a1).f3).length c170_3, .string ((rd_T90 l0 a1).f4), .int .i64 ((rd_T90 l0 a1).f5), .slice none 0 0]) ?_ 6 _ rfl; (with_reducible repeat (first | refine blk_drewN ?_ _ | refine blk_drew ?_ | refine blk_alloc ?_ _)); refine blk_put (cs := #[.int .i64 ((rd_T90 l0 a1).f0), .int .i64 ((rd_T90 l0 a1).f1), .string ((rd_T90 l0 a1).f2), .slice A170_3 ((rd_T90 l0 a1).f3).length c170_3, .string ((rd_T90 l0 a1).f4), .int .i64 0, .slice none 0 0]) ?_ 5 _ rfl; (with_reducible repeat (first | refine blk_drewN ?_ _ | refine blk_drew ?_ | refine blk_alloc ?_ _)); refine blk_put (cs := #[.int .i64 ((rd_T90 l0 a1).f0), .int .i64 ((rd_T90 l0 a1).f1), .string ((rd_T90 l0 a1).f2), .slice A170_3 ((rd_T90 l0 a1).f3).length c170_3, .string (⟨#[]⟩ : ByteArray), .int .i64 0, .slice none 0 0]) ?_ 4 _ rfl; (with_reducible repeat (first | refine blk_drewN ?_ _ | refine blk_drew ?_ | refine blk_alloc ?_ _)); refine blk_put (cs := #[.int .i64 ((rd_T90 l0 a1).f0), .int .i64 ((rd_T90 l0 a1).f1), .string ((rd_T90 l0 a1).f2), .slice none 0 0, .string (⟨#[]⟩ : ByteArray), .int .i64 0, .slice none 0 0]) ?_ 3 _ rfl; (with_reducible repeat (first | refine blk_drewN ?_ _ | refine blk_drew ?_ | refine blk_alloc ?_ _)); refine blk_put (cs := #[.int .i64 ((rd_T90 l0 a1).f0), .int .i64 ((rd_T90 l0 a1).f1), .string (⟨#[]⟩ : ByteArray), .slice none 0 0, .string (⟨#[]⟩ : ByteArray), .int .i64 0, .slice none 0 0]) ?_ 2 _ rfl; (with_reducible repeat (first | refine blk_drewN ?_ _ | refine blk_drew ?_ | refine blk_alloc ?_ _)); refine blk_put (cs := #[.int .i64 ((rd_T90 l0 a1).f0), .int .i64 0, .string (⟨#[]⟩ : ByteArray), .slice none 0 0, .string (⟨#[]⟩ : ByteArray), .int .i64 0, .slice none 0 0]) ?_ 1 _ rfl; (with_reducible repeat (first | refine blk_drewN ?_ _ | refine blk_drew ?_ | refine blk_alloc ?_ _)); refine blk_put (cs := #[.int .i64 0, .int .i64 0, .string (⟨#[]⟩ : ByteArray), .slice none 0 0, .string (⟨#[]⟩ : ByteArray), .int .i64 0, .slice none 0 0]) ?_ 0 _ rfl; (with_reducible repeat (first | refine blk_drewN ?_ _ | refine blk_drew ?_ | refine blk_alloc ?_ _)); exact BK171.out⟩, ⟨ab2 GE171⟩⟩
    case rest =>
     clear HC27
     (try clear c1); (try clear p1); (try clear q1); (try clear hx1); (try clear p2); (try clear c3); (try clear c4); (try clear c4b0); (try clear c5); (try clear c5b0); (try clear c6); (try clear c6b0); (try clear c6b1); (try clear p6); (try clear c7); (try clear c7b0); (try clear c7b1); (try clear c7b2); (try clear c8); (try clear c8b0); (try clear c8b1); (try clear c8b2); (try clear c10); (try clear c11); (try clear c11b0); (try clear c11b1); (try clear c12); (try clear c12b0); (try clear c12b1); (try clear c12b2); (try clear c13); (try clear c13b0); (try clear c13b1); (try clear c13b2); (try clear c16); (try clear c16b0); (try clear c16b1); (try clear c17); (try clear p17); (try clear q17); (try clear hx17); (try clear c30); (try clear c30b0); (try clear c30b1); (try clear c31); (try clear c31b0); (try clear c31b1); (try clear c31b2); (try clear c33); (try clear c33b0); (try clear c34); (try clear c34b0); (try clear c34b1); (try clear c34b2); (try clear c35); (try clear c35b0); (try clear c36); (try clear c36b0); (try clear c36b1); (try clear c36b2); (try clear c37); (try clear c37b0); (try clear c37b1); (try clear c37b2); (try clear c39); (try clear c39b0); (try clear c39b1); (try clear c39b2); (try clear c40); (try clear c40b0); (try clear c40b1); (try clear c40b2); (try clear c47); (try clear c47b0); (try clear c47b1); (try clear c47b2); (try clear hcz10_0); (try clear hcz10_1); (try clear hcz10_2); (try clear hcz10_3); (try clear hcz10_4); (try clear hcz10_5); (try clear hcz10_6); (try clear hcz15_0); (try clear hcz15_1); (try clear hcz15_2); (try clear hcz15_3); (try clear hcz15_4); (try clear hcz15_5); (try clear hcz15_6); (try clear hcz19_0); (try clear hcz19_1); (try clear hcz19_2); (try clear hcz19_3); (try clear hcz19_4); (try clear hcz19_5); (try clear hcz19_6); (try clear hcz22_0); (try clear hcz22_1); (try clear hcz22_2); (try clear hcz22_3); (try clear hcz22_4); (try clear hcz22_5); (try clear hcz22_6); (try clear hcz29_0); (try clear hcz29_1); (try clear hcz29_2); (try clear hcz29_3); (try clear hcz29_4); (try clear hcz29_5); (try clear hcz29_6); (try clear hcz32_0); (try clear hcz32_1); (try clear hcz32_2); (try clear hcz32_3); (try clear hcz32_4); (try clear hcz32_5); (try clear hcz32_6); (try clear hcz41_0); (try clear hcz41_1); (try clear hcz41_2); (try clear hcz41_3); (try clear hcz41_4); (try clear hcz41_5); (try clear hcz41_6); (try clear hcz48_0); (try clear hcz48_1); (try clear hcz48_2); (try clear hcz48_3); (try clear hcz48_4); (try clear hcz48_5); (try clear hcz48_6); (try clear hfz10_0); (try clear hfz10_1); (try clear hfz10_2); (try clear hfz10_3); (try clear hfz10_4); (try clear hfz10_5); (try clear hfz10_6); (try clear hfz15_0); (try clear hfz15_1); (try clear hfz15_2); (try clear hfz15_3); (try clear hfz15_4); (try clear hfz15_5); (try clear hfz15_6); (try clear hfz19_0); (try clear hfz19_1); (try clear hfz19_2); (try clear hfz19_3); (try clear hfz19_4); (try clear hfz19_5); (try clear hfz19_6); (try clear hfz22_0); (try clear hfz22_1); (try clear hfz22_2); (try clear hfz22_3); (try clear hfz22_4); (try clear hfz22_5); (try clear hfz22_6); (try clear hfz29_0); (try clear hfz29_1); (try clear hfz29_2); (try clear hfz29_3); (try clear hfz29_4); (try clear hfz29_5); (try clear hfz29_6); (try clear hfz32_0); (try clear hfz32_1); (try clear hfz32_2); (try clear hfz32_3); (try clear hfz32_4); (try clear hfz32_5); (try clear hfz32_6); (try clear hfz41_0); (try clear hfz41_1); (try clear hfz41_2); (try clear hfz41_3); (try clear hfz41_4); (try clear hfz41_5); (try clear hfz41_6); (try clear hfz48_0); (try clear hfz48_1); (try clear hfz48_2); (try clear hfz48_3); (try clear hfz48_4); (try clear hfz48_5); (try clear hfz48_6); (try clear hx170_0); (try clear hx170_1); (try clear hx170_2); (try clear hx170_3); (try clear hx170_4); (try clear hx170_5); (try clear hx170_6); (try clear hx176_0); (try clear hx176_1); (try clear hx177_0); (try clear hx177_1); (try clear p1); (try clear p17); (try clear p170); (try clear p176); (try clear p177); (try clear p2); (try clear q1); (try clear q17); (try clear q170); (try clear q176); (try clear q177)
     obtain ⟨kq, x8_26, rfl, HA, HJ26, BK171, HB⟩ := hcut
     cases kq with
     | zero => exact absurd HA.out (by simp [spec_l11Said.j1])
     | succ kj26 =>
      have H := HA.out
      clear HA
      simp only [spec_l11Said.j1] at H
      have H' := Aside0.mk H
      clear H
      go_wp2
      go_loopg [8, 10] kj26 (fun kq v8 v10 w' => ∃ (x8_2 : ByteArray) (x10_2 : Int), v8 = .string x8_2 ∧ v10 = .int .i64 x10_2 ∧ Aside0 (spec_l11Said.l1 kq l0 x8_2 x10_2 ((rd_T90 l0 a1).f0) ((rd_T90 l0 a1).f1) ((rd_T90 l0 a1).f2) ((rd_T90 l0 a1).f3) ((rd_T90 l0 a1).f4) ((rd_T90 l0 a1).f5) ((rd_T90 l0 a1).f6) = some r) ∧ Aside0 (kq ≤ kj26) ∧ Aside0 (w'.heap[gb171]? = some (.cells #[.int .i64 ((rd_T90 l0 a1).f0), .int .i64 ((rd_T90 l0 a1).f1), .string ((rd_T90 l0 a1).f2), (.slice A170_3 ((rd_T90 l0 a1).f3).length c170_3), .string ((rd_T90 l0 a1).f4), .int .i64 ((rd_T90 l0 a1).f5), (.slice A170_6 ((rd_T90 l0 a1).f6).length c170_6)] 90 (0, 0))) ∧ Aside0 (Below w.heap.size w w'))
      case atStart => exact ⟨(x8_26), (0), ab6, ab6, H', ⟨Nat.le_refl _⟩, ⟨ab3 BK171⟩, ⟨ab2 GE171⟩⟩
      case round =>
       clear H'
       (try clear c1); (try clear p1); (try clear q1); (try clear hx1); (try clear p2); (try clear c3); (try clear c4); (try clear c4b0); (try clear c5); (try clear c5b0); (try clear c6); (try clear c6b0); (try clear c6b1); (try clear p6); (try clear c7); (try clear c7b0); (try clear c7b1); (try clear c7b2); (try clear c8); (try clear c8b0); (try clear c8b1); (try clear c8b2); (try clear c10); (try clear c11); (try clear c11b0); (try clear c11b1); (try clear c12); (try clear c12b0); (try clear c12b1); (try clear c12b2); (try clear c13); (try clear c13b0); (try clear c13b1); (try clear c13b2); (try clear c16); (try clear c16b0); (try clear c16b1); (try clear c17); (try clear p17); (try clear q17); (try clear hx17); (try clear c30); (try clear c30b0); (try clear c30b1); (try clear c31); (try clear c31b0); (try clear c31b1); (try clear c31b2); (try clear c33); (try clear c33b0); (try clear c34); (try clear c34b0); (try clear c34b1); (try clear c34b2); (try clear c35); (try clear c35b0); (try clear c36); (try clear c36b0); (try clear c36b1); (try clear c36b2); (try clear c37); (try clear c37b0); (try clear c37b1); (try clear c37b2); (try clear c39); (try clear c39b0); (try clear c39b1); (try clear c39b2); (try clear c40); (try clear c40b0); (try clear c40b1); (try clear c40b2); (try clear c47); (try clear c47b0); (try clear c47b1); (try clear c47b2); (try clear hcz10_0); (try clear hcz10_1); (try clear hcz10_2); (try clear hcz10_3); (try clear hcz10_4); (try clear hcz10_5); (try clear hcz10_6); (try clear hcz15_0); (try clear hcz15_1); (try clear hcz15_2); (try clear hcz15_3); (try clear hcz15_4); (try clear hcz15_5); (try clear hcz15_6); (try clear hcz19_0); (try clear hcz19_1); (try clear hcz19_2); (try clear hcz19_3); (try clear hcz19_4); (try clear hcz19_5); (try clear hcz19_6); (try clear hcz22_0); (try clear hcz22_1); (try clear hcz22_2); (try clear hcz22_3); (try clear hcz22_4); (try clear hcz22_5); (try clear hcz22_6); (try clear hcz29_0); (try clear hcz29_1); (try clear hcz29_2); (try clear hcz29_3); (try clear hcz29_4); (try clear hcz29_5); (try clear hcz29_6); (try clear hcz32_0); (try clear hcz32_1); (try clear hcz32_2); (try clear hcz32_3); (try clear hcz32_4); (try clear hcz32_5); (try clear hcz32_6); (try clear hcz41_0); (try clear hcz41_1); (try clear hcz41_2); (try clear hcz41_3); (try clear hcz41_4); (try clear hcz41_5); (try clear hcz41_6); (try clear hcz48_0); (try clear hcz48_1); (try clear hcz48_2); (try clear hcz48_3); (try clear hcz48_4); (try clear hcz48_5); (try clear hcz48_6); (try clear hfz10_0); (try clear hfz10_1); (try clear hfz10_2); (try clear hfz10_3); (try clear hfz10_4); (try clear hfz10_5); (try clear hfz10_6); (try clear hfz15_0); (try clear hfz15_1); (try clear hfz15_2); (try clear hfz15_3); (try clear hfz15_4); (try clear hfz15_5); (try clear hfz15_6); (try clear hfz19_0); (try clear hfz19_1); (try clear hfz19_2); (try clear hfz19_3); (try clear hfz19_4); (try clear hfz19_5); (try clear hfz19_6); (try clear hfz22_0); (try clear hfz22_1); (try clear hfz22_2); (try clear hfz22_3); (try clear hfz22_4); (try clear hfz22_5); (try clear hfz22_6); (try clear hfz29_0); (try clear hfz29_1); (try clear hfz29_2); (try clear hfz29_3); (try clear hfz29_4); (try clear hfz29_5); (try clear hfz29_6); (try clear hfz32_0); (try clear hfz32_1); (try clear hfz32_2); (try clear hfz32_3); (try clear hfz32_4); (try clear hfz32_5); (try clear hfz32_6); (try clear hfz41_0); (try clear hfz41_1); (try clear hfz41_2); (try clear hfz41_3); (try clear hfz41_4); (try clear hfz41_5); (try clear hfz41_6); (try clear hfz48_0); (try clear hfz48_1); (try clear hfz48_2); (try clear hfz48_3); (try clear hfz48_4); (try clear hfz48_5); (try clear hfz48_6); (try clear hx170_0); (try clear hx170_1); (try clear hx170_2); (try clear hx170_3); (try clear hx170_4); (try clear hx170_5); (try clear hx170_6); (try clear hx176_0); (try clear hx176_1); (try clear hx177_0); (try clear hx177_1); (try clear p1); (try clear p17); (try clear p170); (try clear p176); (try clear p177); (try clear p2); (try clear p6); (try clear q1); (try clear q17); (try clear q170); (try clear q176); (try clear q177)
       obtain ⟨x8_2, x10_2, rfl, rfl, HA, HK2, BK171, HB⟩ := hrel
       cases gk with
       | zero => exact absurd HA.out (by simp [spec_l11Said.l1])
       | succ k2 =>
        have H := HA.out
        clear HA
        simp only [spec_l11Said.l1] at H
        by_cases c49 : x10_2 < (((rd_T90 l0 a1).f6).length : Int)
        ·rw [if_pos c49] at H
         have c49b0 := decide_eq_true c49
         clear c49
         by_cases c50 : 0 ≤ x10_2
         case neg => rw [if_neg c50] at H; exact absurd H (by simp)
         rw [if_pos c50] at H
         have c50b0 := decide_eq_true c50
         clear c50
         by_cases c51 : ((rd_T90 l0 a1).f2).toList = ([115, 99, 114, 105, 112, 116] : List UInt8)
         ·rw [if_pos c51] at H
          have c51b0 : (((rd_T90 l0 a1).f2).toList == ([115, 99, 114, 105, 112, 116] : List UInt8)) = true := beq_iff_eq.mpr c51
          have c51b1 : (((rd_T90 l0 a1).f2).toList != ([115, 99, 114, 105, 112, 116] : List UInt8)) = false := bne_eq_false_iff_eq.mpr c51
          clear c51
          replace H := Option.bind_eq_some_iff.mp H
          obtain ⟨t183, A520, H⟩ := H
          try dsimp only at H
          have A52 := Aside0.mk A520
          clear A520
          by_cases c53 : x8_2.size + t183.size ≤ 9223372036854775807
          case neg => rw [if_neg c53] at H; exact absurd H (by simp)
          rw [if_pos c53] at H
          have c53b0 := eq_true c53
          have c53b1 := decide_eq_true c53
          try have c53b2 : (9223372036854775807 < x8_2.size + t183.size) = False := eq_false (Nat.not_lt.2 c53)
          have H' := Aside0.mk H
          clear H
          obtain ⟨⟨hcz54_0, hcz54_1, hcz54_2, hcz54_3, hcz54_4, hcz54_5, hcz54_6⟩, hfz54_0, hfz54_1, hfz54_2, hfz54_3, hfz54_4, hfz54_5, hfz54_6⟩ := Op.cells7 BK171.out
          try go_wp2
          have n0_ := Aside0.mk (blk_drew BK171.out)
          have n1_ := Aside0.mk (below_drew1 HB.out)
          clear BK171
          clear HB
          have BK171 := n0_
          have HB := n1_
          clear n0_ n1_
          have p182 : 0 ≤ (x10_2 : Int) := of_decide_eq_true ab4
          have q182 : x10_2 < (((rd_T90 l0 a1).f6).length : Int) := of_decide_eq_true ab4
          obtain ⟨ad182, e182, hx182_0⟩ := Kd.at_int HR170_6.out x10_2 p182 q182
          have hw182_0 := hx182_0
          cases e182
          replace hx182_0 := pw_cell_below HB.out hx182_0
          replace p182 := eq_true p182
          replace q182 := eq_true q182
          refine start_ (n := 18) (S := fun w' => w'.cell? ⟨gb171, 0, none⟩ = some (.int .i64 ((rd_T90 l0 a1).f0)) ∧ w'.cell? ⟨gb171, 1, none⟩ = some (.int .i64 ((rd_T90 l0 a1).f1)) ∧ w'.cell? ⟨gb171, 2, none⟩ = some (.string ((rd_T90 l0 a1).f2)) ∧ w'.cell? ⟨gb171, 3, none⟩ = some (.slice A170_3 ((rd_T90 l0 a1).f3).length c170_3) ∧ w'.cell? ⟨gb171, 4, none⟩ = some (.string ((rd_T90 l0 a1).f4)) ∧ w'.cell? ⟨gb171, 5, none⟩ = some (.int .i64 ((rd_T90 l0 a1).f5)) ∧ w'.cell? ⟨gb171, 6, none⟩ = some (.slice (some ad182) ((rd_T90 l0 a1).f6).length c170_6) ∧ w'.cell? (ad182.add (x10_2).toNat) = some (.int .i64 (rd ((rd_T90 l0 a1).f6) x10_2))) (ds := []) #[false, false, false, false, false, false, false, false, false, false, false, false, false, false, false, false, false, false] (by kernel_rfl) rfl rfl ⟨(blk_cell BK171.out 0).trans rfl, (blk_cell BK171.out 1).trans rfl, (blk_cell BK171.out 2).trans rfl, (blk_cell BK171.out 3).trans rfl, (blk_cell BK171.out 4).trans rfl, (blk_cell BK171.out 5).trans rfl, (blk_cell BK171.out 6).trans rfl, ((HB.out.cell (World.block_lt_of_cell? w _ hw182_0)).trans hw182_0)⟩ (fun hHeld => ?_); refine with_tabW spec_l11Said.tab22 spec_l11Said.bits22 (fun HT_ HW_ => ?_)
          generalize wr.drew = w55 at BK171 HB hx182_0 hHeld ⊢
          refine pure_ (i := 0) (N := some 80) (v := ?_) (a' := ?_) #[true, false, false, false, false, false, false, false, false, false, false, false, false, false, false, false, false, false] rfl rfl (any_of HT_.out (by kernel_rfl)) (fun _ _ _ h => h) (Or.inl ⟨by rfl, ?_⟩) ?_ ?_
          rotate_left
          ·intro w'
           go_simp
           with_reducible rfl
          rotate_left
          ·simp only [Act.put, List.setIfInBounds_toArray, List.set_cons_zero, List.set_cons_succ, i64_w, i32_w]
           rfl
          refine pure_ (i := 1) (N := some 81) (v := ?_) (a' := ?_) #[true, true, false, false, false, false, false, false, false, false, false, false, false, false, false, false, false, false] rfl rfl (any_of HT_.out (by kernel_rfl)) (fun _ _ _ h => h) (Or.inl ⟨by rfl, ?_⟩) ?_ ?_
          rotate_left
          ·intro w'
           go_simp
           with_reducible rfl
          rotate_left
          ·simp only [Act.put, List.setIfInBounds_toArray, List.set_cons_zero, List.set_cons_succ, i64_w, i32_w]
           rfl
          refine pure_ (i := 2) (N := some 82) (v := ?_) (a' := ?_) #[true, true, true, false, false, false, false, false, false, false, false, false, false, false, false, false, false, false] rfl rfl (any_of HT_.out (by kernel_rfl)) (fun _ _ _ h => h) (Or.inl ⟨by rfl, ?_⟩) ?_ ?_
          rotate_left
          ·intro w'
           go_simp
           with_reducible rfl
          rotate_left
          ·simp only [Act.put, List.setIfInBounds_toArray, List.set_cons_zero, List.set_cons_succ, i64_w, i32_w]
           rfl
          refine pure_ (i := 4) (N := some 84) (v := ?_) (a' := ?_) #[true, true, true, false, true, false, false, false, false, false, false, false, false, false, false, false, false, false] rfl rfl (any_of HT_.out (by kernel_rfl)) (fun _ _ _ h => h) (Or.inl ⟨by rfl, ?_⟩) ?_ ?_
          rotate_left
          ·intro w'
           go_simp
           with_reducible rfl
          rotate_left
          ·simp only [Act.put, List.setIfInBounds_toArray, List.set_cons_zero, List.set_cons_succ, i64_w, i32_w]
           rfl
          refine pure_ (i := 7) (N := some 87) (v := ?_) (a' := ?_) #[true, true, true, false, true, false, false, true, false, false, false, false, false, false, false, false, false, false] rfl rfl (any_of HT_.out (by kernel_rfl)) (fun _ _ _ h => h) (Or.inl ⟨by rfl, ?_⟩) ?_ ?_
          rotate_left
          ·intro w'
           go_simp
           with_reducible rfl
          rotate_left
          ·simp only [Act.put, List.setIfInBounds_toArray, List.set_cons_zero, List.set_cons_succ, i64_w, i32_w]
           rfl
          refine take_ (i := 3) (N := some 83) (v := ?_) (a' := ?_) #[true, true, true, true, true, false, false, true, false, false, false, false, false, false, false, false, false, false] rfl rfl (take_ofW HT_.out HW_.out (by kernel_rfl)) (fun _ _ _ h => h) (Or.inl ⟨by rfl, ?_⟩) hHeld ?_ ?_
          rotate_left
          ·rintro w' ⟨s0, s1, s2, s3, s4, s5, s6, s7⟩
           go_simp
           with_reducible rfl
          rotate_left
          ·simp only [Act.put, List.setIfInBounds_toArray, List.set_cons_zero, List.set_cons_succ, i64_w, i32_w]
           rfl
          refine pure_ (i := 5) (N := some 85) (v := ?_) (a' := ?_) #[true, true, true, true, true, true, false, true, false, false, false, false, false, false, false, false, false, false] rfl rfl (any_of HT_.out (by kernel_rfl)) (fun _ _ _ h => h) (Or.inl ⟨by rfl, ?_⟩) ?_ ?_
          rotate_left
          ·intro w'
           go_simp
           with_reducible rfl
          rotate_left
          ·simp only [Act.put, List.setIfInBounds_toArray, List.set_cons_zero, List.set_cons_succ, i64_w, i32_w]
           rfl
          refine take_ (i := 6) (N := some 86) (v := ?_) (a' := ?_) #[true, true, true, true, true, true, true, true, false, false, false, false, false, false, false, false, false, false] rfl rfl (take_ofW HT_.out HW_.out (by kernel_rfl)) (fun _ _ _ h => h) (Or.inl ⟨by rfl, ?_⟩) hHeld ?_ ?_
          rotate_left
          ·rintro w' ⟨s0, s1, s2, s3, s4, s5, s6, s7⟩
           go_simp
           with_reducible rfl
          rotate_left
          ·simp only [Act.put, List.setIfInBounds_toArray, List.set_cons_zero, List.set_cons_succ, i64_w, i32_w]
           rfl
          refine take_ (i := 8) (N := some 88) (v := ?_) (a' := ?_) #[true, true, true, true, true, true, true, true, true, false, false, false, false, false, false, false, false, false] rfl rfl (take_ofW HT_.out HW_.out (by kernel_rfl)) (fun _ _ _ h => h) (Or.inl ⟨by rfl, ?_⟩) hHeld ?_ ?_
          rotate_left
          ·rintro w' ⟨s0, s1, s2, s3, s4, s5, s6, s7⟩
           go_simp
           with_reducible rfl
          rotate_left
          ·simp only [Act.put, List.setIfInBounds_toArray, List.set_cons_zero, List.set_cons_succ, i64_w, i32_w]
           rfl
          refine pure_ (i := 9) (N := some 89) (v := ?_) (a' := ?_) #[true, true, true, true, true, true, true, true, true, true, false, false, false, false, false, false, false, false] rfl rfl (any_of HT_.out (by kernel_rfl)) (fun _ _ _ h => h) (Or.inl ⟨by rfl, ?_⟩) ?_ ?_
          rotate_left
          ·intro w'
           go_simp
           with_reducible rfl
          rotate_left
          ·simp only [Act.put, List.setIfInBounds_toArray, List.set_cons_zero, List.set_cons_succ, i64_w, i32_w]
           rfl
          refine pure_ (i := 10) (N := some 90) (v := ?_) (a' := ?_) #[true, true, true, true, true, true, true, true, true, true, true, false, false, false, false, false, false, false] rfl rfl (any_of HT_.out (by kernel_rfl)) (fun _ _ _ h => h) (Or.inl ⟨by rfl, ?_⟩) ?_ ?_
          rotate_left
          ·intro w'
           go_simp
           with_reducible rfl
          rotate_left
          ·simp only [Act.put, List.setIfInBounds_toArray, List.set_cons_zero, List.set_cons_succ, i64_w, i32_w]
           rfl
          refine pure_ (i := 11) (N := some 91) (v := undef) (a' := ?_) #[true, true, true, true, true, true, true, true, true, true, true, true, false, false, false, false, false, false] rfl rfl (any_of HT_.out (by kernel_rfl)) (fun _ _ _ h => h) (Or.inr ⟨by rfl, rfl⟩) ?_ ?_
          rotate_left
          ·simp only [Act.put, List.setIfInBounds_toArray, List.set_cons_zero, List.set_cons_succ, i64_w, i32_w]
           rfl
          refine pure_ (i := 12) (N := some 92) (v := undef) (a' := ?_) #[true, true, true, true, true, true, true, true, true, true, true, true, true, false, false, false, false, false] rfl rfl (any_of HT_.out (by kernel_rfl)) (fun _ _ _ h => h) (Or.inr ⟨by rfl, rfl⟩) ?_ ?_
          rotate_left
          ·simp only [Act.put, List.setIfInBounds_toArray, List.set_cons_zero, List.set_cons_succ, i64_w, i32_w]
           rfl
          refine pure_ (i := 13) (N := some 93) (v := undef) (a' := ?_) #[true, true, true, true, true, true, true, true, true, true, true, true, true, true, false, false, false, false] rfl rfl (any_of HT_.out (by kernel_rfl)) (fun _ _ _ h => h) (Or.inr ⟨by rfl, rfl⟩) ?_ ?_
          rotate_left
          ·simp only [Act.put, List.setIfInBounds_toArray, List.set_cons_zero, List.set_cons_succ, i64_w, i32_w]
           rfl
          refine pure_ (i := 14) (N := some 94) (v := ?_) (a' := ?_) #[true, true, true, true, true, true, true, true, true, true, true, true, true, true, true, false, false, false] rfl rfl (any_of HT_.out (by kernel_rfl)) (fun _ _ _ h => h) (Or.inl ⟨by rfl, ?_⟩) ?_ ?_
          rotate_left
          ·intro w'
           go_simp
           with_reducible rfl
          rotate_left
          ·simp only [Act.put, List.setIfInBounds_toArray, List.set_cons_zero, List.set_cons_succ, i64_w, i32_w]
           rfl
          refine one_ (i := 15) (N := some 95) #[true, true, true, true, true, true, true, true, true, true, true, true, true, true, true, true, false, false] rfl rfl (one_of HT_.out (by kernel_rfl)) (by decide) (fun K hK => ?_)
          refine goes_ Tryd.func75 (by kernel_rfl) rfl #[.slice (some ad170) l0.length c0, .int .i64 (rd ((rd_T90 l0 a1).f6) x10_2), .bool true] (by rfl) rfl rfl ab5 ?_
          with_reducible refine (ih k2 (by have := HJ26.out; have := HK2.out; omega) _ _ l0 (rd ((rd_T90 l0 a1).f6) x10_2) true t183 _ ?side1 ?side2 A52.out).mono ?_
          (case side1 => repeat (first | exact (Kd.C_below HR0.out HB.out) | (with_reducible refine Kd.C_alloc ?_ _) | (with_reducible refine Kd.C_drewN ?_ _) | (with_reducible refine Kd.C_drew ?_)))
          (case side2 => exact HC0.out)
          rintro e w56 ⟨rfl, hb⟩
          refine ⟨_, rfl, ?_⟩
          have n0_ := Aside0.mk (blk_below (g := gb171) (o := .cells #[.int .i64 ((rd_T90 l0 a1).f0), .int .i64 ((rd_T90 l0 a1).f1), .string ((rd_T90 l0 a1).f2), .slice A170_3 ((rd_T90 l0 a1).f3).length c170_3, .string ((rd_T90 l0 a1).f4), .int .i64 ((rd_T90 l0 a1).f5), .slice (some ad182) ((rd_T90 l0 a1).f6).length c170_6] 90 (0, 0)) (ab3 BK171) hb)
          have n1_ := Aside0.mk (below_step (ab2 GE171) hb)
          clear BK171
          clear HB
          have BK171 := n0_
          have HB := n1_
          clear n0_ n1_
          (try clear hb)
          (try clear hb2)
          (try clear hk)
          (try clear hi)
          refine hK.out _ _ ⟨(blk_cell BK171.out 0).trans rfl, (blk_cell BK171.out 1).trans rfl, (blk_cell BK171.out 2).trans rfl, (blk_cell BK171.out 3).trans rfl, (blk_cell BK171.out 4).trans rfl, (blk_cell BK171.out 5).trans rfl, (blk_cell BK171.out 6).trans rfl, ((HB.out.cell (World.block_lt_of_cell? w _ hw182_0)).trans hw182_0)⟩ (fun hHeld => ?_)
          clear hK K
          refine norm_ (a' := ?_) ?_ ?_
          rotate_left
          ·show Act.put _ (some 95) _ = _
           simp only [Act.put, List.setIfInBounds_toArray, List.set_cons_zero, List.set_cons_succ, i64_w, i32_w]
           rfl
          refine pure_ (i := 16) (N := some 96) (v := ?_) (a' := ?_) #[true, true, true, true, true, true, true, true, true, true, true, true, true, true, true, true, true, false] rfl rfl (any_of HT_.out (by kernel_rfl)) (fun _ _ _ h => h) (Or.inl ⟨by rfl, ?_⟩) ?_ ?_
          rotate_left
          ·intro w'
           go_simp
           with_reducible rfl
          rotate_left
          ·simp only [Act.put, List.setIfInBounds_toArray, List.set_cons_zero, List.set_cons_succ, i64_w, i32_w]
           rfl
          refine pure_ (i := 17) (N := some 8) (v := ?_) (a' := ?_) #[true, true, true, true, true, true, true, true, true, true, true, true, true, true, true, true, true, true] rfl rfl (any_of HT_.out (by kernel_rfl)) (fun _ _ _ h => h) (Or.inl ⟨by rfl, ?_⟩) ?_ ?_
          rotate_left
          ·intro w'
           go_simp
           with_reducible rfl
          rotate_left
          ·simp only [Act.put, List.setIfInBounds_toArray, List.set_cons_zero, List.set_cons_succ, i64_w, i32_w]
           rfl
          refine done_ (done_of HT_.out (by kernel_rfl)) ?_
          try go_wp2
          go_roundg k2
          case measure => have := HJ26.out; have := HK2.out; omega
          case rel => exact ⟨(x8_2 ++ t183), (wrap64 (x10_2 + 1)), ab6, ab6, H', ⟨by have := HJ26.out; have := HK2.out; omega⟩, ⟨ab3 BK171⟩, ⟨ab2 GE171⟩⟩
         ·rw [if_neg c51] at H
          have c51b0 : (((rd_T90 l0 a1).f2).toList == ([115, 99, 114, 105, 112, 116] : List UInt8)) = false := beq_eq_false_iff_ne.mpr c51
          have c51b1 : (((rd_T90 l0 a1).f2).toList != ([115, 99, 114, 105, 112, 116] : List UInt8)) = true := bne_iff_ne.mpr c51
          replace H := Option.bind_eq_some_iff.mp H
          obtain ⟨t184, A570, H⟩ := H
          try dsimp only at H
          have A57 := Aside0.mk A570
          clear A570
          by_cases c58 : x8_2.size + t184.size ≤ 9223372036854775807
          case neg => rw [if_neg c58] at H; exact absurd H (by simp)
          rw [if_pos c58] at H
          have c58b0 := eq_true c58
          have c58b1 := decide_eq_true c58
          try have c58b2 : (9223372036854775807 < x8_2.size + t184.size) = False := eq_false (Nat.not_lt.2 c58)
          have H' := Aside0.mk H
          clear H
          obtain ⟨⟨hcz59_0, hcz59_1, hcz59_2, hcz59_3, hcz59_4, hcz59_5, hcz59_6⟩, hfz59_0, hfz59_1, hfz59_2, hfz59_3, hfz59_4, hfz59_5, hfz59_6⟩ := Op.cells7 BK171.out
          try go_wp2
          have n0_ := Aside0.mk (blk_drew BK171.out)
          have n1_ := Aside0.mk (below_drew1 HB.out)
          clear BK171
          clear HB
          have BK171 := n0_
          have HB := n1_
          clear n0_ n1_
          have p182 : 0 ≤ (x10_2 : Int) := of_decide_eq_true ab4
          have q182 : x10_2 < (((rd_T90 l0 a1).f6).length : Int) := of_decide_eq_true ab4
          obtain ⟨ad182, e182, hx182_0⟩ := Kd.at_int HR170_6.out x10_2 p182 q182
          have hw182_0 := hx182_0
          cases e182
          replace hx182_0 := pw_cell_below HB.out hx182_0
          replace p182 := eq_true p182
          replace q182 := eq_true q182
          refine start_ (n := 18) (S := fun w' => w'.cell? ⟨gb171, 0, none⟩ = some (.int .i64 ((rd_T90 l0 a1).f0)) ∧ w'.cell? ⟨gb171, 1, none⟩ = some (.int .i64 ((rd_T90 l0 a1).f1)) ∧ w'.cell? ⟨gb171, 2, none⟩ = some (.string ((rd_T90 l0 a1).f2)) ∧ w'.cell? ⟨gb171, 3, none⟩ = some (.slice A170_3 ((rd_T90 l0 a1).f3).length c170_3) ∧ w'.cell? ⟨gb171, 4, none⟩ = some (.string ((rd_T90 l0 a1).f4)) ∧ w'.cell? ⟨gb171, 5, none⟩ = some (.int .i64 ((rd_T90 l0 a1).f5)) ∧ w'.cell? ⟨gb171, 6, none⟩ = some (.slice (some ad182) ((rd_T90 l0 a1).f6).length c170_6) ∧ w'.cell? (ad182.add (x10_2).toNat) = some (.int .i64 (rd ((rd_T90 l0 a1).f6) x10_2))) (ds := []) #[false, false, false, false, false, false, false, false, false, false, false, false, false, false, false, false, false, false] (by kernel_rfl) rfl rfl ⟨(blk_cell BK171.out 0).trans rfl, (blk_cell BK171.out 1).trans rfl, (blk_cell BK171.out 2).trans rfl, (blk_cell BK171.out 3).trans rfl, (blk_cell BK171.out 4).trans rfl, (blk_cell BK171.out 5).trans rfl, (blk_cell BK171.out 6).trans rfl, ((HB.out.cell (World.block_lt_of_cell? w _ hw182_0)).trans hw182_0)⟩ (fun hHeld => ?_); refine with_tabW spec_l11Said.tab22 spec_l11Said.bits22 (fun HT_ HW_ => ?_)
          generalize wr.drew = w60 at BK171 HB hx182_0 hHeld ⊢
          refine pure_ (i := 0) (N := some 80) (v := ?_) (a' := ?_) #[true, false, false, false, false, false, false, false, false, false, false, false, false, false, false, false, false, false] rfl rfl (any_of HT_.out (by kernel_rfl)) (fun _ _ _ h => h) (Or.inl ⟨by rfl, ?_⟩) ?_ ?_
          rotate_left
          ·intro w'
           go_simp
           with_reducible rfl
          rotate_left
          ·simp only [Act.put, List.setIfInBounds_toArray, List.set_cons_zero, List.set_cons_succ, i64_w, i32_w]
           rfl
          refine pure_ (i := 1) (N := some 81) (v := ?_) (a' := ?_) #[true, true, false, false, false, false, false, false, false, false, false, false, false, false, false, false, false, false] rfl rfl (any_of HT_.out (by kernel_rfl)) (fun _ _ _ h => h) (Or.inl ⟨by rfl, ?_⟩) ?_ ?_
          rotate_left
          ·intro w'
           go_simp
           with_reducible rfl
          rotate_left
          ·simp only [Act.put, List.setIfInBounds_toArray, List.set_cons_zero, List.set_cons_succ, i64_w, i32_w]
           rfl
          refine pure_ (i := 2) (N := some 82) (v := ?_) (a' := ?_) #[true, true, true, false, false, false, false, false, false, false, false, false, false, false, false, false, false, false] rfl rfl (any_of HT_.out (by kernel_rfl)) (fun _ _ _ h => h) (Or.inl ⟨by rfl, ?_⟩) ?_ ?_
          rotate_left
          ·intro w'
           go_simp
           with_reducible rfl
          rotate_left
          ·simp only [Act.put, List.setIfInBounds_toArray, List.set_cons_zero, List.set_cons_succ, i64_w, i32_w]
           rfl
          refine pure_ (i := 4) (N := some 84) (v := ?_) (a' := ?_) #[true, true, true, false, true, false, false, false, false, false, false, false, false, false, false, false, false, false] rfl rfl (any_of HT_.out (by kernel_rfl)) (fun _ _ _ h => h) (Or.inl ⟨by rfl, ?_⟩) ?_ ?_
          rotate_left
          ·intro w'
           go_simp
           with_reducible rfl
          rotate_left
          ·simp only [Act.put, List.setIfInBounds_toArray, List.set_cons_zero, List.set_cons_succ, i64_w, i32_w]
           rfl
          refine pure_ (i := 7) (N := some 87) (v := ?_) (a' := ?_) #[true, true, true, false, true, false, false, true, false, false, false, false, false, false, false, false, false, false] rfl rfl (any_of HT_.out (by kernel_rfl)) (fun _ _ _ h => h) (Or.inl ⟨by rfl, ?_⟩) ?_ ?_
          rotate_left
          ·intro w'
           go_simp
           with_reducible rfl
          rotate_left
          ·simp only [Act.put, List.setIfInBounds_toArray, List.set_cons_zero, List.set_cons_succ, i64_w, i32_w]
           rfl
          refine take_ (i := 3) (N := some 83) (v := ?_) (a' := ?_) #[true, true, true, true, true, false, false, true, false, false, false, false, false, false, false, false, false, false] rfl rfl (take_ofW HT_.out HW_.out (by kernel_rfl)) (fun _ _ _ h => h) (Or.inl ⟨by rfl, ?_⟩) hHeld ?_ ?_
          rotate_left
          ·rintro w' ⟨s0, s1, s2, s3, s4, s5, s6, s7⟩
           go_simp
           with_reducible rfl
          rotate_left
          ·simp only [Act.put, List.setIfInBounds_toArray, List.set_cons_zero, List.set_cons_succ, i64_w, i32_w]
           rfl
          refine pure_ (i := 5) (N := some 85) (v := ?_) (a' := ?_) #[true, true, true, true, true, true, false, true, false, false, false, false, false, false, false, false, false, false] rfl rfl (any_of HT_.out (by kernel_rfl)) (fun _ _ _ h => h) (Or.inl ⟨by rfl, ?_⟩) ?_ ?_
          rotate_left
          ·intro w'
           go_simp
           with_reducible rfl
          rotate_left
          ·simp only [Act.put, List.setIfInBounds_toArray, List.set_cons_zero, List.set_cons_succ, i64_w, i32_w]
           rfl
          refine take_ (i := 6) (N := some 86) (v := ?_) (a' := ?_) #[true, true, true, true, true, true, true, true, false, false, false, false, false, false, false, false, false, false] rfl rfl (take_ofW HT_.out HW_.out (by kernel_rfl)) (fun _ _ _ h => h) (Or.inl ⟨by rfl, ?_⟩) hHeld ?_ ?_
          rotate_left
          ·rintro w' ⟨s0, s1, s2, s3, s4, s5, s6, s7⟩
           go_simp
           with_reducible rfl
          rotate_left
          ·simp only [Act.put, List.setIfInBounds_toArray, List.set_cons_zero, List.set_cons_succ, i64_w, i32_w]
           rfl
          refine take_ (i := 8) (N := some 88) (v := ?_) (a' := ?_) #[true, true, true, true, true, true, true, true, true, false, false, false, false, false, false, false, false, false] rfl rfl (take_ofW HT_.out HW_.out (by kernel_rfl)) (fun _ _ _ h => h) (Or.inl ⟨by rfl, ?_⟩) hHeld ?_ ?_
          rotate_left
          ·rintro w' ⟨s0, s1, s2, s3, s4, s5, s6, s7⟩
           go_simp
           with_reducible rfl
          rotate_left
          ·simp only [Act.put, List.setIfInBounds_toArray, List.set_cons_zero, List.set_cons_succ, i64_w, i32_w]
           rfl
          refine pure_ (i := 9) (N := some 89) (v := ?_) (a' := ?_) #[true, true, true, true, true, true, true, true, true, true, false, false, false, false, false, false, false, false] rfl rfl (any_of HT_.out (by kernel_rfl)) (fun _ _ _ h => h) (Or.inl ⟨by rfl, ?_⟩) ?_ ?_
          rotate_left
          ·intro w'
           go_simp
           with_reducible rfl
          rotate_left
          ·simp only [Act.put, List.setIfInBounds_toArray, List.set_cons_zero, List.set_cons_succ, i64_w, i32_w]
           rfl
          refine pure_ (i := 10) (N := some 90) (v := ?_) (a' := ?_) #[true, true, true, true, true, true, true, true, true, true, true, false, false, false, false, false, false, false] rfl rfl (any_of HT_.out (by kernel_rfl)) (fun _ _ _ h => h) (Or.inl ⟨by rfl, ?_⟩) ?_ ?_
          rotate_left
          ·intro w'
           go_simp
           with_reducible rfl
          rotate_left
          ·simp only [Act.put, List.setIfInBounds_toArray, List.set_cons_zero, List.set_cons_succ, i64_w, i32_w]
           rfl
          refine pure_ (i := 11) (N := some 91) (v := ?_) (a' := ?_) #[true, true, true, true, true, true, true, true, true, true, true, true, false, false, false, false, false, false] rfl rfl (any_of HT_.out (by kernel_rfl)) (fun _ _ _ h => h) (Or.inl ⟨by rfl, ?_⟩) ?_ ?_
          rotate_left
          ·intro w'
           go_simp
           with_reducible rfl
          rotate_left
          ·simp only [Act.put, List.setIfInBounds_toArray, List.set_cons_zero, List.set_cons_succ, i64_w, i32_w]
           rfl
          refine take_ (i := 12) (N := some 92) (v := ?_) (a' := ?_) #[true, true, true, true, true, true, true, true, true, true, true, true, true, false, false, false, false, false] rfl rfl (take_ofW HT_.out HW_.out (by kernel_rfl)) (fun _ _ _ h => h) (Or.inl ⟨by rfl, ?_⟩) hHeld ?_ ?_
          rotate_left
          ·rintro w' ⟨s0, s1, s2, s3, s4, s5, s6, s7⟩
           go_simp
           with_reducible rfl
          rotate_left
          ·simp only [Act.put, List.setIfInBounds_toArray, List.set_cons_zero, List.set_cons_succ, i64_w, i32_w]
           rfl
          refine pure_ (i := 13) (N := some 93) (v := ?_) (a' := ?_) #[true, true, true, true, true, true, true, true, true, true, true, true, true, true, false, false, false, false] rfl rfl (any_of HT_.out (by kernel_rfl)) (fun _ _ _ h => h) (Or.inl ⟨by rfl, ?_⟩) ?_ ?_
          rotate_left
          ·intro w'
           go_simp
           with_reducible rfl
          rotate_left
          ·simp only [Act.put, List.setIfInBounds_toArray, List.set_cons_zero, List.set_cons_succ, i64_w, i32_w]
           rfl
          refine pure_ (i := 14) (N := some 94) (v := ?_) (a' := ?_) #[true, true, true, true, true, true, true, true, true, true, true, true, true, true, true, false, false, false] rfl rfl (any_of HT_.out (by kernel_rfl)) (fun _ _ _ h => h) (Or.inl ⟨by rfl, ?_⟩) ?_ ?_
          rotate_left
          ·intro w'
           go_simp
           with_reducible rfl
          rotate_left
          ·simp only [Act.put, List.setIfInBounds_toArray, List.set_cons_zero, List.set_cons_succ, i64_w, i32_w]
           rfl
          refine one_ (i := 15) (N := some 95) #[true, true, true, true, true, true, true, true, true, true, true, true, true, true, true, true, false, false] rfl rfl (one_of HT_.out (by kernel_rfl)) (by decide) (fun K hK => ?_)
          refine goes_ Tryd.func75 (by kernel_rfl) rfl #[.slice (some ad170) l0.length c0, .int .i64 (rd ((rd_T90 l0 a1).f6) x10_2), .bool (((rd_T90 l0 a1).f2).toList == ([115, 116, 121, 108, 101] : List UInt8))] (by rfl) rfl rfl ab5 ?_
          with_reducible refine (ih k2 (by have := HJ26.out; have := HK2.out; omega) _ _ l0 (rd ((rd_T90 l0 a1).f6) x10_2) (((rd_T90 l0 a1).f2).toList == ([115, 116, 121, 108, 101] : List UInt8)) t184 _ ?side1 ?side2 A57.out).mono ?_
          (case side1 => repeat (first | exact (Kd.C_below HR0.out HB.out) | (with_reducible refine Kd.C_alloc ?_ _) | (with_reducible refine Kd.C_drewN ?_ _) | (with_reducible refine Kd.C_drew ?_)))
          (case side2 => exact HC0.out)
          rintro e w61 ⟨rfl, hb⟩
          refine ⟨_, rfl, ?_⟩
          have n0_ := Aside0.mk (blk_below (g := gb171) (o := .cells #[.int .i64 ((rd_T90 l0 a1).f0), .int .i64 ((rd_T90 l0 a1).f1), .string ((rd_T90 l0 a1).f2), .slice A170_3 ((rd_T90 l0 a1).f3).length c170_3, .string ((rd_T90 l0 a1).f4), .int .i64 ((rd_T90 l0 a1).f5), .slice (some ad182) ((rd_T90 l0 a1).f6).length c170_6] 90 (0, 0)) (ab3 BK171) hb)
          have n1_ := Aside0.mk (below_step (ab2 GE171) hb)
          clear BK171
          clear HB
          have BK171 := n0_
          have HB := n1_
          clear n0_ n1_
          (try clear hb)
          (try clear hb2)
          (try clear hk)
          (try clear hi)
          refine hK.out _ _ ⟨(blk_cell BK171.out 0).trans rfl, (blk_cell BK171.out 1).trans rfl, (blk_cell BK171.out 2).trans rfl, (blk_cell BK171.out 3).trans rfl, (blk_cell BK171.out 4).trans rfl, (blk_cell BK171.out 5).trans rfl, (blk_cell BK171.out 6).trans rfl, ((HB.out.cell (World.block_lt_of_cell? w _ hw182_0)).trans hw182_0)⟩ (fun hHeld => ?_)
          clear hK K
          refine norm_ (a' := ?_) ?_ ?_
          rotate_left
          ·show Act.put _ (some 95) _ = _
           simp only [Act.put, List.setIfInBounds_toArray, List.set_cons_zero, List.set_cons_succ, i64_w, i32_w]
           rfl
          refine pure_ (i := 16) (N := some 96) (v := ?_) (a' := ?_) #[true, true, true, true, true, true, true, true, true, true, true, true, true, true, true, true, true, false] rfl rfl (any_of HT_.out (by kernel_rfl)) (fun _ _ _ h => h) (Or.inl ⟨by rfl, ?_⟩) ?_ ?_
          rotate_left
          ·intro w'
           go_simp
           with_reducible rfl
          rotate_left
          ·simp only [Act.put, List.setIfInBounds_toArray, List.set_cons_zero, List.set_cons_succ, i64_w, i32_w]
           rfl
          refine pure_ (i := 17) (N := some 8) (v := ?_) (a' := ?_) #[true, true, true, true, true, true, true, true, true, true, true, true, true, true, true, true, true, true] rfl rfl (any_of HT_.out (by kernel_rfl)) (fun _ _ _ h => h) (Or.inl ⟨by rfl, ?_⟩) ?_ ?_
          rotate_left
          ·intro w'
           go_simp
           with_reducible rfl
          rotate_left
          ·simp only [Act.put, List.setIfInBounds_toArray, List.set_cons_zero, List.set_cons_succ, i64_w, i32_w]
           rfl
          refine done_ (done_of HT_.out (by kernel_rfl)) ?_
          try go_wp2
          go_roundg k2
          case measure => have := HJ26.out; have := HK2.out; omega
          case rel => exact ⟨(x8_2 ++ t184), (wrap64 (x10_2 + 1)), ab6, ab6, H', ⟨by have := HJ26.out; have := HK2.out; omega⟩, ⟨ab3 BK171⟩, ⟨ab2 GE171⟩⟩
        ·rw [if_neg c49] at H
         have c49b0 := decide_eq_false c49
         clear c49
         by_cases c62 : ((rd_T90 l0 a1).f0) = 1
         ·rw [if_pos c62] at H
          have c62b0 : (((rd_T90 l0 a1).f0) == 1) = true := beq_iff_eq.mpr c62
          have c62b1 : (((rd_T90 l0 a1).f0) != 1) = false := bne_eq_false_iff_eq.mpr c62
          clear c62
          obtain rfl := Option.some.inj H
          obtain ⟨⟨hcz63_0, hcz63_1, hcz63_2, hcz63_3, hcz63_4, hcz63_5, hcz63_6⟩, hfz63_0, hfz63_1, hfz63_2, hfz63_3, hfz63_4, hfz63_5, hfz63_6⟩ := Op.cells7 BK171.out
          go_wp2
          go_ret
          exact ⟨ab7, ab2 GE171⟩
         ·rw [if_neg c62] at H
          have c62b0 : (((rd_T90 l0 a1).f0) == 1) = false := beq_eq_false_iff_ne.mpr c62
          have c62b1 : (((rd_T90 l0 a1).f0) != 1) = true := bne_iff_ne.mpr c62
          replace H := Option.bind_eq_some_iff.mp H
          obtain ⟨t185, A640, H⟩ := H
          try dsimp only at H
          have A64 := Aside0.mk A640
          clear A640
          by_cases c65 : t185 = true
          ·subst c65
           rw [if_pos rfl] at H
           by_cases c66 : ((rd_T90 l0 a1).f1) = 0
           ·rw [if_pos c66] at H
            have c66b0 : (((rd_T90 l0 a1).f1) == 0) = true := beq_iff_eq.mpr c66
            have c66b1 : (((rd_T90 l0 a1).f1) != 0) = false := bne_eq_false_iff_eq.mpr c66
            clear c66
            obtain rfl := Option.some.inj H
            obtain ⟨⟨hcz67_0, hcz67_1, hcz67_2, hcz67_3, hcz67_4, hcz67_5, hcz67_6⟩, hfz67_0, hfz67_1, hfz67_2, hfz67_3, hfz67_4, hfz67_5, hfz67_6⟩ := Op.cells7 BK171.out
            go_wp2_with (first | (go_at_call 106; (with_reducible refine (spec_Void.calls k2 ((rd_T90 l0 a1).f2) true _ A64.out).mono ?_); rintro e w68 ⟨rfl, hb⟩; have n0_ := Aside0.mk (blk_below (g := gb171) (o := .cells #[.int .i64 ((rd_T90 l0 a1).f0), .int .i64 ((rd_T90 l0 a1).f1), .string ((rd_T90 l0 a1).f2), .slice A170_3 ((rd_T90 l0 a1).f3).length c170_3, .string ((rd_T90 l0 a1).f4), .int .i64 ((rd_T90 l0 a1).f5), .slice A170_6 ((rd_T90 l0 a1).f6).length c170_6] 90 (0, 0)) (ab3 BK171) hb); have n1_ := Aside0.mk (below_step (ab2 GE171) hb); clear BK171; clear HB; have BK171 := n0_; have HB := n1_; clear n0_ n1_; (try clear hb); (try clear hb2); (try clear hk); (try clear hi); obtain ⟨⟨hcz69_0, hcz69_1, hcz69_2, hcz69_3, hcz69_4, hcz69_5, hcz69_6⟩, hfz69_0, hfz69_1, hfz69_2, hfz69_3, hfz69_4, hfz69_5, hfz69_6⟩ := Op.cells7 BK171.out))
            go_ret
            exact ⟨ab7, ab2 GE171⟩
           ·rw [if_neg c66] at H
            have c66b0 : (((rd_T90 l0 a1).f1) == 0) = false := beq_eq_false_iff_ne.mpr c66
            have c66b1 : (((rd_T90 l0 a1).f1) != 0) = true := bne_iff_ne.mpr c66
            by_cases c70 : x8_2.size + 2 ≤ 9223372036854775807
            case neg => rw [if_neg c70] at H; exact absurd H (by simp)
            rw [if_pos c70] at H
            have c70b0 := eq_true c70
            have c70b1 := decide_eq_true c70
            try have c70b2 : (9223372036854775807 < x8_2.size + 2) = False := eq_false (Nat.not_lt.2 c70)
            by_cases c71 : (x8_2 ++ (⟨#[60, 47]⟩ : ByteArray)).size + ((rd_T90 l0 a1).f2).size ≤ 9223372036854775807
            case neg => rw [if_neg c71] at H; exact absurd H (by simp)
            rw [if_pos c71] at H
            have c71b0 := eq_true c71
            have c71b1 := decide_eq_true c71
            try (have c71b5 := c71; simp only [ByteArray.size_append, show (⟨#[60, 47]⟩ : ByteArray).size = 2 from rfl] at c71b5; have c71b6 := eq_false (Nat.not_lt.2 c71b5))
            try have c71b2 : (9223372036854775807 < (x8_2 ++ (⟨#[60, 47]⟩ : ByteArray)).size + ((rd_T90 l0 a1).f2).size) = False := eq_false (Nat.not_lt.2 c71)
            by_cases c72 : ((x8_2 ++ (⟨#[60, 47]⟩ : ByteArray)) ++ ((rd_T90 l0 a1).f2)).size + 1 ≤ 9223372036854775807
            case neg => rw [if_neg c72] at H; exact absurd H (by simp)
            rw [if_pos c72] at H
            have c72b0 := eq_true c72
            have c72b1 := decide_eq_true c72
            try (have c72b5 := c72; simp only [ByteArray.size_append, show (⟨#[60, 47]⟩ : ByteArray).size = 2 from rfl] at c72b5; have c72b6 := eq_false (Nat.not_lt.2 c72b5))
            try have c72b2 : (9223372036854775807 < ((x8_2 ++ (⟨#[60, 47]⟩ : ByteArray)) ++ ((rd_T90 l0 a1).f2)).size + 1) = False := eq_false (Nat.not_lt.2 c72)
            obtain rfl := Option.some.inj H
            obtain ⟨⟨hcz73_0, hcz73_1, hcz73_2, hcz73_3, hcz73_4, hcz73_5, hcz73_6⟩, hfz73_0, hfz73_1, hfz73_2, hfz73_3, hfz73_4, hfz73_5, hfz73_6⟩ := Op.cells7 BK171.out
            go_wp2_with (first | (go_at_call 106; (with_reducible refine (spec_Void.calls k2 ((rd_T90 l0 a1).f2) true _ A64.out).mono ?_); rintro e w74 ⟨rfl, hb⟩; have n0_ := Aside0.mk (blk_below (g := gb171) (o := .cells #[.int .i64 ((rd_T90 l0 a1).f0), .int .i64 ((rd_T90 l0 a1).f1), .string ((rd_T90 l0 a1).f2), .slice A170_3 ((rd_T90 l0 a1).f3).length c170_3, .string ((rd_T90 l0 a1).f4), .int .i64 ((rd_T90 l0 a1).f5), .slice A170_6 ((rd_T90 l0 a1).f6).length c170_6] 90 (0, 0)) (ab3 BK171) hb); have n1_ := Aside0.mk (below_step (ab2 GE171) hb); clear BK171; clear HB; have BK171 := n0_; have HB := n1_; clear n0_ n1_; (try clear hb); (try clear hb2); (try clear hk); (try clear hi); obtain ⟨⟨hcz75_0, hcz75_1, hcz75_2, hcz75_3, hcz75_4, hcz75_5, hcz75_6⟩, hfz75_0, hfz75_1, hfz75_2, hfz75_3, hfz75_4, hfz75_5, hfz75_6⟩ := Op.cells7 BK171.out))
            go_ret
            exact ⟨ab7, ab2 GE171⟩
          ·replace c65 := Bool.eq_false_iff.mpr c65
           subst c65
           rw [if_neg (show ¬ (false = true) by decide)] at H
           by_cases c76 : x8_2.size + 2 ≤ 9223372036854775807
           case neg => rw [if_neg c76] at H; exact absurd H (by simp)
           rw [if_pos c76] at H
           have c76b0 := eq_true c76
           have c76b1 := decide_eq_true c76
           try have c76b2 : (9223372036854775807 < x8_2.size + 2) = False := eq_false (Nat.not_lt.2 c76)
           by_cases c77 : (x8_2 ++ (⟨#[60, 47]⟩ : ByteArray)).size + ((rd_T90 l0 a1).f2).size ≤ 9223372036854775807
           case neg => rw [if_neg c77] at H; exact absurd H (by simp)
           rw [if_pos c77] at H
           have c77b0 := eq_true c77
           have c77b1 := decide_eq_true c77
           try (have c77b5 := c77; simp only [ByteArray.size_append, show (⟨#[60, 47]⟩ : ByteArray).size = 2 from rfl] at c77b5; have c77b6 := eq_false (Nat.not_lt.2 c77b5))
           try have c77b2 : (9223372036854775807 < (x8_2 ++ (⟨#[60, 47]⟩ : ByteArray)).size + ((rd_T90 l0 a1).f2).size) = False := eq_false (Nat.not_lt.2 c77)
           by_cases c78 : ((x8_2 ++ (⟨#[60, 47]⟩ : ByteArray)) ++ ((rd_T90 l0 a1).f2)).size + 1 ≤ 9223372036854775807
           case neg => rw [if_neg c78] at H; exact absurd H (by simp)
           rw [if_pos c78] at H
           have c78b0 := eq_true c78
           have c78b1 := decide_eq_true c78
           try (have c78b5 := c78; simp only [ByteArray.size_append, show (⟨#[60, 47]⟩ : ByteArray).size = 2 from rfl] at c78b5; have c78b6 := eq_false (Nat.not_lt.2 c78b5))
           try have c78b2 : (9223372036854775807 < ((x8_2 ++ (⟨#[60, 47]⟩ : ByteArray)) ++ ((rd_T90 l0 a1).f2)).size + 1) = False := eq_false (Nat.not_lt.2 c78)
           obtain rfl := Option.some.inj H
           obtain ⟨⟨hcz79_0, hcz79_1, hcz79_2, hcz79_3, hcz79_4, hcz79_5, hcz79_6⟩, hfz79_0, hfz79_1, hfz79_2, hfz79_3, hfz79_4, hfz79_5, hfz79_6⟩ := Op.cells7 BK171.out
           go_wp2_with (first | (go_at_call 106; (with_reducible refine (spec_Void.calls k2 ((rd_T90 l0 a1).f2) false _ A64.out).mono ?_); rintro e w80 ⟨rfl, hb⟩; have n0_ := Aside0.mk (blk_below (g := gb171) (o := .cells #[.int .i64 ((rd_T90 l0 a1).f0), .int .i64 ((rd_T90 l0 a1).f1), .string ((rd_T90 l0 a1).f2), .slice A170_3 ((rd_T90 l0 a1).f3).length c170_3, .string ((rd_T90 l0 a1).f4), .int .i64 ((rd_T90 l0 a1).f5), .slice A170_6 ((rd_T90 l0 a1).f6).length c170_6] 90 (0, 0)) (ab3 BK171) hb); have n1_ := Aside0.mk (below_step (ab2 GE171) hb); clear BK171; clear HB; have BK171 := n0_; have HB := n1_; clear n0_ n1_; (try clear hb); (try clear hb2); (try clear hk); (try clear hi); obtain ⟨⟨hcz81_0, hcz81_1, hcz81_2, hcz81_3, hcz81_4, hcz81_5, hcz81_6⟩, hfz81_0, hfz81_1, hfz81_2, hfz81_3, hfz81_4, hfz81_5, hfz81_6⟩ := Op.cells7 BK171.out))
           go_ret
           exact ⟨ab7, ab2 GE171⟩

end Go.Proofs.YtgljgbkbjlondaaDoor.P
