-- WRITTEN BY hprint.py
import Derived.Test.YthpdpnpojgegiaaGreatDoorPw0
import Derived.Test.YthpdpnpojgegiaaGreatDoorPw12
import Derived.Test.YthpdpnpojgegiaaGreatDoorPw15
import Derived.Test.YthpdpnpojgegiaaGreatDoorPw16
namespace Go.Proofs.YthpdpnpojgegiaaGreatDoor.P
open Go.RowKit Go.Proofs.YthpdpnpojgegiaaGreatDoorW.PrintWords Go.Proofs.YthpdpnpojgegiaaGreatDoorW.PrintLast Go.Proofs.YthpdpnpojgegiaaGreatDoorW.PrintMore
attribute [local go_sem] max2_int min2_int max_two min_two max_three min_three max_four min_four
set_option linter.unusedVariables false
set_option linter.unusedSimpArgs false
set_option maxHeartbeats 8000000
set_option maxRecDepth 100000

/-! ### impl_SignText: function 96 (by hand) -/
def impl_SignText.l0 : Nat → List Int → ByteArray → Int → Option (ByteArray)
 | 0, _, _, _ => none
 | k + 1, x0, x3, x4 => if x4 < (x0.length : Int) then (if 0 ≤ x4 then ((impl_PutSign.f k (rd x0 x4)).bind fun t => (if x3.size + t.size ≤ 140737488355328 then (impl_SignText.l0 k x0 (x3 ++ t) (wrap64 (x4 + 1))) else (none))) else (none)) else (some x3)
def impl_SignText.f (k : Nat) (l0 : List Int) : Option (ByteArray) := impl_SignText.l0 k l0 (⟨#[]⟩ : ByteArray) 0
theorem impl_SignText.mono_l : ∀ k, (∀ y0 y1 y2, LeO (impl_SignText.l0 k y0 y1 y2) (impl_SignText.l0 (k + 1) y0 y1 y2))
 | 0 => fun _ _ _ r h => by simp [impl_SignText.l0] at h
 | k + 1 => by
  have ih0 := impl_SignText.mono_l k
  intro y0 y1 y2
  unfold impl_SignText.l0
  repeat' with_reducible first | exact ih0 _ _ _ | exact impl_PutSign.mono _ _ | exact LeO.refl _ | exact LeO.none _ | refine LeO.ite ?_ ?_ | refine LeO.bind ?_ fun _ => ?_
theorem impl_SignText.mono : ∀ a0 k, LeO (impl_SignText.f k a0) (impl_SignText.f (k + 1) a0) := fun a0 k => impl_SignText.mono_l k _ _ _
theorem impl_SignText.calls (k : Nat) (A0 : Option Addr) (c0 : Nat) (l0 : List Int) (r : ByteArray) (w : World) (hr0 : Kd.C (Kd.int .i64) w A0 l0.length l0) (hc0 : l0.length ≤ c0) (h : impl_SignText.f k l0 = some r) :
  Calls Tryz.prog 96 #[.slice A0 l0.length c0] w fun e w' => e = .returned (.string r) ∧ Below w.heap.size w w' := by
 have HR0 := am hr0
 have H' := am h
 clear hr0 hc0 h
 go_enter Tryz.func96, Tryz.ntmps96
 go_wp2
 go_loopw [8] (fun v8 wr => ∃ (j : Nat) (acc : ByteArray) (m : Nat), v8 = .int .i64 j ∧ Lib.IsBuilderF 46 5 w.heap.size w.heap.size (Lib.strCells acc) wr ∧ Aside0 (Below w.heap.size w wr) ∧ Aside0 (impl_SignText.l0 m l0 acc j = some r)) (fun v8 _ => l0.length - (intOf v8).toNat)
 case atStart =>
  exact ⟨0, ⟨#[]⟩, k, rfl, Lib.IsBuilderF.of (Lib.fresh_isBuilder 46 5 w), ⟨(Below.refl _ w).alloc (Nat.le_refl _) _⟩, H'⟩
 case round =>
  obtain ⟨j, acc, m, rfl, hI, HB, HA⟩ := hrel
  cases m with
  | zero => exact absurd HA.out (by simp [impl_SignText.l0])
  | succ m =>
   have H := HA.out
   clear HA
   simp only [impl_SignText.l0] at H
   by_cases hlt : (j : Int) < (l0.length : Int)
   ·rw [if_pos hlt, if_pos (Int.natCast_nonneg j)] at H
    obtain ⟨t, hp, H⟩ := Option.bind_eq_some_iff.mp H
    by_cases hs : acc.size + t.size ≤ 140737488355328
    ·rw [if_pos hs] at H
     obtain ⟨ad, hA, hx⟩ := Kd.at_int HR0.out (j : Int) (Int.natCast_nonneg j) hlt
     subst hA
     rw [Int.toNat_natCast] at hx
     have hx2 := (HB.out.cell (World.block_lt_of_cell? w _ hx)).trans hx
     clear hx
     have hj1 : (j : Int) + 1 ≤ 9223372036854775807 := by have := HR0.out.2.1; omega
     rw [show wrap64 ((j : Int) + 1) = ((j + 1 : Nat) : Int) from by unfold wrap64; omega] at H
     have HP := am hp
     have H' := am H
     have HS := am hs
     have HL := am HB.out.size
     clear hp H hs
     have hlt2 : j < l0.length := by omega
     go_wp2_with (go_at_call 104; (with_reducible refine (impl_PutSign.calls m (rd l0 (j : Int)) t _ HP.out).mono ?_); rintro e w1 ⟨rfl, hb1⟩)
     have hI2 := Op.bu_below hI hb1
     have HB1 := am hb1
     have HL1 := am hb1.size
     clear hI hb1
     go_wp2_with (go_at_call 25; (with_reducible refine (bu_WriteString w.heap.size w.heap.size (Lib.strCells acc) t _ hI2 (by rw [Lib.strCells_length]; exact HS.out) (Nat.le_trans HL.out HL1.out)).mono ?_); rintro e w2 ⟨rfl, h1, b1, _⟩)
     go_roundw
     case rel =>
      exact ⟨j + 1, acc ++ t, m, by go_num, by rw [Op.strCells_add]; exact h1, ⟨below_then HB.out HL.out HB1.out |>.trans b1⟩, H'⟩
     case measure => simp [intOf]; omega
    ·rw [if_neg hs] at H; cases H
   ·rw [if_neg hlt] at H
    obtain rfl := Option.some.inj H
    have hlt2 : ¬ j < l0.length := by omega
    go_wp2_with (go_at_call 21; (with_reducible refine (bu_String w.heap.size w.heap.size acc.data.toList _ (by rw [← Op.strCells_bytes]; exact hI) HB.out.size).mono ?_); rintro e w1 ⟨rfl, _, b1, _⟩)
    go_ret
    exact ⟨by first | rfl | rw [Op.string_back] | simp, HB.out.trans b1⟩


end Go.Proofs.YthpdpnpojgegiaaGreatDoor.P
