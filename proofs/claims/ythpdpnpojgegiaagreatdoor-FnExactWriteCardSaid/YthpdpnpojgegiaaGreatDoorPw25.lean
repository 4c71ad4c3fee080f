-- WRITTEN BY hprint.py
import Derived.Test.YthpdpnpojgegiaaGreatDoorPw0
import Derived.Test.YthpdpnpojgegiaaGreatDoorPw11
namespace Go.Proofs.YthpdpnpojgegiaaGreatDoor.P
open Go.RowKit Go.Proofs.YthpdpnpojgegiaaGreatDoorW.PrintWords Go.Proofs.YthpdpnpojgegiaaGreatDoorW.PrintLast Go.Proofs.YthpdpnpojgegiaaGreatDoorW.PrintMore
attribute [local go_sem] max2_int min2_int max_two min_two max_three min_three max_four min_four
set_option linter.unusedVariables false
set_option linter.unusedSimpArgs false
set_option maxHeartbeats 4000000
set_option maxRecDepth 100000

/-! ### impl_inSpans: function 86 (by hand) -/
def inSp (a : Int) : List (Int × Int) → Bool
 | [] => false
 | p :: ps => if p.1 ≤ a ∧ a ≤ p.2 then true else inSp a ps
theorem inSp_drop (a : Int) (sp : List (Int × Int)) (j : Nat) (h : j < sp.length) : inSp a (sp.drop j) = if sp[j].1 ≤ a ∧ a ≤ sp[j].2 then true else inSp a (sp.drop (j + 1)) := by
 rw [List.drop_eq_getElem_cons h]; rfl
theorem inRange_eq (a l m : Int) : impl_inRange.f a l m = some (decide (l ≤ a ∧ a ≤ m)) := by
 unfold impl_inRange.f
 by_cases h : a ≥ l
 ·rw [if_pos h]; simp [h]
 ·rw [if_neg h]; simp; omega
def flatSp : List (Int × Int) → List Value
 | [] => []
 | p :: ps => .int .i64 p.1 :: .int .i64 p.2 :: flatSp ps
theorem flatSp_get : ∀ (sp : List (Int × Int)) (j : Nat) (h : j < sp.length), (flatSp sp)[j * 2]? = some (.int .i64 sp[j].1) ∧ (flatSp sp)[j * 2 + 1]? = some (.int .i64 sp[j].2)
 | [], _, h => absurd h (by simp)
 | _ :: _, 0, _ => ⟨rfl, rfl⟩
 | p :: ps, j + 1, h => by
  have ih := flatSp_get ps j (by simpa using h)
  rw [show (j + 1) * 2 = j * 2 + 1 + 1 from by omega]
  exact ⟨by simpa [flatSp] using ih.1, by simpa [flatSp] using ih.2⟩
theorem lit_cells (w : World) (sp : List (Int × Int)) (cells : Array Value) (e : TypeId) (fr : Nat × Nat) (hc : cells = (flatSp sp).toArray) (j : Nat) (h : j < sp.length) :
  (w.alloc (.cells cells e fr)).cell? ⟨w.heap.size, j * 2, none⟩ = some (.int .i64 sp[j].1) ∧ (w.alloc (.cells cells e fr)).cell? ⟨w.heap.size, j * 2 + 1, none⟩ = some (.int .i64 sp[j].2) := by
 have hb : (w.alloc (.cells cells e fr)).heap[w.heap.size]? = some (.cells cells e fr) := by
  show (w.heap.push _)[w.heap.size]? = _
  exact Array.getElem?_push_size
 subst hc
 obtain ⟨h1, h2⟩ := flatSp_get sp j h
 rw [Go.Lib.cell_of_heap hb, Go.Lib.cell_of_heap hb]
 exact ⟨by simpa using h1, by simpa using h2⟩
theorem bu_inSpans (a0 : Int) (g c : Nat) (sp : List (Int × Int)) (w : World) (hsp : sp.length ≤ 100) (hcell : ∀ j (h : j < sp.length), w.cell? ⟨g, j * 2, none⟩ = some (.int .i64 sp[j].1) ∧ w.cell? ⟨g, j * 2 + 1, none⟩ = some (.int .i64 sp[j].2)) :
  Calls Tryz.prog 86 #[.int .i64 a0, .slice (some ⟨g, 0, none⟩) sp.length c] w fun e w' => e = .returned (.bool (inSp a0 sp)) ∧ Below w.heap.size w w' := by
 have hu := Tryz.underlying93
 have HC := am hcell
 clear hcell
 go_enter Tryz.func86, Tryz.ntmps86
 go_wp2
 go_loopw [9] (fun v9 wr => ∃ (j : Nat), v9 = .int .i64 j ∧ Aside0 (Below w.heap.size w wr) ∧ Aside0 (j ≤ sp.length) ∧ Aside0 (inSp a0 (sp.drop j) = inSp a0 sp)) (fun v9 _ => sp.length - (intOf v9).toNat)
 case atStart => exact ⟨0, rfl, ⟨Below.refl _ _⟩, ⟨Nat.zero_le _⟩, ⟨rfl⟩⟩
 case round =>
  obtain ⟨j, rfl, HB, HJ, HE⟩ := hrel
  by_cases hlt : j < sp.length
  ·obtain ⟨h1, h2⟩ := HC.out j hlt
   have h1' := (HB.out.cell (World.block_lt_of_cell? w _ h1)).trans h1
   have h2' := (HB.out.cell (World.block_lt_of_cell? w _ h2)).trans h2
   clear h1 h2
   have hE := HE.out
   rw [inSp_drop a0 sp j hlt] at hE
   have hl100 : j ≤ 100 := by omega
   by_cases hin : sp[j].1 ≤ a0 ∧ a0 ≤ sp[j].2
   ·rw [if_pos hin] at hE
    have hr := inRange_eq a0 sp[j].1 sp[j].2
    rw [decide_eq_true hin] at hr
    have HR := am hr
    have HE2 := am hE
    clear hin hr hE
    go_wp2_with (go_at_call 50; (with_reducible refine (impl_inRange.calls a0 sp[j].1 sp[j].2 true _ HR.out).mono ?_); rintro e w' ⟨rfl, ⟨nd, rfl⟩⟩)
    go_ret
    exact ⟨by rw [← HE2.out]; rfl, ab1⟩
   ·rw [if_neg hin] at hE
    have hr := inRange_eq a0 sp[j].1 sp[j].2
    rw [decide_eq_false hin] at hr
    have HR := am hr
    have HE2 := am hE
    clear hin hr hE
    go_wp2_with (go_at_call 50; (with_reducible refine (impl_inRange.calls a0 sp[j].1 sp[j].2 false _ HR.out).mono ?_); rintro e w' ⟨rfl, ⟨nd, rfl⟩⟩)
    go_roundw
    case rel => exact ⟨j + 1, by go_num, ⟨ab1⟩, ⟨hlt⟩, HE2⟩
    case measure => simp [intOf]; omega
  ·have hE := HE.out
   rw [List.drop_eq_nil_of_le (by omega)] at hE
   have HE2 := am hE
   clear hE
   go_wp2
   go_ret
   exact ⟨by rw [← HE2.out]; rfl, HB.out⟩


end Go.Proofs.YthpdpnpojgegiaaGreatDoor.P
