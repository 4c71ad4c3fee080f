-- WRITTEN BY hprint.py, this session's own program, over the kit's printer: not typed by hand; Lean checks it
import Derived.Test.YtaomfbbbdddlmaaQs0
import Derived.Test.YtaomfbbbdddlmaaQs22
namespace Go.Proofs.Ytaomfbbbdddlmaa.P
open Go.RowKit Go.Proofs.YtaomfbbbdddlmaaW.PrintWords Go.Proofs.YtaomfbbbdddlmaaW.PrintLast Go.Proofs.YtaomfbbbdddlmaaW.PrintMore
attribute [local go_sem] max2_int min2_int max_two min_two max_three min_three max_four min_four   -- for this text's walks alone
set_option linter.unusedVariables false
set_option linter.unusedSimpArgs false

/-! ### spec_Small: function 112 (by hand) -/
def spec_Small.f (a0 : ByteArray) : Option ByteArray := if a0.size ≤ 4611686018427387904 then some (lowS a0) else none
set_option maxHeartbeats 8000000 in
set_option maxRecDepth 100000 in
theorem spec_Small.calls (a0 : ByteArray) (r : ByteArray) (w : World) (h : spec_Small.f a0 = some r) :
  Calls Try.prog 112 #[.string a0] w fun e w' => e = .returned (.string r) ∧ Below w.heap.size w w' := by
 unfold spec_Small.f at h
 by_cases hs : a0.size ≤ 4611686018427387904
 case neg => rw [if_neg hs] at h; cases h
 rw [if_pos hs] at h
 obtain rfl := Option.some.inj h
 clear h
 have hlen : a0.data.toList.length = a0.size := Array.length_toList
 have HLEN := Aside0.mk hlen
 have HS := Aside0.mk hs
 clear hlen hs
 have hconv := fun (s_ : ByteArray) (W_ : World) => Go.run_bytes_of_string (P := Try.prog) W_ 9 92 5 s_ Try.underlying9 Try.underlying92 Try.underlying5
 go_enter Try.func112, Try.ntmps112
 go_wp2
 clear hconv
 go_loopw [4] (fun vj wr => ∃ (j : Nat) (C : Array Value) (fr : Nat × Nat), vj = .int .i64 j ∧ Aside0 (wr.heap[w.heap.size]? = some (.cells C 5 fr)) ∧ Aside0 (LowRow a0 j C) ∧ Aside0 (Below w.heap.size w wr) ∧ Aside0 (j ≤ a0.size) ∧ Aside0 (a0.size ≤ fr.1)) (fun vj _ => a0.size - (intOf vj).toNat)
 case atStart =>
  refine ⟨0, bytesRow a0 (grownCap w a0.size 0 5), ((bytesRow a0 (grownCap w a0.size 0 5)).size, (bytesRow a0 (grownCap w a0.size 0 5)).size + 1), rfl, ⟨?_⟩, ⟨LowRow.start a0 _⟩, ⟨((Below.refl _ w).alloc (Nat.le_refl _) _).drew⟩, ⟨Nat.zero_le _⟩, ⟨?_⟩⟩
  ·show (w.heap.push _)[w.heap.size]? = _
   exact Array.getElem?_push_size
  ·show a0.size ≤ (bytesRow a0 _).size
   unfold bytesRow
   rw [Array.size_append, Array.size_map]
   exact Nat.le_add_right _ _
 case round =>
  obtain ⟨j, C, fr, rfl, HH, HR, HB, HJ, HF⟩ := hrel
  by_cases hlt : j < a0.size
  ·have hjl : j < a0.data.toList.length := by rw [HLEN.out]; exact hlt
   obtain ⟨z, hz⟩ : ∃ z : Int, z = (((a0.data.toList[j]).toNat : Nat) : Int) := ⟨_, rfl⟩
   have hx : wr.cell? ⟨w.heap.size, j, none⟩ = some (.int .u8 z) := by
    rw [Lib.cell_of_heap HH.out, HR.out j hjl, if_neg (Nat.lt_irrefl _), hz]
   have hz0 : 0 ≤ z := by rw [hz]; omega
   have hz1 : z ≤ 255 := by rw [hz]; have := (a0.data.toList[j]).toNat_lt; omega
   have hfz := blk_frozenF HH.out j (Nat.lt_of_lt_of_le hlt HF.out)
   have HZ := Aside0.mk hz
   clear hz
   have hlt' : (j : Int) < (a0.size : Int) := by omega
   have hj1 : (j : Int) + 1 ≤ 9223372036854775807 := by have := HS.out; omega
   by_cases c1 : 65 ≤ z ∧ z ≤ 90
   ·obtain ⟨c1, c2⟩ := c1
    have d1 : decide (65 ≤ z) = true := decide_eq_true c1
    have d2 : decide (z ≤ 90) = true := decide_eq_true c2
    have HN := HR.out.put hjl (.int .u8 (z + 32)) (by rw [lowB_big _ (by have := HZ.out; omega) (by have := HZ.out; omega), HZ.out])
    have HN' := Aside0.mk HN
    clear HN
    go_wp2
    go_roundw
    case rel => exact ⟨j + 1, _, fr, by go_num, ⟨blk_setF HH.out j _⟩, HN', ⟨HB.out.setCell (p := ⟨w.heap.size, j, none⟩) (Nat.le_refl _) _⟩, ⟨hlt⟩, HF⟩
    case measure => simp [intOf]; omega
   ·have HN := HR.out.next hjl (lowB_not _ (by have := HZ.out; omega))
    have HN' := Aside0.mk HN
    clear HN
    by_cases c2 : 65 ≤ z
    ·have c3 : ¬ z ≤ 90 := fun q => c1 ⟨c2, q⟩
     have d1 : decide (65 ≤ z) = true := decide_eq_true c2
     have d2 : decide (z ≤ 90) = false := decide_eq_false c3
     clear c1
     go_wp2
     go_roundw
     case rel => exact ⟨j + 1, C, fr, by go_num, HH, HN', HB, ⟨hlt⟩, HF⟩
     case measure => simp [intOf]; omega
    ·have d1 : decide (65 ≤ z) = false := decide_eq_false c2
     clear c1
     go_wp2
     go_roundw
     case rel => exact ⟨j + 1, C, fr, by go_num, HH, HN', HB, ⟨hlt⟩, HF⟩
     case measure => simp [intOf]; omega
  ·obtain rfl : j = a0.size := Nat.le_antisymm HJ.out (Nat.le_of_not_lt hlt)
   have hll : (a0.data.toList.map lowB).length = a0.size := by rw [List.length_map, HLEN.out]
   have hback := fun (cap_ : Nat) => Go.run_convert_bytes_back (P := Try.prog) wr 92 9 5 ⟨w.heap.size, 0, none⟩ cap_ (a0.data.toList.map lowB) Try.underlying92 Try.underlying5 Try.underlying9 (fun i hi => by
    rw [List.length_map] at hi
    rw [add_plain, Lib.cell_of_heap HH.out, HR.out i hi, List.getElem_map, if_pos (by rw [HLEN.out] at hi; exact hi)])
   rw [hll] at hback
   clear hll
   go_wp2
   go_ret
   exact ⟨rfl, HB.out⟩


end Go.Proofs.Ytaomfbbbdddlmaa.P
