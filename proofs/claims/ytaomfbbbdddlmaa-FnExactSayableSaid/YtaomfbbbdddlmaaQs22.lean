-- WRITTEN BY hprint.py, this session's own program, over the kit's printer: not typed by hand; Lean checks it
import Derived.Test.YtaomfbbbdddlmaaQs0
namespace Go.Proofs.Ytaomfbbbdddlmaa.P
open Go.RowKit Go.Proofs.YtaomfbbbdddlmaaW.PrintWords Go.Proofs.YtaomfbbbdddlmaaW.PrintLast Go.Proofs.YtaomfbbbdddlmaaW.PrintMore
attribute [local go_sem] max2_int min2_int max_two min_two max_three min_three max_four min_four   -- for this text's walks alone
set_option linter.unusedVariables false
set_option linter.unusedSimpArgs false

/-! ### impl_Small: function 127 (by hand) -/
def lowB (b : UInt8) : UInt8 := if 65 ≤ b.toNat ∧ b.toNat ≤ 90 then UInt8.ofNat (b.toNat + 32) else b
def lowS (s : ByteArray) : ByteArray := ⟨(s.data.toList.map lowB).toArray⟩
theorem blk_setF {w : World} {g : Nat} {t : TypeId} {cs : Array Value} {fr : Nat × Nat} (h : w.heap[g]? = some (.cells cs t fr)) (i : Nat) (u : Value) : (w.setCell ⟨g, i, none⟩ u).heap[g]? = some (.cells (cs.setIfInBounds i u) t fr) := by
 simp [World.setCell, Array.getElem?_modify, h]
theorem lowB_big (b : UInt8) (h1 : 65 ≤ b.toNat) (h2 : b.toNat ≤ 90) : ((lowB b).toNat : Int) = (b.toNat : Int) + 32 := by
 unfold lowB
 rw [if_pos ⟨h1, h2⟩]
 show (((b.toNat + 32) % 256 : Nat) : Int) = _
 omega
theorem lowB_not (b : UInt8) (h : ¬ (65 ≤ b.toNat ∧ b.toNat ≤ 90)) : lowB b = b := by unfold lowB; rw [if_neg h]
theorem blk_frozenF {w : World} {g : Nat} {t : TypeId} {cs : Array Value} {fr : Nat × Nat} (h : w.heap[g]? = some (.cells cs t fr)) (i : Nat) (hi : i < fr.1) : w.frozen? ⟨g, i, none⟩ = false := by
 simp [World.frozen?, h]
 omega
/-- The row under way: the first j bytes made small. -/
def LowRow (s : ByteArray) (j : Nat) (C : Array Value) : Prop := ∀ i, ∀ h : i < s.data.toList.length, C[i]? = some (.int .u8 (((if i < j then lowB (s.data.toList[i]) else s.data.toList[i]).toNat : Nat) : Int))
theorem LowRow.start (s : ByteArray) (cap : Nat) : LowRow s 0 (bytesRow s cap) := fun i h => by
 have hi : i < s.data.size := by simpa using h
 unfold bytesRow
 rw [Array.getElem?_append_left (by simpa using hi)]
 simp [Array.getElem?_eq_getElem hi]
theorem LowRow.next {s : ByteArray} {j : Nat} {C : Array Value} (h : LowRow s j C) (hj : j < s.data.toList.length) (hn : lowB (s.data.toList[j]) = s.data.toList[j]) : LowRow s (j + 1) C := fun i hi => by
 rw [h i hi]
 by_cases c : i = j
 ·subst c
  rw [if_neg (Nat.lt_irrefl _), if_pos (Nat.lt_succ_self _), hn]
 ·by_cases c2 : i < j
  ·rw [if_pos c2, if_pos (by omega)]
  ·rw [if_neg c2, if_neg (by omega)]
theorem LowRow.put {s : ByteArray} {j : Nat} {C : Array Value} (h : LowRow s j C) (hj : j < s.data.toList.length) (v : Value) (hv : v = .int .u8 (((lowB (s.data.toList[j])).toNat : Nat) : Int)) : LowRow s (j + 1) (C.setIfInBounds j v) := fun i hi => by
 have hC : j < C.size := by
  rcases Nat.lt_or_ge j C.size with q | q
  ·exact q
  ·have := h j hj; rw [Array.getElem?_eq_none q] at this; cases this
 rw [Array.getElem?_setIfInBounds]
 by_cases c : j = i
 ·subst c
  rw [if_pos rfl, if_pos hC, if_pos (Nat.lt_succ_self _), hv]
 ·rw [if_neg c, h i hi]
  by_cases c2 : i < j
  ·rw [if_pos c2, if_pos (by omega)]
  ·rw [if_neg c2, if_neg (by omega)]
def impl_Small.f (a0 : ByteArray) : Option ByteArray := if a0.size ≤ 4611686018427387904 then some (lowS a0) else none
set_option maxHeartbeats 8000000 in
set_option maxRecDepth 100000 in
theorem impl_Small.calls (a0 : ByteArray) (r : ByteArray) (w : World) (h : impl_Small.f a0 = some r) :
  Calls Try.prog 127 #[.string a0] w fun e w' => e = .returned (.string r) ∧ Below w.heap.size w w' := by
 unfold impl_Small.f at h
 by_cases hs : a0.size ≤ 4611686018427387904
 case neg => rw [if_neg hs] at h; cases h
 rw [if_pos hs] at h
 obtain rfl := Option.some.inj h
 clear h
 have hlen : a0.data.toList.length = a0.size := Array.length_toList
 have HLEN := Aside0.mk hlen
 have HS := Aside0.mk hs
 clear hlen hs
 have hconv := fun (s_ : ByteArray) (W_ : World) => Go.run_bytes_of_string (P := Try.prog) W_ 9 92 5 s_ Try.underlying9 Try.underlying92 Try.underlying5
 go_enter Try.func127, Try.ntmps127
 go_wp2
 clear hconv
 go_loopw [10] (fun vj wr => ∃ (j : Nat) (C : Array Value) (fr : Nat × Nat), vj = .int .i64 j ∧ Aside0 (wr.heap[w.heap.size]? = some (.cells C 5 fr)) ∧ Aside0 (LowRow a0 j C) ∧ Aside0 (Below w.heap.size w wr) ∧ Aside0 (j ≤ a0.size) ∧ Aside0 (a0.size ≤ fr.1)) (fun vj _ => a0.size - (intOf vj).toNat)
 case atStart =>
  refine ⟨0, bytesRow a0 (grownCap w a0.size 0 5), ((bytesRow a0 (grownCap w a0.size 0 5)).size, (bytesRow a0 (grownCap w a0.size 0 5)).size + 1), rfl, ⟨?_⟩, ⟨LowRow.start a0 _⟩, ⟨((Below.refl _ w).alloc (Nat.le_refl _) _).drew⟩, ⟨Nat.zero_le _⟩, ⟨?_⟩⟩
  ·show (w.heap.push _)[w.heap.size]? = _
   exact Array.getElem?_push_size
  ·show a0.size ≤ (bytesRow a0 _).size
   unfold bytesRow
   rw [Array.size_append, Array.size_map]
   exact Nat.le_add_right _ _
 case round =>
  obtain ⟨j, C, fr, rfl, HH, HR, HB, HJ, HF⟩ := hrel
  by_cases hlt : j < a0.size
  ·have hjl : j < a0.data.toList.length := by rw [HLEN.out]; exact hlt
   obtain ⟨z, hz⟩ : ∃ z : Int, z = (((a0.data.toList[j]).toNat : Nat) : Int) := ⟨_, rfl⟩
   have hx : wr.cell? ⟨w.heap.size, j, none⟩ = some (.int .u8 z) := by
    rw [Lib.cell_of_heap HH.out, HR.out j hjl, if_neg (Nat.lt_irrefl _), hz]
   have hz0 : 0 ≤ z := by rw [hz]; omega
   have hz1 : z ≤ 255 := by rw [hz]; have := (a0.data.toList[j]).toNat_lt; omega
   have hfz := blk_frozenF HH.out j (Nat.lt_of_lt_of_le hlt HF.out)
   have HZ := Aside0.mk hz
   clear hz
   have hlt' : (j : Int) < (a0.size : Int) := by omega
   have hj1 : (j : Int) + 1 ≤ 9223372036854775807 := by have := HS.out; omega
   by_cases c1 : 65 ≤ z ∧ z ≤ 90
   ·obtain ⟨c1, c2⟩ := c1
    have d1 : decide (65 ≤ z) = true := decide_eq_true c1
    have d2 : decide (z ≤ 90) = true := decide_eq_true c2
    have HN := HR.out.put hjl (.int .u8 (z + 32)) (by rw [lowB_big _ (by have := HZ.out; omega) (by have := HZ.out; omega), HZ.out])
    have HN' := Aside0.mk HN
    clear HN
    go_wp2
    go_roundw
    case rel => exact ⟨j + 1, _, fr, by go_num, ⟨blk_setF HH.out j _⟩, HN', ⟨HB.out.setCell (p := ⟨w.heap.size, j, none⟩) (Nat.le_refl _) _⟩, ⟨hlt⟩, HF⟩
    case measure => simp [intOf]; omega
   ·have HN := HR.out.next hjl (lowB_not _ (by have := HZ.out; omega))
    have HN' := Aside0.mk HN
    clear HN
    by_cases c2 : 65 ≤ z
    ·have c3 : ¬ z ≤ 90 := fun q => c1 ⟨c2, q⟩
     have d1 : decide (65 ≤ z) = true := decide_eq_true c2
     have d2 : decide (z ≤ 90) = false := decide_eq_false c3
     clear c1
     go_wp2
     go_roundw
     case rel => exact ⟨j + 1, C, fr, by go_num, HH, HN', HB, ⟨hlt⟩, HF⟩
     case measure => simp [intOf]; omega
    ·have d1 : decide (65 ≤ z) = false := decide_eq_false c2
     clear c1
     go_wp2
     go_roundw
     case rel => exact ⟨j + 1, C, fr, by go_num, HH, HN', HB, ⟨hlt⟩, HF⟩
     case measure => simp [intOf]; omega
  ·obtain rfl : j = a0.size := Nat.le_antisymm HJ.out (Nat.le_of_not_lt hlt)
   have hll : (a0.data.toList.map lowB).length = a0.size := by rw [List.length_map, HLEN.out]
   have hback := fun (cap_ : Nat) => Go.run_convert_bytes_back (P := Try.prog) wr 92 9 5 ⟨w.heap.size, 0, none⟩ cap_ (a0.data.toList.map lowB) Try.underlying92 Try.underlying5 Try.underlying9 (fun i hi => by
    rw [List.length_map] at hi
    rw [add_plain, Lib.cell_of_heap HH.out, HR.out i hi, List.getElem_map, if_pos (by rw [HLEN.out] at hi; exact hi)])
   rw [hll] at hback
   clear hll
   go_wp2
   go_ret
   exact ⟨rfl, HB.out⟩


end Go.Proofs.Ytaomfbbbdddlmaa.P
