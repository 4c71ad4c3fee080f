-- WRITTEN BY hprint.py, this session's own program, over the kit's printer: not typed by hand; Lean checks it
import Derived.Test.YtgljgbkbjlondaaDoorPr0
import Derived.Test.YtgljgbkbjlondaaDoorPr6
import Derived.Test.YtgljgbkbjlondaaDoorPr9
import Derived.Test.YtgljgbkbjlondaaDoorPr10
import Derived.Test.YtgljgbkbjlondaaDoorPr11
namespace Go.Proofs.YtgljgbkbjlondaaDoor.P
open Go.RowKit Go.Proofs.YtgljgbkbjlondaaDoorW.PrintWords Go.Proofs.YtgljgbkbjlondaaDoorW.PrintLast Go.Proofs.YtgljgbkbjlondaaDoorW.PrintMore
attribute [local go_sem] max2_int min2_int max_two min_two max_three min_three max_four min_four   -- for this text's walks alone
set_option linter.unusedVariables false
set_option linter.unusedSimpArgs false

/-! ### impl_Refs: function 13 (by hand) -/
def impl_Refs.l0 : Nat → ByteArray → Bool → ByteArray → Int → Option (ByteArray)
 | 0, _, _, _, _ => none
 | k + 1, x0, x1, x5, x6 => if x6 < (x0.size : Int) then ((impl_Ref.f k x0 x6 x1).bind fun t => if t.2 = 0 then (if 0 ≤ x6 then (if x5.size + 1 ≤ 140737488355328 then impl_Refs.l0 k x0 x1 (x5 ++ (⟨#[UInt8.ofNat (bt x0 x6).toNat]⟩ : ByteArray)) (wrap64 (x6 + 1)) else none) else none) else (if x5.size + t.1.size ≤ 140737488355328 then impl_Refs.l0 k x0 x1 (x5 ++ t.1) (wrap64 (x6 + t.2)) else none)) else some x5
def impl_Refs.f (k : Nat) (a0 : ByteArray) (a1 : Bool) : Option (ByteArray) := impl_Refs.l0 k a0 a1 (⟨#[]⟩ : ByteArray) 0
theorem impl_Refs.mono_l : ∀ k y0 y1 y2 y3, LeO (impl_Refs.l0 k y0 y1 y2 y3) (impl_Refs.l0 (k + 1) y0 y1 y2 y3)
 | 0, _, _, _, _ => fun r h => by simp [impl_Refs.l0] at h
 | k + 1, y0, y1, y2, y3 => by
  unfold impl_Refs.l0
  repeat' first
   | (with_reducible exact impl_Refs.mono_l k _ _ _ _)
   | (with_reducible exact impl_Ref.mono _ _ _ _)
   | (with_reducible exact LeO.refl _)
   | (with_reducible exact LeO.none _)
   | (with_reducible refine LeO.ite ?_ ?_)
   | (with_reducible refine LeO.bind ?_ (fun _ => ?_))
theorem impl_Refs.mono : ∀ a0 a1 k, LeO (impl_Refs.f k a0 a1) (impl_Refs.f (k + 1) a0 a1) := fun a0 a1 k => impl_Refs.mono_l k _ _ _ _
theorem byte_ref (c : Int) (h0 : 0 ≤ c) (h1 : c ≤ 255) : ((UInt8.ofNat c.toNat).toNat : Int) = c := by
 show ((c.toNat % 256 : Nat) : Int) = c
 omega
set_option maxHeartbeats 8000000 in
set_option maxRecDepth 100000 in
theorem impl_Refs.calls (k : Nat) (a0 : ByteArray) (a1 : Bool) (r : ByteArray) (w : World) (h : impl_Refs.f k a0 a1 = some r) :
  Calls Tryd.prog 13 #[.string a0, .bool a1] w fun e w' => e = .returned (.string r) ∧ Below w.heap.size w w' := by
 have H' := Aside0.mk h
 clear h
 go_enter Tryd.func13, Tryd.ntmps13
 go_wp2
 go_loopg [6] k (fun kq v6 wr => ∃ (acc : ByteArray) (i : Int), v6 = .int .i64 i ∧ Lib.IsBuilderF 64 5 w.heap.size w.heap.size (Lib.strCells acc) wr ∧ Aside0 (Below w.heap.size w wr) ∧ Aside0 (impl_Refs.l0 kq a0 a1 acc i = some r) ∧ Aside0 (kq ≤ k))
 case atStart => exact ⟨⟨#[]⟩, 0, rfl, Lib.IsBuilderF.of (Lib.fresh_isBuilder 64 5 w), ⟨(Below.refl _ w).alloc (Nat.le_refl _) _⟩, H', ⟨Nat.le_refl _⟩⟩
 case round =>
  clear H'
  obtain ⟨acc, i, rfl, hI, HB, HA, HK1⟩ := hrel
  cases gk with
  | zero => exact absurd HA.out (by simp [impl_Refs.l0])
  | succ k1 =>
   have H := HA.out
   clear HA
   simp only [impl_Refs.l0] at H
   by_cases c5 : i < (a0.size : Int)
   ·rw [if_pos c5] at H
    obtain ⟨⟨t1, t2⟩, h2, H⟩ := Option.bind_eq_some_iff.mp H
    have A2 := Aside0.mk h2
    clear h2
    try dsimp only at H
    have c5b0 := decide_eq_true c5
    by_cases c8 : t2 = 0
    ·rw [if_pos c8] at H
     by_cases c6 : 0 ≤ i
     case neg => rw [if_neg c6] at H; cases H
     rw [if_pos c6] at H
     by_cases c7 : acc.size + 1 ≤ 140737488355328
     case neg => rw [if_neg c7] at H; cases H
     rw [if_pos c7] at H
     have HS := Aside0.mk c7
     have H' := Aside0.mk H
     have c8b0 : (t2 == 0) = true := beq_iff_eq.mpr c8
     have c6b0 := decide_eq_true c6
     clear c7 H c8
     replace c5 := eq_true c5
     replace c6 := eq_true c6
     have hx0 := bt_at a0 i
     go_wp2_with (go_at_call 15; (with_reducible refine (impl_Ref.calls k1 a0 i a1 t1 t2 _ A2.out).mono ?_); rintro e x1 ⟨rfl, b0⟩)
     have hI1 := Op.bu_below hI b0
     have HL0 := Aside0.mk (Nat.le_trans HB.out.size b0.size)
     have HB1 := Aside0.mk (below_step HB.out b0)
     clear hI b0
     go_wp2_with (go_at_call 56; (with_reducible refine (bu_WriteByte w.heap.size w.heap.size (Lib.strCells acc) (bt a0 i) _ hI1 (by rw [Lib.strCells_length]; exact HS.out) HL0.out).mono ?_); rintro e x2 ⟨rfl, hc1, b1, _⟩)
     have hI2 : Lib.IsBuilderF 64 5 w.heap.size w.heap.size (Lib.strCells (acc ++ (⟨#[UInt8.ofNat (bt a0 i).toNat]⟩ : ByteArray))) x2 := by
      rw [Op.strCells_add]
      have hq := hc1
      have hz : Lib.strCells (⟨#[UInt8.ofNat (bt a0 i).toNat]⟩ : ByteArray) = [.int .u8 (bt a0 i)] := by
       show [Value.int .u8 ((UInt8.ofNat (bt a0 i).toNat).toNat : Int)] = _
       rw [byte_ref _ (bt_range a0 i).1 (bt_range a0 i).2]
      rw [hz]
      exact hq
     have HB2 := Aside0.mk (HB1.out.trans b1)
     go_roundg k1
     case measure => have := HK1.out; omega
     case rel => exact ⟨acc ++ (⟨#[UInt8.ofNat (bt a0 i).toNat]⟩ : ByteArray), wrap64 (i + 1), ab6, hI2, HB2, H', ⟨by have := HK1.out; omega⟩⟩
    ·rw [if_neg c8] at H
     by_cases c7 : acc.size + t1.size ≤ 140737488355328
     case neg => rw [if_neg c7] at H; cases H
     rw [if_pos c7] at H
     have HS := Aside0.mk c7
     have H' := Aside0.mk H
     have c8b0 : (t2 == 0) = false := beq_eq_false_iff_ne.mpr c8
     clear c7 H c8
     replace c5 := eq_true c5
     go_wp2_with (go_at_call 15; (with_reducible refine (impl_Ref.calls k1 a0 i a1 t1 t2 _ A2.out).mono ?_); rintro e x1 ⟨rfl, b0⟩)
     have hI1 := Op.bu_below hI b0
     have HL0 := Aside0.mk (Nat.le_trans HB.out.size b0.size)
     have HB1 := Aside0.mk (below_step HB.out b0)
     clear hI b0
     go_wp2_with (go_at_call 49; (with_reducible refine (bu_WriteString w.heap.size w.heap.size (Lib.strCells acc) t1 _ hI1 (by rw [Lib.strCells_length]; exact HS.out) HL0.out).mono ?_); rintro e x2 ⟨rfl, h1, b1, _⟩)
     have HB2 := Aside0.mk (HB1.out.trans b1)
     have hI2 : Lib.IsBuilderF 64 5 w.heap.size w.heap.size (Lib.strCells (acc ++ t1)) x2 := by rw [Op.strCells_add]; exact h1
     go_roundg k1
     case measure => have := HK1.out; omega
     case rel => exact ⟨acc ++ t1, wrap64 (i + t2), ab6, hI2, HB2, H', ⟨by have := HK1.out; omega⟩⟩
   ·rw [if_neg c5] at H
    obtain rfl := Option.some.inj H
    have c5b0 := decide_eq_false c5
    clear c5
    go_wp2_with (go_at_call 52; (with_reducible refine (bu_String w.heap.size w.heap.size acc.data.toList _ (by rw [← Op.strCells_bytes]; exact hI) HB.out.size).mono ?_); rintro e x1 ⟨rfl, _, b1, _⟩)
    go_ret
    exact ⟨by first | rfl | rw [Op.string_back] | simp, HB.out.trans b1⟩


end Go.Proofs.YtgljgbkbjlondaaDoor.P
