-- WRITTEN BY hprint.py, this session's own program, over the kit's printer: not typed by hand; Lean checks it
import Derived.Test.YtfjheckgigppiaaPi0
import Derived.Test.YtfjheckgigppiaaPi16
namespace Go.Proofs.Ytfjheckgigppiaa.P
open Go.RowKit Go.Proofs.YtfjheckgigppiaaW.PrintWords Go.Proofs.YtfjheckgigppiaaW.PrintLast Go.Proofs.YtfjheckgigppiaaW.PrintMore
attribute [local go_sem] max2_int min2_int max_two min_two max_three min_three max_four min_four   -- for this text's walks alone
set_option linter.unusedVariables false
set_option linter.unusedSimpArgs false

/-! ### impl_textsUnder: function 68 (by hand) -/
mutual
def impl_textsUnder.f : Nat → List S70 → Int → ByteArray → Option ByteArray
 | 0, _, _, _ => none
 | k + 1, l0, a1, acc => if 0 ≤ a1 then (if a1 < (l0.length : Int) then (if (rd_T70 l0 a1).f0 = 3 then (if acc.size + (rd_T70 l0 a1).f4.size ≤ 140737488355328 then impl_textsUnder.l0 k l0 a1 (acc ++ (rd_T70 l0 a1).f4) 0 else none) else impl_textsUnder.l0 k l0 a1 acc 0) else none) else none
def impl_textsUnder.l0 : Nat → List S70 → Int → ByteArray → Int → Option ByteArray
 | 0, _, _, _, _ => none
 | k + 1, l0, a1, acc, j => if j < (((rd_T70 l0 a1).f6).length : Int) then (if 0 ≤ j then ((impl_textsUnder.f k l0 (rd (rd_T70 l0 a1).f6 j) acc).bind fun t => impl_textsUnder.l0 k l0 a1 t (wrap64 (j + 1))) else none) else some acc
end
set_option maxHeartbeats 8000000 in
set_option maxRecDepth 100000 in
theorem impl_textsUnder.calls_b (w0 : World) (b : Nat) (k : Nat) : ∀ (A0 : Option Addr) (c0 : Nat) (l0 : List (S70)) (a1 : Int) (acc r : ByteArray) (w : World) (hr0 : Kd.C k70 w0 A0 l0.length l0) (hc0 : l0.length ≤ c0) (hb : Below w0.heap.size w0 w) (hI : Lib.IsBuilderF 54 5 w0.heap.size b (Lib.strCells acc) w) (h : impl_textsUnder.f k l0 a1 acc = some r),
  Calls Try.prog 68 #[.pointer (some ⟨b, 0, none⟩), .slice A0 l0.length c0, .int .i64 a1] w fun e w' => e = .returned (.tuple #[]) ∧ Lib.IsBuilderF 54 5 w0.heap.size b (Lib.strCells r) w' ∧ Below w0.heap.size w0 w' := by
 induction k using Nat.strongRecOn with
 | _ k ih =>
 intro A0 c0 l0 a1 acc r w hr0 hc0 hb hI h
 cases k with
 | zero => exact absurd h (by simp [impl_textsUnder.f])
 | succ k =>
 simp only [impl_textsUnder.f] at h
 have HR0 := Aside0.mk hr0
 have HC0 := Aside0.mk hc0
 have HB := Aside0.mk hb
 clear hr0 hc0 hb
 by_cases c3 : 0 ≤ a1
 case neg => rw [if_neg c3] at h; cases h
 rw [if_pos c3] at h
 by_cases c4 : a1 < (l0.length : Int)
 case neg => rw [if_neg c4] at h; cases h
 rw [if_pos c4] at h
 have c3b := eq_true c3
 have c4b := eq_true c4
 have c4d : decide (a1 < (l0.length : Int)) = true := decide_eq_true c4
 have c3d : decide (0 ≤ a1) = true := decide_eq_true c3
 obtain ⟨ad, A3, d3, A6, d6, e7, y0, y1, y2, y3, y4, y5, y6, l3, i3, l6, i6⟩ := at_T70 HR0.out a1 c3 c4
 cases e7
 have Y0 := Aside0.mk y0
 have Y4 := Aside0.mk y4
 have Y6 := Aside0.mk y6
 have I6 := Aside0.mk i6
 clear c3 c4 y0 y1 y2 y3 y4 y5 y6 l3 i3 l6 i6
 have x0 := (HB.out.cell (World.block_lt_of_cell? w0 _ Y0.out)).trans Y0.out
 have HL := Aside0.mk HB.out.size
 by_cases c5 : (rd_T70 l0 a1).f0 = 3
 ·rw [if_pos c5] at h
  by_cases c6 : acc.size + (rd_T70 l0 a1).f4.size ≤ 140737488355328
  case neg => rw [if_neg c6] at h; cases h
  rw [if_pos c6] at h
  have HS := Aside0.mk c6
  have H' := Aside0.mk h
  clear c6 h
  have c5b0 : ((rd_T70 l0 a1).f0 == 3) = true := beq_iff_eq.mpr c5
  clear c5
  have x4 := (HB.out.cell (World.block_lt_of_cell? w0 _ Y4.out)).trans Y4.out
  go_enter Try.func68, Try.ntmps68
  go_wp2_with (go_at_call 47; (with_reducible refine (bu_WriteString w0.heap.size b (Lib.strCells acc) (rd_T70 l0 a1).f4 _ hI (by rw [Lib.strCells_length]; exact HS.out) HL.out).mono ?_); rintro e w1 ⟨rfl, h1, b1, _⟩; have h2 : Lib.IsBuilderF 54 5 w0.heap.size b (Lib.strCells (acc ++ (rd_T70 l0 a1).f4)) w1 := (by rw [Op.strCells_add]; exact h1); have HB1 := Aside0.mk (HB.out.trans b1); have x6 := (HB1.out.cell (World.block_lt_of_cell? w0 _ Y6.out)).trans Y6.out)
  go_loopg [27] k (fun kq v27 wr => ∃ (t : ByteArray) (i : Int), v27 = .int .i64 i ∧ Lib.IsBuilderF 54 5 w0.heap.size b (Lib.strCells t) wr ∧ Aside0 (Below w0.heap.size w0 wr) ∧ Aside0 (impl_textsUnder.l0 kq l0 a1 t i = some r) ∧ Aside0 (kq ≤ k))
  case atStart => exact ⟨acc ++ (rd_T70 l0 a1).f4, 0, rfl, h2, HB1, H', ⟨Nat.le_refl _⟩⟩
  case round =>
   clear H'
   obtain ⟨t, i, rfl, hIr, HBr, HA, HK1⟩ := hrel
   cases gk with
   | zero => exact absurd HA.out (by simp [impl_textsUnder.l0])
   | succ k1 =>
    have H := HA.out
    clear HA
    simp only [impl_textsUnder.l0] at H
    by_cases c8 : i < (((rd_T70 l0 a1).f6).length : Int)
    ·rw [if_pos c8] at H
     by_cases c9 : 0 ≤ i
     case neg => rw [if_neg c9] at H; cases H
     rw [if_pos c9] at H
     obtain ⟨t2, A1, H⟩ := Option.bind_eq_some_iff.mp H
     have A2 := Aside0.mk A1
     have H' := Aside0.mk H
     clear A1 H
     obtain ⟨adk, ek, hk⟩ := Kd.at_int (Kd.C_below I6.out HBr.out) i c9 c8
     cases ek
     have c8b0 := decide_eq_true c8
     have c9b0 := decide_eq_true c9
     replace c8 := eq_true c8
     replace c9 := eq_true c9
     go_wp2_with (go_at_call 68; (with_reducible refine (ih k1 (by have := HK1.out; omega) _ _ l0 (rd (rd_T70 l0 a1).f6 i) t t2 _ HR0.out HC0.out HBr.out hIr A2.out).mono ?_); rintro e w2 ⟨rfl, h3, b3⟩)
     have HB3 := Aside0.mk b3
     clear b3
     go_roundg k1
     case measure => have := HK1.out; omega
     case rel => exact ⟨t2, wrap64 (i + 1), (by first | rfl | (simp; done) | (simp [*]; done)), h3, HB3, H', ⟨by have := HK1.out; omega⟩⟩
    ·rw [if_neg c8] at H
     obtain rfl := Option.some.inj H
     have c8b0 := decide_eq_false c8
     clear c8
     go_wp2
     go_end0
     exact ⟨rfl, hIr, HBr.out⟩
 ·rw [if_neg c5] at h
  have H' := Aside0.mk h
  clear h
  have c5b0 : ((rd_T70 l0 a1).f0 == 3) = false := beq_eq_false_iff_ne.mpr c5
  clear c5
  have x6 := (HB.out.cell (World.block_lt_of_cell? w0 _ Y6.out)).trans Y6.out
  go_enter Try.func68, Try.ntmps68
  go_wp2
  go_loopg [27] k (fun kq v27 wr => ∃ (t : ByteArray) (i : Int), v27 = .int .i64 i ∧ Lib.IsBuilderF 54 5 w0.heap.size b (Lib.strCells t) wr ∧ Aside0 (Below w0.heap.size w0 wr) ∧ Aside0 (impl_textsUnder.l0 kq l0 a1 t i = some r) ∧ Aside0 (kq ≤ k))
  case atStart => exact ⟨acc, 0, rfl, hI, HB, H', ⟨Nat.le_refl _⟩⟩
  case round =>
   clear H'
   obtain ⟨t, i, rfl, hIr, HBr, HA, HK1⟩ := hrel
   cases gk with
   | zero => exact absurd HA.out (by simp [impl_textsUnder.l0])
   | succ k1 =>
    have H := HA.out
    clear HA
    simp only [impl_textsUnder.l0] at H
    by_cases c8 : i < (((rd_T70 l0 a1).f6).length : Int)
    ·rw [if_pos c8] at H
     by_cases c9 : 0 ≤ i
     case neg => rw [if_neg c9] at H; cases H
     rw [if_pos c9] at H
     obtain ⟨t2, A1, H⟩ := Option.bind_eq_some_iff.mp H
     have A2 := Aside0.mk A1
     have H' := Aside0.mk H
     clear A1 H
     obtain ⟨adk, ek, hk⟩ := Kd.at_int (Kd.C_below I6.out HBr.out) i c9 c8
     cases ek
     have c8b0 := decide_eq_true c8
     have c9b0 := decide_eq_true c9
     replace c8 := eq_true c8
     replace c9 := eq_true c9
     go_wp2_with (go_at_call 68; (with_reducible refine (ih k1 (by have := HK1.out; omega) _ _ l0 (rd (rd_T70 l0 a1).f6 i) t t2 _ HR0.out HC0.out HBr.out hIr A2.out).mono ?_); rintro e w2 ⟨rfl, h3, b3⟩)
     have HB3 := Aside0.mk b3
     clear b3
     go_roundg k1
     case measure => have := HK1.out; omega
     case rel => exact ⟨t2, wrap64 (i + 1), (by first | rfl | (simp; done) | (simp [*]; done)), h3, HB3, H', ⟨by have := HK1.out; omega⟩⟩
    ·rw [if_neg c8] at H
     obtain rfl := Option.some.inj H
     have c8b0 := decide_eq_false c8
     clear c8
     go_wp2
     go_end0
     exact ⟨rfl, hIr, HBr.out⟩


end Go.Proofs.Ytfjheckgigppiaa.P
