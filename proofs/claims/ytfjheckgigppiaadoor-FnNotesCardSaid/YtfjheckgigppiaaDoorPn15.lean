-- WRITTEN BY hprint.py, this session's own program, over the kit's printer: not typed by hand; Lean checks it
import Derived.Test.YtfjheckgigppiaaDoorPn0
import Derived.Test.YtfjheckgigppiaaDoorPn4
import Derived.Test.YtfjheckgigppiaaDoorPn10
import Derived.Test.YtfjheckgigppiaaDoorPn13
import Derived.Test.YtfjheckgigppiaaDoorPn14
namespace Go.Proofs.YtfjheckgigppiaaDoor.P
open Go.RowKit Go.Proofs.YtfjheckgigppiaaDoorW.PrintWords Go.Proofs.YtfjheckgigppiaaDoorW.PrintLast Go.Proofs.YtfjheckgigppiaaDoorW.PrintMore
attribute [local go_sem] max2_int min2_int max_two min_two max_three min_three max_four min_four   -- for this text's walks alone
set_option linter.unusedVariables false
set_option linter.unusedSimpArgs false

/-! ### impl_NoteOf: function 7 (by hand) -/
def impl_NoteOf.l0 : Nat → ByteArray → ByteArray → Int → Option (ByteArray)
 | 0, _, _, _ => none
 | k + 1, x0, x3, x4 => if x4 < (x0.size : Int) then (if 0 ≤ x4 then (if x3.size + 2 ≤ 140737488355328 then (if bt x0 x4 = 45 then (if wrap64 (x4 + 1) = (x0.size : Int) then impl_NoteOf.l0 k x0 (x3 ++ (⟨#[45, 32]⟩ : ByteArray)) (wrap64 (x4 + 1)) else (if 0 ≤ wrap64 (x4 + 1) then (if wrap64 (x4 + 1) < (x0.size : Int) then (if bt x0 (wrap64 (x4 + 1)) = 45 then impl_NoteOf.l0 k x0 (x3 ++ (⟨#[45, 32]⟩ : ByteArray)) (wrap64 (x4 + 1)) else impl_NoteOf.l0 k x0 (x3 ++ (⟨#[45]⟩ : ByteArray)) (wrap64 (x4 + 1))) else none) else none)) else impl_NoteOf.l0 k x0 (x3 ++ (⟨#[UInt8.ofNat (bt x0 x4).toNat]⟩ : ByteArray)) (wrap64 (x4 + 1))) else none) else none) else some x3
def impl_NoteOf.f (k : Nat) (a0 : ByteArray) : Option (ByteArray) := (impl_TextOf.f k a0).bind fun t => (repl t (⟨#[13]⟩ : ByteArray) (⟨#[10]⟩ : ByteArray)).bind fun u => impl_NoteOf.l0 k u (⟨#[]⟩ : ByteArray) 0
theorem byte_back (c : Int) (h0 : 0 ≤ c) (h1 : c ≤ 255) : ((UInt8.ofNat c.toNat).toNat : Int) = c := by
 show ((c.toNat % 256 : Nat) : Int) = c
 omega
set_option maxHeartbeats 16000000 in
set_option maxRecDepth 100000 in
theorem impl_NoteOf.calls_m (k : Nat) (a0 : ByteArray) (r : ByteArray) (m : Int) (w : World) (hm : w.cell? ⟨0, 0, none⟩ = some (.int .i64 m)) (h : impl_NoteOf.f k a0 = some r) :
  Calls Tryd.prog 7 #[.string a0] w fun e w' => e = .returned (.string r) ∧ Below w.heap.size w w' := by
 obtain ⟨t, h1, h⟩ := Option.bind_eq_some_iff.mp h
 obtain ⟨u, h2, h⟩ := Option.bind_eq_some_iff.mp h
 have A1 := Aside0.mk h1
 have A2 := Aside0.mk h2
 have H' := Aside0.mk h
 have M0 := Aside0.mk hm
 clear h h1 h2 hm
 go_enter Tryd.func7, Tryd.ntmps7
 go_wp2_with (go_at_call 11; (with_reducible refine (impl_TextOf.calls k a0 t _ A1.out).mono ?_); rintro e w1 ⟨rfl, b1⟩)
 have M1 := Aside0.mk (pw_cell_below b1 M0.out)
 have B1 := Aside0.mk b1
 clear b1
 go_wp2_with (go_at_call 20; (with_reducible refine (bu_Replace t (⟨#[13]⟩ : ByteArray) (⟨#[10]⟩ : ByteArray) u m _ A2.out (by decide) (by decide) M1.out).mono ?_); rintro e w2 ⟨rfl, b2⟩; have B2 := Aside0.mk (below_step B1.out b2); clear b2)
 go_loopg [4] k (fun kq v4 wr => ∃ (acc : ByteArray) (i : Int), v4 = .int .i64 i ∧ Lib.IsBuilderF 32 5 w2.heap.size w2.heap.size (Lib.strCells acc) wr ∧ Aside0 (Below w2.heap.size w2 wr) ∧ Aside0 (impl_NoteOf.l0 kq u acc i = some r) ∧ Aside0 (kq ≤ k))
 case atStart => exact ⟨⟨#[]⟩, 0, rfl, Lib.IsBuilderF.of (Lib.fresh_isBuilder 32 5 w2), ⟨(Below.refl _ w2).alloc (Nat.le_refl _) _⟩, H', ⟨Nat.le_refl _⟩⟩
 case round =>
  obtain ⟨acc, i, rfl, hI, HB, HA, HK1⟩ := hrel
  cases gk with
  | zero => exact absurd HA.out (by simp [impl_NoteOf.l0])
  | succ k1 =>
   have H := HA.out
   clear HA
   simp only [impl_NoteOf.l0] at H
   by_cases c5 : i < (u.size : Int)
   ·rw [if_pos c5] at H
    by_cases c6 : 0 ≤ i
    case neg => rw [if_neg c6] at H; cases H
    rw [if_pos c6] at H
    by_cases c7 : acc.size + 2 ≤ 140737488355328
    case neg => rw [if_neg c7] at H; cases H
    rw [if_pos c7] at H
    have HS := Aside0.mk c7
    clear c7
    have c5b0 := decide_eq_true c5
    have c6b0 := decide_eq_true c6
    replace c5 := eq_true c5
    replace c6 := eq_true c6
    have hx0 := bt_at u i
    obtain ⟨i1, hi1⟩ : ∃ z : Int, wrap64 (i + 1) = z := ⟨_, rfl⟩
    rw [hi1] at H
    have hi1w : (IntKind.i64.wrap (i + 1)) = i1 := (i64_w _).trans hi1
    by_cases c8 : bt u i = 45
    ·rw [if_pos c8] at H
     have HV := Aside0.mk c8
     have c8b0 : (bt u i == 45) = true := beq_iff_eq.mpr c8
     clear c8
     by_cases c9 : i1 = (u.size : Int)
     ·rw [if_pos c9] at H
      have c9b0 : (i1 == (u.size : Int)) = true := beq_iff_eq.mpr c9
      clear c9
      replace H' := Aside0.mk H
      clear H
      have HL0 := Aside0.mk HB.out.size
      go_wp2_with (go_at_call 21; (with_reducible refine (bu_WriteByte w2.heap.size w2.heap.size (Lib.strCells acc) (bt u i) _ hI (by rw [Lib.strCells_length]; have := HS.out; omega) HL0.out).mono ?_); rintro e x1 ⟨rfl, hc1, b1, _⟩)
      have HL1 := Aside0.mk (Nat.le_trans HL0.out b1.size)
      go_wp2_with (go_at_call 21; (with_reducible refine (bu_WriteByte w2.heap.size w2.heap.size (Lib.strCells acc ++ [.int .u8 (bt u i)]) 32 _ hc1 (by rw [List.length_append, Lib.strCells_length, List.length_singleton]; have := HS.out; omega) HL1.out).mono ?_); rintro e x2 ⟨rfl, hc2, b2, _⟩)
      have HL2 := Aside0.mk (Nat.le_trans HL1.out b2.size)
      have hI2 : Lib.IsBuilderF 32 5 w2.heap.size w2.heap.size (Lib.strCells (acc ++ (⟨#[45, 32]⟩ : ByteArray))) x2 := by
       rw [Op.strCells_add]
       have hq := hc2
       rw [HV.out, List.append_assoc] at hq
       exact hq
      have HB2 := Aside0.mk ((HB.out.trans b1).trans b2)
      go_roundg k1
      case measure => have := HK1.out; omega
      case rel => exact ⟨acc ++ (⟨#[45, 32]⟩ : ByteArray), i1, (by first | rfl | (simp; done) | (simp [*]; done)), hI2, HB2, H', ⟨by have := HK1.out; omega⟩⟩
     ·rw [if_neg c9] at H
      have c9b0 : (i1 == (u.size : Int)) = false := beq_eq_false_iff_ne.mpr c9
      clear c9
      by_cases c10 : 0 ≤ i1
      case neg => rw [if_neg c10] at H; cases H
      rw [if_pos c10] at H
      by_cases c11 : i1 < (u.size : Int)
      case neg => rw [if_neg c11] at H; cases H
      rw [if_pos c11] at H
      have hx1 := bt_at u i1
      replace c10 := eq_true c10
      replace c11 := eq_true c11
      by_cases c12 : bt u i1 = 45
      ·rw [if_pos c12] at H
       have c12b0 : (bt u i1 == 45) = true := beq_iff_eq.mpr c12
       clear c12
       replace H' := Aside0.mk H
       clear H
       have HL0 := Aside0.mk HB.out.size
       go_wp2_with (go_at_call 21; (with_reducible refine (bu_WriteByte w2.heap.size w2.heap.size (Lib.strCells acc) (bt u i) _ hI (by rw [Lib.strCells_length]; have := HS.out; omega) HL0.out).mono ?_); rintro e x1 ⟨rfl, hc1, b1, _⟩)
       have HL1 := Aside0.mk (Nat.le_trans HL0.out b1.size)
       go_wp2_with (go_at_call 21; (with_reducible refine (bu_WriteByte w2.heap.size w2.heap.size (Lib.strCells acc ++ [.int .u8 (bt u i)]) 32 _ hc1 (by rw [List.length_append, Lib.strCells_length, List.length_singleton]; have := HS.out; omega) HL1.out).mono ?_); rintro e x2 ⟨rfl, hc2, b2, _⟩)
       have HL2 := Aside0.mk (Nat.le_trans HL1.out b2.size)
       have hI2 : Lib.IsBuilderF 32 5 w2.heap.size w2.heap.size (Lib.strCells (acc ++ (⟨#[45, 32]⟩ : ByteArray))) x2 := by
        rw [Op.strCells_add]
        have hq := hc2
        rw [HV.out, List.append_assoc] at hq
        exact hq
       have HB2 := Aside0.mk ((HB.out.trans b1).trans b2)
       go_roundg k1
       case measure => have := HK1.out; omega
       case rel => exact ⟨acc ++ (⟨#[45, 32]⟩ : ByteArray), i1, (by first | rfl | (simp; done) | (simp [*]; done)), hI2, HB2, H', ⟨by have := HK1.out; omega⟩⟩
      ·rw [if_neg c12] at H
       have c12b0 : (bt u i1 == 45) = false := beq_eq_false_iff_ne.mpr c12
       clear c12
       replace H' := Aside0.mk H
       clear H
       have HL0 := Aside0.mk HB.out.size
       go_wp2_with (go_at_call 21; (with_reducible refine (bu_WriteByte w2.heap.size w2.heap.size (Lib.strCells acc) (bt u i) _ hI (by rw [Lib.strCells_length]; have := HS.out; omega) HL0.out).mono ?_); rintro e x1 ⟨rfl, hc1, b1, _⟩)
       have HL1 := Aside0.mk (Nat.le_trans HL0.out b1.size)
       have hI2 : Lib.IsBuilderF 32 5 w2.heap.size w2.heap.size (Lib.strCells (acc ++ (⟨#[45]⟩ : ByteArray))) x1 := by
        rw [Op.strCells_add]
        have hq := hc1
        rw [HV.out] at hq
        exact hq
       have HB2 := Aside0.mk (HB.out.trans b1)
       go_roundg k1
       case measure => have := HK1.out; omega
       case rel => exact ⟨acc ++ (⟨#[45]⟩ : ByteArray), i1, (by first | rfl | (simp; done) | (simp [*]; done)), hI2, HB2, H', ⟨by have := HK1.out; omega⟩⟩
    ·rw [if_neg c8] at H
     have c8b0 : (bt u i == 45) = false := beq_eq_false_iff_ne.mpr c8
     clear c8
     replace H' := Aside0.mk H
     clear H
     have HL0 := Aside0.mk HB.out.size
     go_wp2_with (go_at_call 21; (with_reducible refine (bu_WriteByte w2.heap.size w2.heap.size (Lib.strCells acc) (bt u i) _ hI (by rw [Lib.strCells_length]; have := HS.out; omega) HL0.out).mono ?_); rintro e x1 ⟨rfl, hc1, b1, _⟩)
     have HL1 := Aside0.mk (Nat.le_trans HL0.out b1.size)
     have hI2 : Lib.IsBuilderF 32 5 w2.heap.size w2.heap.size (Lib.strCells (acc ++ (⟨#[UInt8.ofNat (bt u i).toNat]⟩ : ByteArray))) x1 := by
      rw [Op.strCells_add]
      have hq := hc1
      have hz : Lib.strCells (⟨#[UInt8.ofNat (bt u i).toNat]⟩ : ByteArray) = [.int .u8 (bt u i)] := by
       show [Value.int .u8 ((UInt8.ofNat (bt u i).toNat).toNat : Int)] = _
       rw [byte_back _ (bt_range u i).1 (bt_range u i).2]
      rw [hz]
      exact hq
     have HB2 := Aside0.mk (HB.out.trans b1)
     go_roundg k1
     case measure => have := HK1.out; omega
     case rel => exact ⟨acc ++ (⟨#[UInt8.ofNat (bt u i).toNat]⟩ : ByteArray), i1, (by first | rfl | (simp; done) | (simp [*]; done)), hI2, HB2, H', ⟨by have := HK1.out; omega⟩⟩
   ·rw [if_neg c5] at H
    obtain rfl := Option.some.inj H
    have c5b0 := decide_eq_false c5
    clear c5
    go_wp2_with (go_at_call 22; (with_reducible refine (bu_String w2.heap.size w2.heap.size acc.data.toList _ (by rw [← Op.strCells_bytes]; exact hI) HB.out.size).mono ?_); rintro e x1 ⟨rfl, _, b1, _⟩)
    go_ret
    exact ⟨by first | rfl | rw [Op.string_back] | simp, below_step B2.out (HB.out.trans b1)⟩
theorem impl_NoteOf.mono_l : ∀ k y0 y1 y2, LeO (impl_NoteOf.l0 k y0 y1 y2) (impl_NoteOf.l0 (k + 1) y0 y1 y2)
 | 0, _, _, _ => fun r h => by simp [impl_NoteOf.l0] at h
 | k + 1, y0, y1, y2 => by
  unfold impl_NoteOf.l0
  repeat' first
   | (with_reducible exact impl_NoteOf.mono_l k _ _ _)
   | (with_reducible exact LeO.refl _)
   | (with_reducible exact LeO.none _)
   | (with_reducible refine LeO.ite ?_ ?_)
theorem impl_NoteOf.mono : ∀ a0 k, LeO (impl_NoteOf.f k a0) (impl_NoteOf.f (k + 1) a0) := fun a0 k => by
 unfold impl_NoteOf.f
 exact LeO.bind (impl_TextOf.mono _ _) (fun _ => LeO.bind (LeO.refl _) (fun _ => impl_NoteOf.mono_l k _ _ _))
theorem impl_NoteOf.calls (k : Nat) (a0 : ByteArray) (r : ByteArray) (w : World) (M_ : Int) (hm_ : w.cell? ⟨0, 0, none⟩ = some (.int .i64 M_)) (h : impl_NoteOf.f k a0 = some r) :
  Calls Tryd.prog 7 #[.string a0] w fun e w' => e = .returned (.string r) ∧ Below w.heap.size w w' := impl_NoteOf.calls_m k a0 r M_ w hm_ h


end Go.Proofs.YtfjheckgigppiaaDoor.P
