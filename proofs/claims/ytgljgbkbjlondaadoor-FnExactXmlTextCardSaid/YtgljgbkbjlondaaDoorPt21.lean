-- WRITTEN BY hprint.py, this session's own program, over the kit's printer: not typed by hand; Lean checks it
import Derived.Test.YtgljgbkbjlondaaDoorPt0
import Derived.Test.YtgljgbkbjlondaaDoorPt5
import Derived.Test.YtgljgbkbjlondaaDoorPt8
import Derived.Test.YtgljgbkbjlondaaDoorPt12
import Derived.Test.YtgljgbkbjlondaaDoorPt13
import Derived.Test.YtgljgbkbjlondaaDoorPt14
import Derived.Test.YtgljgbkbjlondaaDoorPt17
import Derived.Test.YtgljgbkbjlondaaDoorPt18
import Derived.Test.YtgljgbkbjlondaaDoorPt19
import Derived.Test.YtgljgbkbjlondaaDoorPt20
namespace Go.Proofs.YtgljgbkbjlondaaDoor.P
open Go.RowKit Go.Proofs.YtgljgbkbjlondaaDoorW.PrintWords Go.Proofs.YtgljgbkbjlondaaDoorW.PrintLast Go.Proofs.YtgljgbkbjlondaaDoorW.PrintMore
attribute [local go_sem] max2_int min2_int max_two min_two max_three min_three max_four min_four   -- for this text's walks alone
set_option linter.unusedVariables false
set_option linter.unusedSimpArgs false

/-! ### impl_XmlText: function 10 (by hand) -/
def impl_XmlText.l0 : Nat → ByteArray → ByteArray → Int → ByteArray → Int → Option (ByteArray × Int)
  | 0, _, _, _, _, _ => none
  | k + 1, s, en, a1, acc, i => if i < (s.size : Int) then (if 0 ≤ i then (if Lib.indexByte en.data.toList (bt s i).toNat.toUInt8 < 0 then (if bt s i = 38 then ((impl_XmlRef.f k s i).bind fun z => if z.2 < 0 then some ((⟨#[]⟩ : ByteArray), (-1 : Int)) else (if acc.size + z.1.size ≤ 140737488355328 then impl_XmlText.l0 k s en a1 (acc ++ z.1) z.2 else none)) else ((impl_cleanSign.f k s i).bind fun g => if g.1 < 0 then some ((⟨#[]⟩ : ByteArray), (-1 : Int)) else (impl_IsText.f g.1).bind fun q => if q = true then (if g.1 = 13 then some ((⟨#[]⟩ : ByteArray), (-1 : Int)) else (if g.1 = 60 then some ((⟨#[]⟩ : ByteArray), (-1 : Int)) else (if g.1 = 62 then (if 0 ≤ a1 then (if a1 ≤ i then (if (s.extract (a1 : Int).toNat (i : Int).toNat).size ≤ 100000000 then (if Lib.hasSuffix (s.extract (a1 : Int).toNat (i : Int).toNat).data.toList (⟨#[93, 93]⟩ : ByteArray).data.toList = true then some ((⟨#[]⟩ : ByteArray), (-1 : Int)) else (if i ≤ wrap64 (i + g.2) then (if wrap64 (i + g.2) ≤ (s.size : Int) then (if acc.size + (s.extract (i : Int).toNat (wrap64 (i + g.2)).toNat).size ≤ 140737488355328 then impl_XmlText.l0 k s en a1 (acc ++ s.extract (i : Int).toNat (wrap64 (i + g.2)).toNat) (wrap64 (i + g.2)) else none) else none) else none)) else none) else none) else none) else (if i ≤ wrap64 (i + g.2) then (if wrap64 (i + g.2) ≤ (s.size : Int) then (if acc.size + (s.extract (i : Int).toNat (wrap64 (i + g.2)).toNat).size ≤ 140737488355328 then impl_XmlText.l0 k s en a1 (acc ++ s.extract (i : Int).toNat (wrap64 (i + g.2)).toNat) (wrap64 (i + g.2)) else none) else none) else none)))) else some ((⟨#[]⟩ : ByteArray), (-1 : Int)))) else some (acc, i)) else none) else some (acc, i)
def impl_XmlText.f (k : Nat) (a0 : ByteArray) (a1 : Int) (a2 : ByteArray) : Option (ByteArray × Int) := (impl_inRange.f a1 0 (a0.size : Int)).bind fun t => if t = true then impl_XmlText.l0 k a0 a2 a1 (⟨#[]⟩ : ByteArray) a1 else some ((⟨#[]⟩ : ByteArray), (-1 : Int))
theorem impl_XmlText.mono_l : ∀ k, (∀ y0 y1 y2 y3 y4, LeO (impl_XmlText.l0 k y0 y1 y2 y3 y4) (impl_XmlText.l0 (k + 1) y0 y1 y2 y3 y4))
  | 0 => fun _ _ _ _ _ r h => by simp [impl_XmlText.l0] at h
  | k + 1 => by
    have ih0 := impl_XmlText.mono_l k
    intro y0 y1 y2 y3 y4
    unfold impl_XmlText.l0
    repeat' first
      | (with_reducible exact ih0 _ _ _ _ _)
      | (with_reducible exact impl_XmlRef.mono _ _ _)
      | (with_reducible exact impl_cleanSign.mono _ _ _)
      | (with_reducible exact LeO.refl _)
      | (with_reducible exact LeO.none _)
      | (with_reducible refine LeO.ite ?_ ?_)
      | (with_reducible refine LeO.bind ?_ (fun _ => ?_))
theorem impl_XmlText.mono : ∀ a0 a1 a2 k, LeO (impl_XmlText.f k a0 a1 a2) (impl_XmlText.f (k + 1) a0 a1 a2) := fun a0 a1 a2 k => by
  unfold impl_XmlText.f
  exact LeO.bind (LeO.refl _) (fun _ => LeO.ite (impl_XmlText.mono_l k _ _ _ _ _) (LeO.refl _))
set_option maxHeartbeats 16000000 in
set_option maxRecDepth 100000 in
theorem impl_XmlText.calls_x (k : Nat) (a0 : ByteArray) (a1 : Int) (a2 : ByteArray) (r1 : ByteArray) (r2 : Int) (w : World) (hx : XrW w) (h : impl_XmlText.f k a0 a1 a2 = some (r1, r2)) :
    Calls Tryd.prog 10 #[.string a0, .int .i64 a1, .string a2] w fun e w' => e = .returned (.tuple #[.string r1, .int .i64 r2]) ∧ Below w.heap.size w w' := by
  have X0 := Aside0.mk hx
  clear hx
  obtain ⟨t, h1, h⟩ := Option.bind_eq_some_iff.mp h
  have HR := Aside0.mk h1
  clear h1
  cases t with
  | false =>
    rw [if_neg (by decide)] at h
    obtain ⟨rfl, rfl⟩ := Prod.mk.inj (Option.some.inj h)
    clear h
    have HB := Aside0.mk (Below.refl w.heap.size w)
    go_enter Tryd.func10, Tryd.ntmps10
    go_wp2_with (go_at_call 38; (with_reducible refine (impl_inRange.calls a1 0 (a0.size : Int) false _ HR.out).mono ?_); rintro e w1 ⟨rfl, ⟨nd, rfl⟩⟩)
    go_wp2
    go_ret2
    exact ⟨rfl, by repeat (first | (with_reducible first | exact HB.out | apply below_alloc | apply pw_below_drewN | apply below_drew1) | exact HB.out)⟩
  | true =>
    rw [if_pos rfl] at h
    have H' := Aside0.mk h
    clear h
    go_enter Tryd.func10, Tryd.ntmps10
    go_wp2_with (go_at_call 38; (with_reducible refine (impl_inRange.calls a1 0 (a0.size : Int) true _ HR.out).mono ?_); rintro e w1 ⟨rfl, hd⟩; have HB0 := Aside0.mk (show Below w.heap.size w w1 from by obtain ⟨nd, hw⟩ := hd; rw [hw]; exact pw_below_drewN (Below.refl _ _) _); clear hd)
    have X1 := Aside0.mk (X0.out.below HB0.out)
    go_loopg [9] k (fun kq v9 wr => ∃ (acc : ByteArray) (i : Int), v9 = .int .i64 i ∧ Lib.IsBuilderF 64 5 w1.heap.size w1.heap.size (Lib.strCells acc) wr ∧ Aside0 (Below w1.heap.size w1 wr) ∧ Aside0 (impl_XmlText.l0 kq a0 a2 a1 acc i = some (r1, r2)) ∧ Aside0 (kq ≤ k))
    case atStart => exact ⟨(⟨#[]⟩ : ByteArray), a1, rfl, Lib.IsBuilderF.of (Lib.fresh_isBuilder 64 5 w1), ⟨(Below.refl _ w1).alloc (Nat.le_refl _) _⟩, H', ⟨Nat.le_refl _⟩⟩
    case round =>
      clear H'
      obtain ⟨acc, i, rfl, hI, HB, HA, HK1⟩ := hrel
      have IB := Aside0.mk hI
      clear hI
      cases gk with
      | zero => exact absurd HA.out (by simp [impl_XmlText.l0])
      | succ k1 =>
        have H := HA.out
        clear HA
        simp only [impl_XmlText.l0] at H
        have XR := Aside0.mk (X1.out.below HB.out)
        by_cases c1 : i < (a0.size : Int)
        case neg =>
          rw [if_neg c1] at H
          have c1b0 : decide (i < (a0.size : Int)) = false := decide_eq_false c1
          clear c1
          obtain ⟨rfl, rfl⟩ := Prod.mk.inj (Option.some.inj H)
          clear H
          go_wp2_with (go_at_call 52; (with_reducible refine (bu_String w1.heap.size w1.heap.size acc.data.toList _ (by rw [← Op.strCells_bytes]; exact IB.out) HB.out.size).mono ?_); rintro e x9 ⟨rfl, _, b9, _⟩)
          go_ret2
          exact ⟨by first | rfl | (rw [Op.string_back]) | simp, below_step HB0.out (HB.out.trans b9)⟩
        rw [if_pos c1] at H
        by_cases c2 : 0 ≤ i
        case neg => rw [if_neg c2] at H; cases H
        rw [if_pos c2] at H
        have c1b0 : decide (i < (a0.size : Int)) = true := decide_eq_true c1
        have c2b0 : decide (0 ≤ i) = true := decide_eq_true c2
        have C1 := Aside0.mk c1
        have C2 := Aside0.mk c2
        replace c1 := eq_true c1
        replace c2 := eq_true c2
        have hx0 := bt_at a0 i
        obtain ⟨ix, hix⟩ : ∃ ix, Lib.indexByte a2.data.toList (bt a0 i).toNat.toUInt8 = ix := ⟨_, rfl⟩
        rw [hix] at H
        have N1 := Aside0.mk hix
        clear hix
        by_cases c3 : ix < 0
        case neg =>
          rw [if_neg c3] at H
          have c3b0 : decide (ix < 0) = false := decide_eq_false c3
          clear c3
          obtain ⟨rfl, rfl⟩ := Prod.mk.inj (Option.some.inj H)
          clear H
          go_wp2_with (go_at_call 41; (with_reducible refine (bu_IndexByte a2 (bt a0 i) ix _ N1.out).mono ?_); rintro e5 w4 ⟨rfl, rfl⟩)
          go_wp2_with (go_at_call 52; (with_reducible refine (bu_String w1.heap.size w1.heap.size acc.data.toList _ (by rw [← Op.strCells_bytes]; exact IB.out) HB.out.size).mono ?_); rintro e x9 ⟨rfl, _, b9, _⟩)
          go_ret2
          exact ⟨by first | rfl | (rw [Op.string_back]) | simp, below_step HB0.out (HB.out.trans b9)⟩
        rw [if_pos c3] at H
        have c3b0 : decide (ix < 0) = true := decide_eq_true c3
        clear c3
        by_cases c4 : bt a0 i = 38
        · rw [if_pos c4] at H
          have c4b0 : (bt a0 i == 38) = true := beq_iff_eq.mpr c4
          clear c4
          obtain ⟨⟨z, n1⟩, h1, H⟩ := Option.bind_eq_some_iff.mp H
          have A1 := Aside0.mk h1
          clear h1
          try dsimp only at H
          by_cases c5 : n1 < 0
          · rw [if_pos c5] at H
            have c5b0 : decide (n1 < 0) = true := decide_eq_true c5
            clear c5
            obtain ⟨rfl, rfl⟩ := Prod.mk.inj (Option.some.inj H)
            clear H
            go_wp2_with (go_at_call 41; (with_reducible refine (bu_IndexByte a2 (bt a0 i) ix _ N1.out).mono ?_); rintro e5 w4 ⟨rfl, rfl⟩)
            go_wp2_with (go_at_call 8; (with_reducible refine (impl_XmlRef.calls_x k1 a0 i z n1 _ XR.out A1.out).mono ?_); rintro e w5 ⟨rfl, b1⟩; have I1 := Aside0.mk (Op.bu_below IB.out b1); have HL := Aside0.mk (Nat.le_trans HB.out.size b1.size); have B1 := Aside0.mk (below_step HB.out b1); clear b1)
            go_wp2
            go_ret2
            exact ⟨rfl, below_step HB0.out B1.out⟩
          rw [if_neg c5] at H
          have c5b0 : decide (n1 < 0) = false := decide_eq_false c5
          clear c5
          by_cases c6 : acc.size + z.size ≤ 140737488355328
          case neg => rw [if_neg c6] at H; cases H
          rw [if_pos c6] at H
          have HS := Aside0.mk c6
          clear c6
          have H' := Aside0.mk H
          clear H
          go_wp2_with (go_at_call 41; (with_reducible refine (bu_IndexByte a2 (bt a0 i) ix _ N1.out).mono ?_); rintro e5 w4 ⟨rfl, rfl⟩)
          go_wp2_with (go_at_call 8; (with_reducible refine (impl_XmlRef.calls_x k1 a0 i z n1 _ XR.out A1.out).mono ?_); rintro e w5 ⟨rfl, b1⟩; have I1 := Aside0.mk (Op.bu_below IB.out b1); have HL := Aside0.mk (Nat.le_trans HB.out.size b1.size); have B1 := Aside0.mk (below_step HB.out b1); clear b1)
          go_wp2_with (go_at_call 49; (with_reducible refine (bu_WriteString w1.heap.size w1.heap.size (Lib.strCells acc) z _ I1.out (by rw [Lib.strCells_length]; exact HS.out) HL.out).mono ?_); rintro e x1 ⟨rfl, hc1, b2, _⟩)
          have hI2 : Lib.IsBuilderF 64 5 w1.heap.size w1.heap.size (Lib.strCells (acc ++ z)) x1 := by rw [Op.strCells_add]; exact hc1
          have HB2 := Aside0.mk (B1.out.trans b2)
          go_roundg k1
          case measure => have := HK1.out; omega
          case rel => exact ⟨acc ++ z, n1, (by first | rfl | (simp; done) | (simp [*]; done)), hI2, HB2, H', ⟨by have := HK1.out; omega⟩⟩
        rw [if_neg c4] at H
        have c4b0 : (bt a0 i == 38) = false := beq_eq_false_iff_ne.mpr c4
        clear c4
        obtain ⟨⟨g1, g2⟩, h1, H⟩ := Option.bind_eq_some_iff.mp H
        have A1 := Aside0.mk h1
        clear h1
        try dsimp only at H
        by_cases c5 : g1 < 0
        · rw [if_pos c5] at H
          have c5b0 : decide (g1 < 0) = true := decide_eq_true c5
          clear c5
          obtain ⟨rfl, rfl⟩ := Prod.mk.inj (Option.some.inj H)
          clear H
          go_wp2_with (go_at_call 41; (with_reducible refine (bu_IndexByte a2 (bt a0 i) ix _ N1.out).mono ?_); rintro e5 w4 ⟨rfl, rfl⟩)
          go_wp2_with (go_at_call 50; (with_reducible refine (impl_cleanSign.calls k1 a0 i g1 g2 _ A1.out).mono ?_); rintro e w5 ⟨rfl, b1⟩; have I1 := Aside0.mk (Op.bu_below IB.out b1); have HL := Aside0.mk (Nat.le_trans HB.out.size b1.size); have B1 := Aside0.mk (below_step HB.out b1); clear b1)
          go_wp2
          go_ret2
          exact ⟨rfl, below_step HB0.out B1.out⟩
        rw [if_neg c5] at H
        have c5b0 : decide (g1 < 0) = false := decide_eq_false c5
        clear c5
        obtain ⟨q, h1, H⟩ := Option.bind_eq_some_iff.mp H
        have A2 := Aside0.mk h1
        clear h1
        cases q with
        | false =>
          rw [if_neg (by decide)] at H
          obtain ⟨rfl, rfl⟩ := Prod.mk.inj (Option.some.inj H)
          clear H
          go_wp2_with (go_at_call 41; (with_reducible refine (bu_IndexByte a2 (bt a0 i) ix _ N1.out).mono ?_); rintro e5 w4 ⟨rfl, rfl⟩)
          go_wp2_with (go_at_call 50; (with_reducible refine (impl_cleanSign.calls k1 a0 i g1 g2 _ A1.out).mono ?_); rintro e w5 ⟨rfl, b1⟩; have I1 := Aside0.mk (Op.bu_below IB.out b1); have HL := Aside0.mk (Nat.le_trans HB.out.size b1.size); have B1 := Aside0.mk (below_step HB.out b1); clear b1)
          go_wp2_with (go_at_call 44; (with_reducible refine (impl_IsText.calls g1 false _ A2.out).mono ?_); rintro e w6 ⟨rfl, hd⟩; have I2 := Aside0.mk (Op.bu_below I1.out (show Below w5.heap.size w5 w6 from by obtain ⟨nd, hw⟩ := hd; rw [hw]; exact pw_below_drewN (Below.refl _ _) _)); have B2 := Aside0.mk (below_step B1.out (show Below w5.heap.size w5 w6 from by obtain ⟨nd, hw⟩ := hd; rw [hw]; exact pw_below_drewN (Below.refl _ _) _)); clear hd)
          go_wp2
          go_ret2
          exact ⟨rfl, below_step HB0.out B2.out⟩
        | true =>
          rw [if_pos rfl] at H
          by_cases c6 : g1 = 13
          · rw [if_pos c6] at H
            have c6b0 : (g1 == 13) = true := beq_iff_eq.mpr c6
            clear c6
            obtain ⟨rfl, rfl⟩ := Prod.mk.inj (Option.some.inj H)
            clear H
            go_wp2_with (go_at_call 41; (with_reducible refine (bu_IndexByte a2 (bt a0 i) ix _ N1.out).mono ?_); rintro e5 w4 ⟨rfl, rfl⟩)
            go_wp2_with (go_at_call 50; (with_reducible refine (impl_cleanSign.calls k1 a0 i g1 g2 _ A1.out).mono ?_); rintro e w5 ⟨rfl, b1⟩; have I1 := Aside0.mk (Op.bu_below IB.out b1); have HL := Aside0.mk (Nat.le_trans HB.out.size b1.size); have B1 := Aside0.mk (below_step HB.out b1); clear b1)
            go_wp2_with (go_at_call 44; (with_reducible refine (impl_IsText.calls g1 true _ A2.out).mono ?_); rintro e w6 ⟨rfl, hd⟩; have I2 := Aside0.mk (Op.bu_below I1.out (show Below w5.heap.size w5 w6 from by obtain ⟨nd, hw⟩ := hd; rw [hw]; exact pw_below_drewN (Below.refl _ _) _)); have B2 := Aside0.mk (below_step B1.out (show Below w5.heap.size w5 w6 from by obtain ⟨nd, hw⟩ := hd; rw [hw]; exact pw_below_drewN (Below.refl _ _) _)); clear hd)
            go_wp2
            go_ret2
            exact ⟨rfl, below_step HB0.out B2.out⟩
          rw [if_neg c6] at H
          have c6b0 : (g1 == 13) = false := beq_eq_false_iff_ne.mpr c6
          clear c6
          by_cases c7 : g1 = 60
          · rw [if_pos c7] at H
            have c7b0 : (g1 == 60) = true := beq_iff_eq.mpr c7
            clear c7
            obtain ⟨rfl, rfl⟩ := Prod.mk.inj (Option.some.inj H)
            clear H
            go_wp2_with (go_at_call 41; (with_reducible refine (bu_IndexByte a2 (bt a0 i) ix _ N1.out).mono ?_); rintro e5 w4 ⟨rfl, rfl⟩)
            go_wp2_with (go_at_call 50; (with_reducible refine (impl_cleanSign.calls k1 a0 i g1 g2 _ A1.out).mono ?_); rintro e w5 ⟨rfl, b1⟩; have I1 := Aside0.mk (Op.bu_below IB.out b1); have HL := Aside0.mk (Nat.le_trans HB.out.size b1.size); have B1 := Aside0.mk (below_step HB.out b1); clear b1)
            go_wp2_with (go_at_call 44; (with_reducible refine (impl_IsText.calls g1 true _ A2.out).mono ?_); rintro e w6 ⟨rfl, hd⟩; have I2 := Aside0.mk (Op.bu_below I1.out (show Below w5.heap.size w5 w6 from by obtain ⟨nd, hw⟩ := hd; rw [hw]; exact pw_below_drewN (Below.refl _ _) _)); have B2 := Aside0.mk (below_step B1.out (show Below w5.heap.size w5 w6 from by obtain ⟨nd, hw⟩ := hd; rw [hw]; exact pw_below_drewN (Below.refl _ _) _)); clear hd)
            go_wp2
            go_ret2
            exact ⟨rfl, below_step HB0.out B2.out⟩
          rw [if_neg c7] at H
          have c7b0 : (g1 == 60) = false := beq_eq_false_iff_ne.mpr c7
          clear c7
          obtain ⟨j, hj⟩ : ∃ j, wrap64 (i + g2) = j := ⟨_, rfl⟩
          rw [hj] at H
          have hjw : (IntKind.i64.wrap (i + g2)) = j := (i64_w _).trans hj
          by_cases c8 : g1 = 62
          · rw [if_pos c8] at H
            have c8b0 : (g1 == 62) = true := beq_iff_eq.mpr c8
            clear c8
            by_cases d1 : 0 ≤ a1
            case neg => rw [if_neg d1] at H; cases H
            rw [if_pos d1] at H
            by_cases d2 : a1 ≤ i
            case neg => rw [if_neg d2] at H; cases H
            rw [if_pos d2] at H
            by_cases d3 : (a0.extract (a1 : Int).toNat (i : Int).toNat).size ≤ 100000000
            case neg => rw [if_neg d3] at H; cases H
            rw [if_pos d3] at H
            have D3 := Aside0.mk d3
            have d1b0 : decide (0 ≤ a1) = true := decide_eq_true d1
            have d2b0 : decide (a1 ≤ i) = true := decide_eq_true d2
            have d4b0 := eq_true (show i ≤ (a0.size : Int) by have := C1.out; omega)
            replace d1 := eq_true d1
            replace d2 := eq_true d2
            clear d3
            obtain ⟨sf, hsf⟩ : ∃ b, Lib.hasSuffix (a0.extract (a1 : Int).toNat (i : Int).toNat).data.toList (⟨#[93, 93]⟩ : ByteArray).data.toList = b := ⟨_, rfl⟩
            rw [hsf] at H
            have SF := Aside0.mk hsf
            clear hsf
            cases sf with
            | true =>
              rw [if_pos rfl] at H
              obtain ⟨rfl, rfl⟩ := Prod.mk.inj (Option.some.inj H)
              clear H
              go_wp2_with (go_at_call 41; (with_reducible refine (bu_IndexByte a2 (bt a0 i) ix _ N1.out).mono ?_); rintro e5 w4 ⟨rfl, rfl⟩)
              go_wp2_with (go_at_call 50; (with_reducible refine (impl_cleanSign.calls k1 a0 i g1 g2 _ A1.out).mono ?_); rintro e w5 ⟨rfl, b1⟩; have I1 := Aside0.mk (Op.bu_below IB.out b1); have HL := Aside0.mk (Nat.le_trans HB.out.size b1.size); have B1 := Aside0.mk (below_step HB.out b1); clear b1)
              go_wp2_with (go_at_call 44; (with_reducible refine (impl_IsText.calls g1 true _ A2.out).mono ?_); rintro e w6 ⟨rfl, hd⟩; have I2 := Aside0.mk (Op.bu_below I1.out (show Below w5.heap.size w5 w6 from by obtain ⟨nd, hw⟩ := hd; rw [hw]; exact pw_below_drewN (Below.refl _ _) _)); have B2 := Aside0.mk (below_step B1.out (show Below w5.heap.size w5 w6 from by obtain ⟨nd, hw⟩ := hd; rw [hw]; exact pw_below_drewN (Below.refl _ _) _)); clear hd)
              go_wp2_with (go_at_call 51; (with_reducible refine (bu_HasSuffix (a0.extract (a1 : Int).toNat (i : Int).toNat) (⟨#[93, 93]⟩ : ByteArray) true _ SF.out D3.out).mono ?_); rintro e7 w7 ⟨rfl, rfl⟩)
              go_wp2
              go_ret2
              exact ⟨rfl, below_step HB0.out B2.out⟩
            | false =>
              rw [if_neg (by decide)] at H
              by_cases c9 : i ≤ j
              case neg => rw [if_neg c9] at H; cases H
              rw [if_pos c9] at H
              by_cases c10 : j ≤ (a0.size : Int)
              case neg => rw [if_neg c10] at H; cases H
              rw [if_pos c10] at H
              by_cases c11 : acc.size + (a0.extract (i : Int).toNat (j : Int).toNat).size ≤ 140737488355328
              case neg => rw [if_neg c11] at H; cases H
              rw [if_pos c11] at H
              have HS := Aside0.mk c11
              have c9b0 : decide (i ≤ j) = true := decide_eq_true c9
              have c10b0 : decide (j ≤ (a0.size : Int)) = true := decide_eq_true c10
              replace c9 := eq_true c9
              replace c10 := eq_true c10
              clear c11
              have H' := Aside0.mk H
              clear H
              go_wp2_with (go_at_call 41; (with_reducible refine (bu_IndexByte a2 (bt a0 i) ix _ N1.out).mono ?_); rintro e5 w4 ⟨rfl, rfl⟩)
              go_wp2_with (go_at_call 50; (with_reducible refine (impl_cleanSign.calls k1 a0 i g1 g2 _ A1.out).mono ?_); rintro e w5 ⟨rfl, b1⟩; have I1 := Aside0.mk (Op.bu_below IB.out b1); have HL := Aside0.mk (Nat.le_trans HB.out.size b1.size); have B1 := Aside0.mk (below_step HB.out b1); clear b1)
              go_wp2_with (go_at_call 44; (with_reducible refine (impl_IsText.calls g1 true _ A2.out).mono ?_); rintro e w6 ⟨rfl, hd⟩; have I2 := Aside0.mk (Op.bu_below I1.out (show Below w5.heap.size w5 w6 from by obtain ⟨nd, hw⟩ := hd; rw [hw]; exact pw_below_drewN (Below.refl _ _) _)); have B2 := Aside0.mk (below_step B1.out (show Below w5.heap.size w5 w6 from by obtain ⟨nd, hw⟩ := hd; rw [hw]; exact pw_below_drewN (Below.refl _ _) _)); clear hd)
              go_wp2_with (go_at_call 51; (with_reducible refine (bu_HasSuffix (a0.extract (a1 : Int).toNat (i : Int).toNat) (⟨#[93, 93]⟩ : ByteArray) false _ SF.out D3.out).mono ?_); rintro e7 w7 ⟨rfl, rfl⟩)
              go_wp2_with (go_at_call 49; (with_reducible refine (bu_WriteString w1.heap.size w1.heap.size (Lib.strCells acc) (a0.extract (i : Int).toNat (j : Int).toNat) _ I2.out (by rw [Lib.strCells_length]; exact HS.out) B2.out.size).mono ?_); rintro e x1 ⟨rfl, hc1, b2, _⟩)
              have hI2 : Lib.IsBuilderF 64 5 w1.heap.size w1.heap.size (Lib.strCells (acc ++ (a0.extract (i : Int).toNat (j : Int).toNat))) x1 := by rw [Op.strCells_add]; exact hc1
              have HB2 := Aside0.mk (B2.out.trans b2)
              go_roundg k1
              case measure => have := HK1.out; omega
              case rel => exact ⟨acc ++ (a0.extract (i : Int).toNat (j : Int).toNat), j, (by first | rfl | (simp; done) | (simp [*]; done)), hI2, HB2, H', ⟨by have := HK1.out; omega⟩⟩
          · rw [if_neg c8] at H
            have c8b0 : (g1 == 62) = false := beq_eq_false_iff_ne.mpr c8
            clear c8
            by_cases c9 : i ≤ j
            case neg => rw [if_neg c9] at H; cases H
            rw [if_pos c9] at H
            by_cases c10 : j ≤ (a0.size : Int)
            case neg => rw [if_neg c10] at H; cases H
            rw [if_pos c10] at H
            by_cases c11 : acc.size + (a0.extract (i : Int).toNat (j : Int).toNat).size ≤ 140737488355328
            case neg => rw [if_neg c11] at H; cases H
            rw [if_pos c11] at H
            have HS := Aside0.mk c11
            have c9b0 : decide (i ≤ j) = true := decide_eq_true c9
            have c10b0 : decide (j ≤ (a0.size : Int)) = true := decide_eq_true c10
            replace c9 := eq_true c9
            replace c10 := eq_true c10
            clear c11
            have H' := Aside0.mk H
            clear H
            go_wp2_with (go_at_call 41; (with_reducible refine (bu_IndexByte a2 (bt a0 i) ix _ N1.out).mono ?_); rintro e5 w4 ⟨rfl, rfl⟩)
            go_wp2_with (go_at_call 50; (with_reducible refine (impl_cleanSign.calls k1 a0 i g1 g2 _ A1.out).mono ?_); rintro e w5 ⟨rfl, b1⟩; have I1 := Aside0.mk (Op.bu_below IB.out b1); have HL := Aside0.mk (Nat.le_trans HB.out.size b1.size); have B1 := Aside0.mk (below_step HB.out b1); clear b1)
            go_wp2_with (go_at_call 44; (with_reducible refine (impl_IsText.calls g1 true _ A2.out).mono ?_); rintro e w6 ⟨rfl, hd⟩; have I2 := Aside0.mk (Op.bu_below I1.out (show Below w5.heap.size w5 w6 from by obtain ⟨nd, hw⟩ := hd; rw [hw]; exact pw_below_drewN (Below.refl _ _) _)); have B2 := Aside0.mk (below_step B1.out (show Below w5.heap.size w5 w6 from by obtain ⟨nd, hw⟩ := hd; rw [hw]; exact pw_below_drewN (Below.refl _ _) _)); clear hd)
            go_wp2_with (go_at_call 49; (with_reducible refine (bu_WriteString w1.heap.size w1.heap.size (Lib.strCells acc) (a0.extract (i : Int).toNat (j : Int).toNat) _ I2.out (by rw [Lib.strCells_length]; exact HS.out) B2.out.size).mono ?_); rintro e x1 ⟨rfl, hc1, b2, _⟩)
            have hI2 : Lib.IsBuilderF 64 5 w1.heap.size w1.heap.size (Lib.strCells (acc ++ (a0.extract (i : Int).toNat (j : Int).toNat))) x1 := by rw [Op.strCells_add]; exact hc1
            have HB2 := Aside0.mk (B2.out.trans b2)
            go_roundg k1
            case measure => have := HK1.out; omega
            case rel => exact ⟨acc ++ (a0.extract (i : Int).toNat (j : Int).toNat), j, (by first | rfl | (simp; done) | (simp [*]; done)), hI2, HB2, H', ⟨by have := HK1.out; omega⟩⟩


end Go.Proofs.YtgljgbkbjlondaaDoor.P
