-- WRITTEN BY hprint.py, this session's own program, over the kit's printer: not typed by hand; Lean checks it
import Derived.Test.YtaomfbbbdddlmaaQt0
import Derived.Test.YtaomfbbbdddlmaaQt4
import Derived.Test.YtaomfbbbdddlmaaQt6
import Derived.Test.YtaomfbbbdddlmaaQt7
import Derived.Test.YtaomfbbbdddlmaaQt10
import Derived.Test.YtaomfbbbdddlmaaQt11
import Derived.Test.YtaomfbbbdddlmaaQt12
namespace Go.Proofs.Ytaomfbbbdddlmaa.P
open Go.RowKit Go.Proofs.YtaomfbbbdddlmaaW.PrintWords Go.Proofs.YtaomfbbbdddlmaaW.PrintLast Go.Proofs.YtaomfbbbdddlmaaW.PrintMore
attribute [local go_sem] max2_int min2_int max_two min_two max_three min_three max_four min_four   -- for this text's walks alone
set_option linter.unusedVariables false
set_option linter.unusedSimpArgs false

/-! ### impl_NameOf: function 41 (by hand) -/
def impl_NameOf.pick (k : Nat) (x4 n : Int) : Option ByteArray := (if x4 = 0 then impl_IsFirst.f n else impl_IsNext.f n).bind fun t => if t = true then impl_PutSign.f k n else impl_spelt.f k n
def impl_NameOf.l0 : Nat → List Int → ByteArray → Int → Option (ByteArray)
 | 0, _, _, _ => none
 | k + 1, x0, x3, x4 => if x4 < (x0.length : Int) then (if 0 ≤ x4 then ((impl_NameOf.pick k x4 (rd x0 x4)).bind fun t => (if x3.size + t.size ≤ 140737488355328 then (impl_NameOf.l0 k x0 (x3 ++ t) (wrap64 (x4 + 1))) else (none))) else (none)) else (some x3)
def impl_NameOf.f (k : Nat) (a0 : ByteArray) : Option (ByteArray) := if a0.toList = ([] : List UInt8) then some (⟨#[85]⟩ : ByteArray) else (impl_Signs.f k a0).bind fun l => impl_NameOf.l0 k l (⟨#[]⟩ : ByteArray) 0
theorem impl_NameOf.mono_p (k : Nat) (x4 n : Int) : LeO (impl_NameOf.pick k x4 n) (impl_NameOf.pick (k + 1) x4 n) := by
 unfold impl_NameOf.pick
 exact LeO.bind (LeO.refl _) (fun t => LeO.ite (impl_PutSign.mono _ _) (impl_spelt.mono _ _))
theorem impl_NameOf.mono_l : ∀ k, (∀ y0 y1 y2, LeO (impl_NameOf.l0 k y0 y1 y2) (impl_NameOf.l0 (k + 1) y0 y1 y2))
 | 0 => fun _ _ _ r h => by simp [impl_NameOf.l0] at h
 | k + 1 => by
  have ih0 := impl_NameOf.mono_l k
  intro y0 y1 y2
  unfold impl_NameOf.l0
  exact LeO.ite (LeO.ite (LeO.bind (impl_NameOf.mono_p _ _ _) (fun _ => LeO.ite (ih0 _ _ _) (LeO.none _))) (LeO.none _)) (LeO.refl _)
theorem impl_NameOf.mono : ∀ a0 k, LeO (impl_NameOf.f k a0) (impl_NameOf.f (k + 1) a0) := fun a0 k => by
 unfold impl_NameOf.f
 exact LeO.ite (LeO.refl _) (LeO.bind (impl_Signs.mono _ _) (fun _ => impl_NameOf.mono_l k _ _ _))
theorem R_others {α : Type} {d : Kd α} {e base e' b : Nat} {ok : Nat → Prop} {w w1 : World} {v : Value} {xs : List α} (h : d.R e w base ok v xs) (hk : Lib.OthersKept e' (some b) w w1) (hok : ∀ k, ok k → k ≠ b) (he : ∀ q, q ∈ e :: d.E → q ≠ e') : d.R e w1 base ok v xs :=
 Kd.R_mono (Kd.R_move (Kd.R_bound h) (fun k hk' => by
  obtain ⟨h1, _, _, q, hq, cells, hc⟩ := hk'
  rw [hc]
  exact hk k _ hc (fun e => hok k h1 (Option.some.inj e)) (fun c fz e => by injection e with _ e; exact he q hq e))) (fun _ hk' => hk'.1)
set_option maxHeartbeats 8000000 in
set_option maxRecDepth 100000 in
theorem impl_NameOf.calls (k : Nat) (a0 : ByteArray) (r : ByteArray) (w : World) (h : impl_NameOf.f k a0 = some r) :
  Calls Try.prog 41 #[.string a0] w fun e w' => e = .returned (.string r) ∧ Below w.heap.size w w' := by
 have HB := Aside0.mk (Below.refl w.heap.size w)
 have H : (if a0.toList = ([] : List UInt8) then some (⟨#[85]⟩ : ByteArray) else (impl_Signs.f k a0).bind fun l => impl_NameOf.l0 k l (⟨#[]⟩ : ByteArray) 0) = some r := h
 clear h
 by_cases c1 : a0.toList = ([] : List UInt8)
 ·rw [if_pos c1] at H
  have c1b0 : (a0.toList == ([] : List UInt8)) = true := beq_iff_eq.mpr c1
  clear c1
  obtain rfl := Option.some.inj H
  clear H
  go_enter Try.func41, Try.ntmps41
  go_wp2
  go_ret
  exact ⟨rfl, HB.out⟩
 ·rw [if_neg c1] at H
  have c1b0 : (a0.toList == ([] : List UInt8)) = false := beq_eq_false_iff_ne.mpr c1
  clear c1
  obtain ⟨l, A2, H⟩ := Option.bind_eq_some_iff.mp H
  replace A2 := Aside0.mk A2
  have H' := Aside0.mk H
  clear H
  go_enter Try.func41, Try.ntmps41
  have hsz : w.heap.size + 1 = (w.alloc (.cells #[.pointer none, .slice none 0 0] 94)).heap.size := by show _ = (w.heap.push _).size; rw [Array.size_push]
  go_wp2_with (go_at_call 76; (with_reducible refine (impl_Signs.calls k a0 l _ A2.out).mono ?_); rintro e w3 ⟨v, rfl, ho0, hb⟩; have hI : Lib.IsBuilderF 94 5 w.heap.size w.heap.size (Lib.strCells ⟨#[]⟩) w3 := Op.bu_below (Lib.IsBuilderF.of (Lib.fresh_isBuilder 94 5 w)) hb; have HO := Aside0.mk (Kd.R_mono (ok' := fun k => k ≠ w.heap.size) (Kd.R_lower (Kd.R_bound ho0) (show w.heap.size ≤ _ by rw [← hsz]; omega)) (fun k hk e => by have := hk.2.1; rw [← hsz] at this; omega)); have HB2 := Aside0.mk (below_then (HB.out.alloc (Nat.le_refl _) _) (by rw [← hsz]; omega) hb); clear ho0 hb HB; obtain ⟨Ao, co, eo⟩ := Kd.R_slice HO.out; subst eo)
  go_loopg [11] k (fun kq v11 wr => ∃ (acc : ByteArray) (i : Int), v11 = .int .i64 i ∧ Lib.IsBuilderF 94 5 w.heap.size w.heap.size (Lib.strCells acc) wr ∧ Aside0 (impl_NameOf.l0 kq l acc i = some r) ∧ Aside0 (kq ≤ k) ∧ Aside0 (Kd.R (Kd.int .i64) 3 wr w.heap.size (fun k => k ≠ w.heap.size) (.slice Ao l.length co) l) ∧ Aside0 (Below w.heap.size w wr))
  case atStart => exact ⟨⟨#[]⟩, 0, rfl, hI, H', ⟨Nat.le_refl _⟩, HO, HB2⟩
  case round =>
   obtain ⟨acc, i, rfl, hI, HA, HK1, HO, HB⟩ := hrel
   cases gk with
   | zero => exact absurd HA.out (by simp [impl_NameOf.l0])
   | succ k1 =>
    have H := HA.out
    clear HA
    simp only [impl_NameOf.l0] at H
    by_cases c5 : i < (l.length : Int)
    ·rw [if_pos c5] at H
     by_cases c6 : 0 ≤ i
     ·rw [if_pos c6] at H
      obtain ⟨t, hp, H⟩ := Option.bind_eq_some_iff.mp H
      by_cases hs : acc.size + t.size ≤ 140737488355328
      ·rw [if_pos hs] at H
       replace H' := Aside0.mk H
       have HS := Aside0.mk hs
       clear H hs
       have c5b0 := decide_eq_true c5
       have c6b0 := decide_eq_true c6
       obtain ⟨ad, e1, hx⟩ := Kd.at_int (Kd.R_reads' HO.out).2.2 i c6 c5
       cases e1
       unfold impl_NameOf.pick at hp
       obtain ⟨q, hq, hp⟩ := Option.bind_eq_some_iff.mp hp
       have HL := Aside0.mk HB.out.size
       by_cases c0 : i = 0
       ·rw [if_pos c0] at hq
        have c0b0 : (i == 0) = true := beq_iff_eq.mpr c0
        have c0b1 : decide (0 < i) = false := decide_eq_false (by omega)
        have HQ := Aside0.mk hq
        clear hq c0
        replace c5 := eq_true c5
        replace c6 := eq_true c6
        cases q with
        | true =>
         rw [if_pos rfl] at hp
         have HP := Aside0.mk hp
         clear hp
         go_wp2_with (go_at_call 77; (with_reducible refine (impl_IsFirst.calls (rd l i) true _ HQ.out).mono ?_); rintro e w1 ⟨rfl, hb1⟩; have hI1 := Op.bu_below hI hb1; have HO1 := Aside0.mk (Kd.R_below HO.out hb1); have HB1 := Aside0.mk (below_then HB.out HL.out hb1); clear hI HO HB hb1)
         have HL1 := Aside0.mk HB1.out.size
         go_wp2_with (go_at_call 80; (with_reducible refine (impl_PutSign.calls k1 (rd l i) t _ HP.out).mono ?_); rintro e w2 ⟨rfl, hb2⟩; have hI2 := Op.bu_below hI1 hb2; have HO2 := Aside0.mk (Kd.R_below HO1.out hb2); have HB2 := Aside0.mk (below_then HB1.out HL1.out hb2); clear hI1 HO1 HB1 hb2)
         have HL2 := Aside0.mk HB2.out.size
         go_wp2_with (go_at_call 79; (with_reducible refine (bu_WriteString w.heap.size w.heap.size (Lib.strCells acc) t _ hI2 (by rw [Lib.strCells_length]; exact HS.out) HL2.out).mono ?_); rintro e w3 ⟨rfl, h1, b1, ok1⟩; have hI3 := (Op.strCells_add acc t).symm ▸ h1; have HO3 := Aside0.mk (R_others HO2.out ok1 (fun _ h => h) (by decide)); have HB3 := Aside0.mk (HB2.out.trans b1); clear hI2 HO2 HB2 h1 b1 ok1)
         go_roundg k1
         case measure => have := HK1.out; omega
         case rel => exact ⟨acc ++ t, wrap64 (i + 1), (by first | rfl | (simp; done) | (simp [*]; done)), hI3, H', ⟨by have := HK1.out; omega⟩, HO3, HB3⟩
        | false =>
         rw [if_neg (by decide)] at hp
         have HP := Aside0.mk hp
         clear hp
         go_wp2_with (go_at_call 77; (with_reducible refine (impl_IsFirst.calls (rd l i) false _ HQ.out).mono ?_); rintro e w1 ⟨rfl, hb1⟩; have hI1 := Op.bu_below hI hb1; have HO1 := Aside0.mk (Kd.R_below HO.out hb1); have HB1 := Aside0.mk (below_then HB.out HL.out hb1); clear hI HO HB hb1)
         have HL1 := Aside0.mk HB1.out.size
         go_wp2_with (go_at_call 81; (with_reducible refine (impl_spelt.calls k1 (rd l i) t _ HP.out).mono ?_); rintro e w2 ⟨rfl, hb2⟩; have hI2 := Op.bu_below hI1 hb2; have HO2 := Aside0.mk (Kd.R_below HO1.out hb2); have HB2 := Aside0.mk (below_then HB1.out HL1.out hb2); clear hI1 HO1 HB1 hb2)
         have HL2 := Aside0.mk HB2.out.size
         go_wp2_with (go_at_call 79; (with_reducible refine (bu_WriteString w.heap.size w.heap.size (Lib.strCells acc) t _ hI2 (by rw [Lib.strCells_length]; exact HS.out) HL2.out).mono ?_); rintro e w3 ⟨rfl, h1, b1, ok1⟩; have hI3 := (Op.strCells_add acc t).symm ▸ h1; have HO3 := Aside0.mk (R_others HO2.out ok1 (fun _ h => h) (by decide)); have HB3 := Aside0.mk (HB2.out.trans b1); clear hI2 HO2 HB2 h1 b1 ok1)
         go_roundg k1
         case measure => have := HK1.out; omega
         case rel => exact ⟨acc ++ t, wrap64 (i + 1), (by first | rfl | (simp; done) | (simp [*]; done)), hI3, H', ⟨by have := HK1.out; omega⟩, HO3, HB3⟩
       ·rw [if_neg c0] at hq
        have c0b0 : (i == 0) = false := beq_eq_false_iff_ne.mpr c0
        have c0b1 : decide (0 < i) = true := decide_eq_true (by omega)
        have HQ := Aside0.mk hq
        clear hq c0
        replace c5 := eq_true c5
        replace c6 := eq_true c6
        cases q with
        | true =>
         rw [if_pos rfl] at hp
         have HP := Aside0.mk hp
         clear hp
         go_wp2_with (go_at_call 78; (with_reducible refine (impl_IsNext.calls (rd l i) true _ HQ.out).mono ?_); rintro e w1 ⟨rfl, hb1⟩; have hI1 := Op.bu_below hI hb1; have HO1 := Aside0.mk (Kd.R_below HO.out hb1); have HB1 := Aside0.mk (below_then HB.out HL.out hb1); clear hI HO HB hb1)
         have HL1 := Aside0.mk HB1.out.size
         go_wp2_with (go_at_call 80; (with_reducible refine (impl_PutSign.calls k1 (rd l i) t _ HP.out).mono ?_); rintro e w2 ⟨rfl, hb2⟩; have hI2 := Op.bu_below hI1 hb2; have HO2 := Aside0.mk (Kd.R_below HO1.out hb2); have HB2 := Aside0.mk (below_then HB1.out HL1.out hb2); clear hI1 HO1 HB1 hb2)
         have HL2 := Aside0.mk HB2.out.size
         go_wp2_with (go_at_call 79; (with_reducible refine (bu_WriteString w.heap.size w.heap.size (Lib.strCells acc) t _ hI2 (by rw [Lib.strCells_length]; exact HS.out) HL2.out).mono ?_); rintro e w3 ⟨rfl, h1, b1, ok1⟩; have hI3 := (Op.strCells_add acc t).symm ▸ h1; have HO3 := Aside0.mk (R_others HO2.out ok1 (fun _ h => h) (by decide)); have HB3 := Aside0.mk (HB2.out.trans b1); clear hI2 HO2 HB2 h1 b1 ok1)
         go_roundg k1
         case measure => have := HK1.out; omega
         case rel => exact ⟨acc ++ t, wrap64 (i + 1), (by first | rfl | (simp; done) | (simp [*]; done)), hI3, H', ⟨by have := HK1.out; omega⟩, HO3, HB3⟩
        | false =>
         rw [if_neg (by decide)] at hp
         have HP := Aside0.mk hp
         clear hp
         go_wp2_with (go_at_call 78; (with_reducible refine (impl_IsNext.calls (rd l i) false _ HQ.out).mono ?_); rintro e w1 ⟨rfl, hb1⟩; have hI1 := Op.bu_below hI hb1; have HO1 := Aside0.mk (Kd.R_below HO.out hb1); have HB1 := Aside0.mk (below_then HB.out HL.out hb1); clear hI HO HB hb1)
         have HL1 := Aside0.mk HB1.out.size
         go_wp2_with (go_at_call 81; (with_reducible refine (impl_spelt.calls k1 (rd l i) t _ HP.out).mono ?_); rintro e w2 ⟨rfl, hb2⟩; have hI2 := Op.bu_below hI1 hb2; have HO2 := Aside0.mk (Kd.R_below HO1.out hb2); have HB2 := Aside0.mk (below_then HB1.out HL1.out hb2); clear hI1 HO1 HB1 hb2)
         have HL2 := Aside0.mk HB2.out.size
         go_wp2_with (go_at_call 79; (with_reducible refine (bu_WriteString w.heap.size w.heap.size (Lib.strCells acc) t _ hI2 (by rw [Lib.strCells_length]; exact HS.out) HL2.out).mono ?_); rintro e w3 ⟨rfl, h1, b1, ok1⟩; have hI3 := (Op.strCells_add acc t).symm ▸ h1; have HO3 := Aside0.mk (R_others HO2.out ok1 (fun _ h => h) (by decide)); have HB3 := Aside0.mk (HB2.out.trans b1); clear hI2 HO2 HB2 h1 b1 ok1)
         go_roundg k1
         case measure => have := HK1.out; omega
         case rel => exact ⟨acc ++ t, wrap64 (i + 1), (by first | rfl | (simp; done) | (simp [*]; done)), hI3, H', ⟨by have := HK1.out; omega⟩, HO3, HB3⟩
      ·rw [if_neg hs] at H; cases H
     ·rw [if_neg c6] at H; cases H
    ·rw [if_neg c5] at H
     obtain rfl := Option.some.inj H
     have c5b0 := decide_eq_false c5
     clear c5
     go_wp2_with (go_at_call 82; (with_reducible refine (bu_String w.heap.size w.heap.size acc.data.toList _ (by rw [← Op.strCells_bytes]; exact hI) HB.out.size).mono ?_); rintro e w1 ⟨rfl, _, b1, _⟩)
     go_ret
     exact ⟨by first | rfl | rw [Op.string_back] | simp, HB.out.trans b1⟩


end Go.Proofs.Ytaomfbbbdddlmaa.P
