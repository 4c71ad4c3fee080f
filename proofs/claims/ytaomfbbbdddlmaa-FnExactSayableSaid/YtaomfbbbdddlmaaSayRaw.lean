/- The end of a raw text: the program looks for it in the text, the reference in the text with the end tag behind it; for a name of small letters they find it alike. No conditions but the sizes. -/
import Derived.Test.YtaomfbbbdddlmaaSayBase
import Derived.Test.YtaomfbbbdddlmaaQs12
import Derived.Test.YtaomfbbbdddlmaaQs22
import Derived.Test.YtaomfbbbdddlmaaQs23
import Derived.Test.YtaomfbbbdddlmaaQs9
set_option linter.unusedVariables false
set_option linter.unusedSimpArgs false
namespace Go.Proofs.Ytaomfbbbdddlmaa.Sg
open Go Go.RowKit Go.Proofs.Ytaomfbbbdddlmaa.P Go.Proofs.Ytaomfbbbdddlmaa.Evs Go.Proofs.YtaomfbbbdddlmaaW.PrintWords Go.Proofs.YtaomfbbbdddlmaaW.PrintLast

def tmB (b : UInt8) : Prop := spec_l4Blank.f (b.toNat : Int) = some true ∨ b = 47 ∨ b = 62
/-- An end tag's head stands at i: '</', the name (in any case), and what ends it. -/
def Mt (n x : List UInt8) (i : Nat) : Prop := x[i]? = some 60 ∧ x[i + 1]? = some 47 ∧ ((x.drop (i + 2)).take n.length).map lowB = n ∧ ∃ b, x[i + 2 + n.length]? = some b ∧ tmB b
theorem bt_iff (s : ByteArray) (j : Nat) (c : UInt8) (h : j < s.size) : bt s (j : Int) = (c.toNat : Int) ↔ s.data.toList[j]? = some c := by
 have h' : j < s.data.toList.length := h
 rw [bt_list s j h', List.getElem?_eq_getElem h']
 constructor
 ·intro e; exact congrArg some (UInt8.toNat_inj.mp (Int.ofNat_inj.mp e))
 ·intro e; rw [Option.some.inj e]
theorem tm_iff (s : ByteArray) (j : Nat) (h : j < s.size) : (∃ b, s.data.toList[j]? = some b ∧ tmB b) ↔ (spec_l4Blank.f (bt s (j : Int)) = some true ∨ bt s (j : Int) = 47 ∨ bt s (j : Int) = 62) := by
 have h' : j < s.data.toList.length := h
 have e : s.data.toList[j]? = some s.data.toList[j] := List.getElem?_eq_getElem h'
 have hb := bt_list s j h'
 have q1 : bt s (j : Int) = 47 ↔ s.data.toList[j] = 47 := (bt_iff s j 47 h).trans (by rw [e]; exact ⟨Option.some.inj, congrArg some⟩)
 have q2 : bt s (j : Int) = 62 ↔ s.data.toList[j] = 62 := (bt_iff s j 62 h).trans (by rw [e]; exact ⟨Option.some.inj, congrArg some⟩)
 rw [q1, q2, hb]
 constructor
 ·rintro ⟨b, hb1, hb2⟩
  rw [e] at hb1
  rw [Option.some.inj hb1]
  exact hb2
 ·intro hx
  exact ⟨_, e, hx⟩
theorem low_list (s : ByteArray) : (lowS s).toList = s.data.toList.map lowB := by rw [toList_data]; rfl
theorem RawS_loop (X n : ByteArray) (hX : X.size ≤ 4194304) (hn : n.size ≤ 1048576) (hl : n.data.toList.map lowB = n.data.toList) : ∀ (d j : Nat), X.size - j = d → j ≤ X.size →
  ∃ r : Nat, Ev (fun k => spec_RawEnd.l0 k X n (n.size : Int) j) (r : Int) ∧ j ≤ r ∧ r ≤ X.size ∧ (∀ i, j ≤ i → i < r → i + 2 + n.size < X.size → ¬ Mt n.data.toList X.data.toList i) ∧ (r = X.size ∨ (r + 2 + n.size < X.size ∧ Mt n.data.toList X.data.toList r)) := by
 intro d
 have hnl : n.data.toList.length = n.size := rfl
 induction d with
 | zero =>
  intro j hd hj
  refine ⟨X.size, Ev.here fun k => ?_, hj, Nat.le_refl _, fun i h1 h2 => by omega, Or.inl rfl⟩
  simp only [spec_RawEnd.l0]
  rw [if_neg (by rw [w64 (i := (j : Int) + 2) (by omega) (by omega), w64 (by omega) (by omega)]; omega)]
 | succ d ih =>
  intro j hd hj
  have hw1 : wrap64 ((j : Int) + 1) = ((j + 1 : Nat) : Int) := by rw [w64 (by omega) (by omega)]; rfl
  have hw2 : wrap64 ((j : Int) + 2) = ((j + 2 : Nat) : Int) := by rw [w64 (by omega) (by omega)]; rfl
  have hwm : wrap64 (((j + 2 : Nat) : Int) + (n.size : Int)) = ((j + 2 + n.size : Nat) : Int) := by rw [w64 (by omega) (by omega)]; rfl
  by_cases c0 : j + 2 + n.size < X.size
  case neg =>
   refine ⟨X.size, Ev.here fun k => ?_, hj, Nat.le_refl _, fun i h1 h2 h3 => by omega, Or.inl rfl⟩
   simp only [spec_RawEnd.l0, hw2, hwm]
   rw [if_neg (by omega)]
  obtain ⟨r, er, r1, r2, r3, r4⟩ := ih (j + 1) (by omega) (by omega)
  have a1 := bt_iff X j 60 (by omega)
  have a2 := bt_iff X (j + 1) 47 (by omega)
  have a3 := tm_iff X (j + 2 + n.size) c0
  have next : (¬ Mt n.data.toList X.data.toList j) → (∀ k, spec_RawEnd.l0 (k + 1) X n (n.size : Int) j = spec_RawEnd.l0 k X n (n.size : Int) ((j + 1 : Nat) : Int)) → ∃ r : Nat, Ev (fun k => spec_RawEnd.l0 k X n (n.size : Int) j) (r : Int) ∧ j ≤ r ∧ r ≤ X.size ∧ (∀ i, j ≤ i → i < r → i + 2 + n.size < X.size → ¬ Mt n.data.toList X.data.toList i) ∧ (r = X.size ∨ (r + 2 + n.size < X.size ∧ Mt n.data.toList X.data.toList r)) := fun hm hs =>
   ⟨r, Ev.step hs er, by omega, r2, fun i h1 h2 h3 => by
    rcases Nat.lt_or_ge j i with q | q
    ·exact r3 i q h2 h3
    ·obtain rfl : i = j := by omega
     exact hm, r4⟩
  have hS : spec_Small.f (X.extract (j + 2) (j + 2 + n.size)) = some (lowS (X.extract (j + 2) (j + 2 + n.size))) := by
   unfold spec_Small.f
   rw [if_pos (by rw [ByteArray.size_extract]; omega)]
  have hN : spec_Small.f n = some (lowS n) := by unfold spec_Small.f; rw [if_pos (by omega)]
  have hlow : ((lowS (X.extract (j + 2) (j + 2 + n.size))).toList = (lowS n).toList) ↔ ((X.data.toList.drop (j + 2)).take n.data.toList.length).map lowB = n.data.toList := by
   rw [low_list, low_list, hl, Lib.extract_data, show j + 2 + n.size - (j + 2) = n.data.toList.length by rw [hnl]; omega]
  have step : ∀ k, spec_RawEnd.l0 (k + 1) X n (n.size : Int) j = (if bt X (j : Int) = 60 then (if bt X ((j + 1 : Nat) : Int) = 47 then (if (lowS (X.extract (j + 2) (j + 2 + n.size))).toList = (lowS n).toList then ((spec_l4Blank.f (bt X ((j + 2 + n.size : Nat) : Int))).bind fun t274 => (if t274 = true then (some (j : Int)) else (if bt X ((j + 2 + n.size : Nat) : Int) = 47 then (some (j : Int)) else (if bt X ((j + 2 + n.size : Nat) : Int) = 62 then (some (j : Int)) else (spec_RawEnd.l0 k X n (n.size : Int) ((j + 1 : Nat) : Int)))))) else (spec_RawEnd.l0 k X n (n.size : Int) ((j + 1 : Nat) : Int))) else (spec_RawEnd.l0 k X n (n.size : Int) ((j + 1 : Nat) : Int))) else (spec_RawEnd.l0 k X n (n.size : Int) ((j + 1 : Nat) : Int))) := fun k => by
   simp only [spec_RawEnd.l0, hw1, hw2, hwm, Int.toNat_natCast, hS, hN, Option.bind_some]
   rw [if_pos (by omega), if_pos (by omega), if_pos (by omega)]
   simp only [if_pos (show (0 : Int) ≤ ((j + 1 : Nat) : Int) by omega), if_pos (show ((j + 1 : Nat) : Int) < (X.size : Int) by omega), if_pos (show (0 : Int) ≤ ((j + 2 : Nat) : Int) by omega), if_pos (show ((j + 2 : Nat) : Int) ≤ ((j + 2 + n.size : Nat) : Int) by omega), if_pos (show ((j + 2 + n.size : Nat) : Int) ≤ (X.size : Int) by omega), if_pos (show (0 : Int) ≤ ((j + 2 + n.size : Nat) : Int) by omega)]
  by_cases c1 : bt X (j : Int) = 60
  case neg => exact next (fun h => c1 (a1.mpr h.1)) (fun k => by rw [step, if_neg c1])
  by_cases c2 : bt X ((j + 1 : Nat) : Int) = 47
  case neg => exact next (fun h => c2 (a2.mpr h.2.1)) (fun k => by rw [step, if_pos c1, if_neg c2])
  by_cases c3 : (lowS (X.extract (j + 2) (j + 2 + n.size))).toList = (lowS n).toList
  case neg => exact next (fun h => c3 (hlow.mpr h.2.2.1)) (fun k => by rw [step, if_pos c1, if_pos c2, if_neg c3])
  have found : (spec_l4Blank.f (bt X ((j + 2 + n.size : Nat) : Int)) = some true ∨ bt X ((j + 2 + n.size : Nat) : Int) = 47 ∨ bt X ((j + 2 + n.size : Nat) : Int) = 62) → (∀ k, spec_RawEnd.l0 (k + 1) X n (n.size : Int) j = some (j : Int)) → ∃ r : Nat, Ev (fun k => spec_RawEnd.l0 k X n (n.size : Int) j) (r : Int) ∧ j ≤ r ∧ r ≤ X.size ∧ (∀ i, j ≤ i → i < r → i + 2 + n.size < X.size → ¬ Mt n.data.toList X.data.toList i) ∧ (r = X.size ∨ (r + 2 + n.size < X.size ∧ Mt n.data.toList X.data.toList r)) := fun ht hs =>
   ⟨j, Ev.here hs, Nat.le_refl _, by omega, fun i h1 h2 => by omega, Or.inr ⟨c0, a1.mp c1, a2.mp c2, hlow.mp c3, a3.mpr ht⟩⟩
  obtain ⟨q, hq⟩ := Blank_some (bt X ((j + 2 + n.size : Nat) : Int))
  cases q with
  | true => exact found (Or.inl hq) (fun k => by rw [step, if_pos c1, if_pos c2, if_pos c3, hq, Option.bind_some, if_pos rfl])
  | false =>
   by_cases c4 : bt X ((j + 2 + n.size : Nat) : Int) = 47
   ·exact found (Or.inr (Or.inl c4)) (fun k => by rw [step, if_pos c1, if_pos c2, if_pos c3, hq, Option.bind_some, if_neg Bool.false_ne_true, if_pos c4])
   by_cases c5 : bt X ((j + 2 + n.size : Nat) : Int) = 62
   ·exact found (Or.inr (Or.inr c5)) (fun k => by rw [step, if_pos c1, if_pos c2, if_pos c3, hq, Option.bind_some, if_neg Bool.false_ne_true, if_neg c4, if_pos c5])
   ·refine next (fun h => ?_) (fun k => by rw [step, if_pos c1, if_pos c2, if_pos c3, hq, Option.bind_some, if_neg Bool.false_ne_true, if_neg c4, if_neg c5])
    rcases a3.mp h.2.2.2 with e | e | e
    ·rw [hq] at e; cases e
    ·exact c4 e
    ·exact c5 e
theorem low47 (b : UInt8) : lowB b = 47 ↔ b = 47 := by
 constructor
 ·intro h
  by_cases c : 65 ≤ b.toNat ∧ b.toNat ≤ 90
  ·have := lowB_big b c.1 c.2
   rw [h] at this
   have h47 : ((47 : UInt8).toNat : Int) = 47 := rfl
   omega
  ·rw [lowB_not b c] at h; exact h
 ·rintro rfl; rfl
theorem Mt_cut (n x : List UInt8) (i : Nat) (h : i + 2 + n.length < x.length) (h0 : x[i]? = some 60) : ((x.drop i).take (n.length + 2)).map lowB = 60 :: 47 :: n ↔ x[i + 1]? = some 47 ∧ ((x.drop (i + 2)).take n.length).map lowB = n := by
 have e0 : x[i] = 60 := by rw [List.getElem?_eq_getElem (by omega)] at h0; exact Option.some.inj h0
 rw [List.drop_eq_getElem_cons (by omega : i < x.length), List.drop_eq_getElem_cons (by omega : i + 1 < x.length), List.getElem?_eq_getElem (by omega : i + 1 < x.length), e0]
 show lowB 60 :: lowB x[i + 1] :: ((x.drop (i + 2)).take n.length).map lowB = _ ↔ _
 rw [show lowB 60 = 60 from rfl]
 constructor
 ·intro q
  injection q with _ q
  injection q with q1 q2
  exact ⟨congrArg some ((low47 _).mp q1), q2⟩
 ·rintro ⟨q1, q2⟩
  rw [(low47 _).mpr (Option.some.inj q1), q2]
theorem RawI_loop (T n : ByteArray) (z : ByteArray) (hz : z.data.toList = 60 :: 47 :: n.data.toList) (hT : T.size ≤ 4194304) (hn : n.size ≤ 1048576) : ∀ (d j : Nat), T.size - j = d → j ≤ T.size →
  ∃ r : Nat, Ev (fun k => impl_RawEnd.l0 k T z j) (r : Int) ∧ j ≤ r ∧ r ≤ T.size ∧ (∀ i, j ≤ i → i < r → i + 2 + n.size < T.size → ¬ Mt n.data.toList T.data.toList i) ∧ (r = T.size ∨ (r + 2 + n.size < T.size ∧ Mt n.data.toList T.data.toList r)) := by
 intro d
 have hnl : n.data.toList.length = n.size := rfl
 have hzs : z.size = n.size + 2 := by show z.data.toList.length = _; rw [hz]; rfl
 have hzl : z.toList = 60 :: 47 :: n.data.toList := by rw [toList_data, hz]
 induction d with
 | zero =>
  intro j hd hj
  refine ⟨T.size, Ev.here fun k => ?_, hj, Nat.le_refl _, fun i h1 h2 => by omega, Or.inl rfl⟩
  simp only [impl_RawEnd.l0]
  rw [if_neg (by rw [w64 (by omega) (by omega)]; omega)]
 | succ d ih =>
  intro j hd hj
  have hw1 : wrap64 ((j : Int) + 1) = ((j + 1 : Nat) : Int) := by rw [w64 (by omega) (by omega)]; rfl
  have hwz : wrap64 ((j : Int) + (z.size : Int)) = ((j + 2 + n.size : Nat) : Int) := by rw [w64 (by omega) (by omega)]; omega
  by_cases c0 : j + 2 + n.size < T.size
  case neg =>
   refine ⟨T.size, Ev.here fun k => ?_, hj, Nat.le_refl _, fun i h1 h2 h3 => by omega, Or.inl rfl⟩
   simp only [impl_RawEnd.l0, hwz]
   rw [if_neg (by omega)]
  obtain ⟨r, er, r1, r2, r3, r4⟩ := ih (j + 1) (by omega) (by omega)
  have a1 := bt_iff T j 60 (by omega)
  have a3 := tm_iff T (j + 2 + n.size) c0
  have next : (¬ Mt n.data.toList T.data.toList j) → (∀ k, impl_RawEnd.l0 (k + 1) T z j = impl_RawEnd.l0 k T z ((j + 1 : Nat) : Int)) → ∃ r : Nat, Ev (fun k => impl_RawEnd.l0 k T z j) (r : Int) ∧ j ≤ r ∧ r ≤ T.size ∧ (∀ i, j ≤ i → i < r → i + 2 + n.size < T.size → ¬ Mt n.data.toList T.data.toList i) ∧ (r = T.size ∨ (r + 2 + n.size < T.size ∧ Mt n.data.toList T.data.toList r)) := fun hm hs =>
   ⟨r, Ev.step hs er, by omega, r2, fun i h1 h2 h3 => by
    rcases Nat.lt_or_ge j i with q | q
    ·exact r3 i q h2 h3
    ·obtain rfl : i = j := by omega
     exact hm, r4⟩
  have hS : impl_Small.f (T.extract j (j + 2 + n.size)) = some (lowS (T.extract j (j + 2 + n.size))) := by
   unfold impl_Small.f
   rw [if_pos (by rw [ByteArray.size_extract]; omega)]
  have step : ∀ k, impl_RawEnd.l0 (k + 1) T z j = (if bt T (j : Int) = 60 then (if (lowS (T.extract j (j + 2 + n.size))).toList = z.toList then ((impl_isBlankByte.f (bt T ((j + 2 + n.size : Nat) : Int))).bind fun t348 => (if t348 = true then (some (j : Int)) else (if bt T ((j + 2 + n.size : Nat) : Int) = 47 then (some (j : Int)) else (if bt T ((j + 2 + n.size : Nat) : Int) = 62 then (some (j : Int)) else (impl_RawEnd.l0 k T z ((j + 1 : Nat) : Int)))))) else (impl_RawEnd.l0 k T z ((j + 1 : Nat) : Int))) else (impl_RawEnd.l0 k T z ((j + 1 : Nat) : Int))) := fun k => by
   simp only [impl_RawEnd.l0, hw1, hwz, Int.toNat_natCast, hS, Option.bind_some]
   rw [if_pos (by omega), if_pos (by omega), if_pos (by omega), if_pos (by omega)]
   simp only [if_pos (show (j : Int) ≤ ((j + 2 + n.size : Nat) : Int) by omega), if_pos (show ((j + 2 + n.size : Nat) : Int) ≤ (T.size : Int) by omega)]
  by_cases c1 : bt T (j : Int) = 60
  case neg => exact next (fun h => c1 (a1.mpr h.1)) (fun k => by rw [step, if_neg c1])
  have hcut := Mt_cut n.data.toList T.data.toList j c0 (a1.mp c1)
  have hlow : ((lowS (T.extract j (j + 2 + n.size))).toList = z.toList) ↔ ((T.data.toList.drop j).take (n.data.toList.length + 2)).map lowB = 60 :: 47 :: n.data.toList := by
   rw [low_list, hzl, Lib.extract_data, show j + 2 + n.size - j = n.data.toList.length + 2 by rw [hnl]; omega]
  by_cases c3 : (lowS (T.extract j (j + 2 + n.size))).toList = z.toList
  case neg => exact next (fun h => c3 (hlow.mpr (hcut.mpr ⟨h.2.1, h.2.2.1⟩))) (fun k => by rw [step, if_pos c1, if_neg c3])
  have hc := hcut.mp (hlow.mp c3)
  have found : (spec_l4Blank.f (bt T ((j + 2 + n.size : Nat) : Int)) = some true ∨ bt T ((j + 2 + n.size : Nat) : Int) = 47 ∨ bt T ((j + 2 + n.size : Nat) : Int) = 62) → (∀ k, impl_RawEnd.l0 (k + 1) T z j = some (j : Int)) → ∃ r : Nat, Ev (fun k => impl_RawEnd.l0 k T z j) (r : Int) ∧ j ≤ r ∧ r ≤ T.size ∧ (∀ i, j ≤ i → i < r → i + 2 + n.size < T.size → ¬ Mt n.data.toList T.data.toList i) ∧ (r = T.size ∨ (r + 2 + n.size < T.size ∧ Mt n.data.toList T.data.toList r)) := fun ht hs =>
   ⟨j, Ev.here hs, Nat.le_refl _, by omega, fun i h1 h2 => by omega, Or.inr ⟨c0, a1.mp c1, hc.1, hc.2, a3.mpr ht⟩⟩
  obtain ⟨q, hq⟩ := Blank_some (bt T ((j + 2 + n.size : Nat) : Int))
  have hq2 : impl_isBlankByte.f (bt T ((j + 2 + n.size : Nat) : Int)) = some q := hq
  cases q with
  | true => exact found (Or.inl hq) (fun k => by rw [step, if_pos c1, if_pos c3, hq2, Option.bind_some, if_pos rfl])
  | false =>
   by_cases c4 : bt T ((j + 2 + n.size : Nat) : Int) = 47
   ·exact found (Or.inr (Or.inl c4)) (fun k => by rw [step, if_pos c1, if_pos c3, hq2, Option.bind_some, if_neg Bool.false_ne_true, if_pos c4])
   by_cases c5 : bt T ((j + 2 + n.size : Nat) : Int) = 62
   ·exact found (Or.inr (Or.inr c5)) (fun k => by rw [step, if_pos c1, if_pos c3, hq2, Option.bind_some, if_neg Bool.false_ne_true, if_neg c4, if_pos c5])
   ·refine next (fun h => ?_) (fun k => by rw [step, if_pos c1, if_pos c3, hq2, Option.bind_some, if_neg Bool.false_ne_true, if_neg c4, if_neg c5])
    rcases a3.mp h.2.2.2 with e | e | e
    ·rw [hq] at e; cases e
    ·exact c4 e
    ·exact c5 e
/-- In the text with the end tag behind it, ahead of that: as in the text alone. -/
theorem Mt_in (n t y : List UInt8) (i : Nat) (h : i + 2 + n.length < t.length) : Mt n (t ++ y) i ↔ Mt n t i := by
 unfold Mt
 rw [List.getElem?_append_left (by omega), List.getElem?_append_left (by omega), List.getElem?_append_left h, List.drop_append_of_le_length (by omega), List.take_append_of_le_length (by rw [List.length_drop]; omega)]
theorem Mt_over (n t y : List UInt8) (i : Nat) (h60 : (60 : UInt8) ∉ n) (h1 : i < t.length) (h2 : t.length ≤ i + 2 + n.length) : ¬ Mt n (t ++ 60 :: y) i := by
 rintro ⟨_, m1, m2, b, m3, m4⟩
 have hat : (t ++ 60 :: y)[t.length]? = some 60 := by rw [List.getElem?_append_right (Nat.le_refl _), Nat.sub_self]; rfl
 by_cases p1 : t.length = i + 1
 ·rw [p1] at hat
  rw [hat] at m1
  exact absurd (Option.some.inj m1) (by decide)
 by_cases p2 : t.length = i + 2 + n.length
 ·rw [← p2, hat] at m3
  obtain rfl := Option.some.inj m3
  rcases m4 with m4 | m4 | m4
  ·have m5 : spec_l4Blank.f 60 = some true := m4
   have m6 : spec_l4Blank.f 60 = some false := by
    unfold spec_l4Blank.f spec_IsBlank.f
    rw [show wrap64 60 = 60 from w64 (by omega) (by omega)]; rfl
   rw [m6] at m5
   cases m5
  ·exact absurd m4 (by decide)
  ·exact absurd m4 (by decide)
 ·have hg : (((t ++ 60 :: y).drop (i + 2)).take n.length)[t.length - (i + 2)]? = some 60 := by
   rw [List.getElem?_take, if_pos (by omega), List.getElem?_drop, show i + 2 + (t.length - (i + 2)) = t.length by omega]
   exact hat
  have hg2 : (((t ++ 60 :: y).drop (i + 2)).take n.length |>.map lowB)[t.length - (i + 2)]? = some 60 := by
   rw [List.getElem?_map, hg]; rfl
  rw [m2] at hg2
  exact h60 (List.mem_of_getElem? hg2)
theorem RawEnd_same (T n X : ByteArray) (hT : T.size ≤ 1048576) (hn : n.size ≤ 1048576) (hl : n.data.toList.map lowB = n.data.toList) (h60 : (60 : UInt8) ∉ n.data.toList) (hX : X.data.toList = T.data.toList ++ 60 :: 47 :: (n.data.toList ++ [62])) :
  ∃ u v : Int, Ev (fun k => spec_RawEnd.f k X 0 n) u ∧ Ev (fun k => impl_RawEnd.f k T 0 n) v ∧ (u = (T.size : Int) ↔ v = (T.size : Int)) := by
 have hTl : T.data.toList.length = T.size := rfl
 have hnl : n.data.toList.length = n.size := rfl
 have hXs : X.size = T.size + n.size + 3 := by
  show X.data.toList.length = _
  rw [hX, List.length_append, List.length_cons, List.length_cons, List.length_append, hTl, hnl]
  show T.size + (n.size + 1 + 1 + 1) = _
  omega
 obtain ⟨u, eu, _, u1, u2, u3⟩ := RawS_loop X n (by omega) hn hl X.size 0 rfl (Nat.zero_le _)
 have hz : ((⟨#[60, 47]⟩ : ByteArray) ++ lowS n).data.toList = 60 :: 47 :: n.data.toList := by
  have hls : (lowS n).data.toList = n.data.toList := by show n.data.toList.map lowB = _; exact hl
  rw [ByteArray.data_append, Array.toList_append, hls]; rfl
 obtain ⟨v, ev, _, v1, v2, v3⟩ := RawI_loop T n _ hz (by omega) hn T.size 0 rfl (Nat.zero_le _)
 refine ⟨u, v, ?_, ?_, ?_⟩
 ·unfold spec_RawEnd.f
  refine Ev.ite_neg (by omega) (Ev.opt (show spec_l1Max.f 0 0 = some 0 from rfl) eu)
 ·have hI : impl_Small.f n = some (lowS n) := by unfold impl_Small.f; rw [if_pos (by omega)]
  have hls : (lowS n).size = n.size := by show (n.data.toList.map lowB).length = _; rw [List.length_map]; rfl
  unfold impl_RawEnd.f
  exact Ev.opt hI (Ev.ite_pos (by omega) ev)
 ·have hfin : Mt n.data.toList X.data.toList T.size := by
   rw [hX]
   refine ⟨by rw [List.getElem?_append_right (by omega), hTl, Nat.sub_self]; rfl, by rw [List.getElem?_append_right (by omega), show T.size + 1 - T.data.toList.length = 1 by omega]; rfl, ?_, 62, ?_, Or.inr (Or.inr rfl)⟩
   ·rw [show T.size + 2 = T.data.toList.length + 2 by omega, List.drop_append, List.drop_eq_nil_of_le (by omega), List.nil_append, show T.data.toList.length + 2 - T.data.toList.length = 2 by omega]
    show ((n.data.toList ++ [62]).take n.data.toList.length).map lowB = _
    rw [List.take_left]; exact hl
   ·rw [List.getElem?_append_right (by omega), show T.size + 2 + n.data.toList.length - T.data.toList.length = n.data.toList.length + 2 by omega]
    show (n.data.toList ++ [62])[n.data.toList.length]? = _
    rw [List.getElem?_append_right (Nat.le_refl _), Nat.sub_self]; rfl
  have hule : u ≤ T.size := by
   apply Nat.le_of_not_lt
   intro h
   exact u2 T.size (Nat.zero_le _) h (by omega) hfin
  constructor
  ·intro e
   have e' : u = T.size := Int.ofNat_inj.mp e
   rcases v3 with q | ⟨q1, q2⟩
   ·rw [q]
   ·exfalso
    refine u2 v (Nat.zero_le _) (by omega) (by omega) ?_
    rw [hX]
    exact (Mt_in _ _ _ _ (by omega)).mpr q2
  ·intro e
   have e' : v = T.size := Int.ofNat_inj.mp e
   rcases Nat.lt_or_ge u T.size with q | q
   ·exfalso
    rcases u3 with w | ⟨w1, w2⟩
    ·omega
    rw [hX] at w2
    by_cases c : u + 2 + n.size < T.size
    ·exact v2 u (Nat.zero_le _) (by omega) c ((Mt_in _ _ _ _ (by omega)).mp w2)
    ·exact Mt_over _ _ _ _ h60 (by omega) (by omega) w2
   ·rw [show u = T.size by omega]
end Go.Proofs.Ytaomfbbbdddlmaa.Sg
