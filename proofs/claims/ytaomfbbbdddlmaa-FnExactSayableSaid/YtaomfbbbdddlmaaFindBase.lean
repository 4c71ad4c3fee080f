/- Searches in a text: the reference's loops and the library's words for the same. No conditions but the size. -/
import Derived.Test.YtaomfbbbdddlmaaEvBase
import Derived.Lib.IndexMore
import Derived.Lib.IndexBytes
import Derived.Test.YtaomfbbbdddlmaaQs10
import Derived.Test.YtaomfbbbdddlmaaQs6
set_option linter.unusedVariables false
set_option linter.unusedSimpArgs false
namespace Go.Proofs.Ytaomfbbbdddlmaa.Sg
open Go Go.RowKit Go.Proofs.Ytaomfbbbdddlmaa.P Go.Proofs.Ytaomfbbbdddlmaa.Evs Go.Proofs.YtaomfbbbdddlmaaW.PrintWords Go.Proofs.YtaomfbbbdddlmaaW.PrintLast

theorem bt_list (s : ByteArray) (j : Nat) (h : j < s.data.toList.length) : bt s (j : Int) = ((s.data.toList[j]).toNat : Int) := by
 have h' : j < s.size := h
 unfold bt
 rw [Int.toNat_natCast, dif_pos h']
 rfl
/-- One byte, looked for from a place on. -/
theorem Find_some (s : ByteArray) (c : UInt8) (hs : s.size ≤ 1048576) : ∀ (d j : Nat), s.size - j = d → j ≤ s.size →
  ∃ r : Int, Ev (fun k => spec_l4Find.l0 k s j (c.toNat : Int)) r ∧ (r < 0 ↔ c ∉ s.data.toList.drop j) := by
 intro d
 have hsz : s.data.toList.length = s.size := rfl
 induction d with
 | zero =>
  intro j hd hj
  refine ⟨-1, Ev.here fun k => ?_, ?_⟩
  ·simp only [spec_l4Find.l0]; rw [if_neg (by omega)]
  ·rw [List.drop_eq_nil_of_le (by omega)]; simp
 | succ d ih =>
  intro j hd hj
  have hjl : j < s.data.toList.length := by omega
  have hA : (j : Int) < (s.size : Int) := Int.ofNat_lt.mpr hjl
  have hB : (0 : Int) ≤ (j : Int) := Int.natCast_nonneg j
  have hw : wrap64 ((j : Int) + 1) = ((j + 1 : Nat) : Int) := by rw [w64 (by omega) (by omega)]; rfl
  rw [List.drop_eq_getElem_cons hjl]
  have hstep : ∀ k, spec_l4Find.l0 (k + 1) s j (c.toNat : Int) = if (s.data.toList[j]) = c then some (j : Int) else spec_l4Find.l0 k s ((j + 1 : Nat) : Int) (c.toNat : Int) := by
   intro k
   have hbt := bt_list s j hjl
   generalize s.data.toList[j] = b at hbt
   simp only [spec_l4Find.l0, hbt, hw]
   rw [if_pos hA, if_pos hB]
   by_cases h : b = c
   ·rw [if_pos h, if_pos (by rw [h])]
   ·rw [if_neg h, if_neg (fun e => h (UInt8.toNat_inj.mp (Int.ofNat_inj.mp e)))]
  by_cases h : s.data.toList[j] = c
  ·refine ⟨j, Ev.here fun k => by rw [hstep, if_pos h], ?_⟩
   constructor
   ·intro h0; omega
   ·intro h0; exact absurd (by rw [h]; exact List.mem_cons_self) h0
  ·obtain ⟨r, er, hr⟩ := ih (j + 1) (by omega) (by omega)
   refine ⟨r, Ev.step (fun k => by rw [hstep, if_neg h]) er, ?_⟩
   rw [hr, List.mem_cons]
   constructor
   ·rintro h0 (h1 | h1)
    ·exact h h1.symm
    ·exact h0 h1
   ·intro h0 h1; exact h0 (Or.inr h1)
theorem stands_tells (s t : ByteArray) (j : Nat) (hs : s.size ≤ 1048576) (ht : j + t.size ≤ s.size) : spec_l5Stands.f s j t = some ((s.extract j (j + t.size)).toList == t.toList) := by
 have hw : wrap64 ((j : Int) + (t.size : Int)) = ((j + t.size : Nat) : Int) := by rw [w64 (by omega) (by omega)]; rfl
 unfold spec_l5Stands.f
 rw [hw, if_pos (by omega), if_pos (by omega), if_pos (by omega), Int.toNat_natCast, Int.toNat_natCast]
/-- A text, looked for from a place on. -/
theorem Search_some (s t : ByteArray) (hs : s.size ≤ 1048576) (ht : t.size ≤ 1048576) : ∀ (d j : Nat), s.size + 1 - j = d → j ≤ s.size + 1 →
  ∃ r : Int, Ev (fun k => spec_l5Search.l0 k s j t) r ∧ (r < 0 ↔ ∀ i, j ≤ i → i + t.size ≤ s.size → (s.extract i (i + t.size)).toList ≠ t.toList) := by
 intro d
 induction d with
 | zero =>
  intro j hd hj
  refine ⟨-1, Ev.here fun k => ?_, ?_⟩
  ·simp only [spec_l5Search.l0]; rw [if_neg (by rw [w64 (by omega) (by omega)]; omega)]
  ·constructor
   ·intro _ i h1 h2; omega
   ·intro _; omega
 | succ d ih =>
  intro j hd hj
  have hw0 : wrap64 ((j : Int) + (t.size : Int)) = ((j + t.size : Nat) : Int) := by rw [w64 (by omega) (by omega)]; rfl
  by_cases c : j + t.size ≤ s.size
  ·have hw : wrap64 ((j : Int) + 1) = ((j + 1 : Nat) : Int) := by rw [w64 (by omega) (by omega)]; rfl
   have hst := stands_tells s t j hs c
   have hA : ((j + t.size : Nat) : Int) ≤ (s.size : Int) := by omega
   have hstep : ∀ k, spec_l5Search.l0 (k + 1) s j t = if ((s.extract j (j + t.size)).toList == t.toList) = true then some (j : Int) else spec_l5Search.l0 k s ((j + 1 : Nat) : Int) t := by
    intro k
    simp only [spec_l5Search.l0, hw0, hst, hw, Option.bind_some]
    rw [if_pos hA]
   by_cases h : ((s.extract j (j + t.size)).toList == t.toList) = true
   ·refine ⟨j, Ev.here fun k => by rw [hstep, if_pos h], ?_⟩
    constructor
    ·intro h0; omega
    ·intro h0; exact absurd (by simpa using h) (h0 j (Nat.le_refl _) c)
   ·obtain ⟨r, er, hr⟩ := ih (j + 1) (by omega) (by omega)
    refine ⟨r, Ev.step (fun k => by rw [hstep, if_neg h]) er, ?_⟩
    rw [hr]
    constructor
    ·intro h0 i h1 h2
     rcases Nat.lt_or_ge j i with h3 | h3
     ·exact h0 i h3 h2
     ·obtain rfl : i = j := by omega
      simpa using h
    ·intro h0 i h1 h2; exact h0 i (by omega) h2
  ·refine ⟨-1, Ev.here fun k => ?_, ?_⟩
   ·simp only [spec_l5Search.l0]; rw [hw0, if_neg (by omega)]
   ·constructor
    ·intro _ i h1 h2; omega
    ·intro _; omega
/-! ### strings.Contains, HasSuffix in the same words -/
theorem contains_one (l : List UInt8) (c : UInt8) : Lib.contains l [c] = decide (c ∈ l) := by
 unfold Lib.contains
 rw [Lib.index_one]
 induction l with
 | nil => rfl
 | cons b l ih =>
  rw [show Lib.indexByte (b :: l) c = (if (b == c) = true then 0 else if (Lib.indexByte l c == -1) = true then -1 else Lib.indexByte l c + 1) from rfl]
  by_cases h : b = c
  ·rw [if_pos (by simpa using h)]
   rw [decide_eq_true (by decide), decide_eq_true (by rw [h]; exact List.mem_cons_self)]
  ·rw [if_neg (by simpa using h)]
   have hge := Lib.indexByte_ge l c
   have hm : (c ∈ b :: l) ↔ (c ∈ l) := by rw [List.mem_cons]; exact ⟨fun h0 => h0.resolve_left (fun e => h e.symm), Or.inr⟩
   rw [show decide (c ∈ b :: l) = decide (c ∈ l) from decide_eq_decide.mpr hm, ← ih]
   by_cases h2 : Lib.indexByte l c = -1
   ·rw [if_pos (by simpa using h2), h2]
   ·rw [if_neg (by simpa using h2)]
    rw [decide_eq_true (by omega), decide_eq_true (by omega)]
theorem occAt_extract (s t : ByteArray) (i : Nat) (h : i + t.size ≤ s.size) : Lib.occAt s.data.toList t.data.toList i = ((s.extract i (i + t.size)).toList == t.toList) := by
 have hs : s.data.toList.length = s.size := rfl
 have ht : t.data.toList.length = t.size := rfl
 unfold Lib.occAt
 rw [show (t.data.toList.isPrefixOf (s.data.toList.drop i)) = Lib.hasPrefix (s.data.toList.drop i) t.data.toList from rfl, ← Lib.hasPrefix_of_take, decide_eq_true (by rw [List.length_drop]; omega), Bool.true_and, Lib.extract_toList, Lib.toList_data, ht, show i + t.size - i = t.size by omega]
theorem contains_tells (s t : ByteArray) : Lib.contains s.data.toList t.data.toList = false ↔ ∀ i, 0 ≤ i → i + t.size ≤ s.size → (s.extract i (i + t.size)).toList ≠ t.toList := by
 have hs : s.data.toList.length = s.size := rfl
 have ht : t.data.toList.length = t.size := rfl
 unfold Lib.contains
 rcases Lib.index_spec s.data.toList t.data.toList with ⟨h, hn⟩ | ⟨i, h, hi, ho, _⟩
 ·rw [h]
  constructor
  ·intro _ j _ hj he
   have := hn j (by omega)
   rw [occAt_extract s t j hj] at this
   simp [he] at this
  ·intro _; rfl
 ·have hr := Lib.index_room s.data.toList t.data.toList (by omega)
  rw [h] at hr
  rw [occAt_extract s t i (by omega)] at ho
  constructor
  ·intro h0; rw [h, decide_eq_false_iff_not] at h0; omega
  ·intro h0; exact absurd (by simpa using ho) (h0 i (Nat.zero_le _) (by omega))
theorem suffix_one (init : List UInt8) (x c : UInt8) : Lib.hasSuffix (init ++ [x]) [c] = decide (x = c) := by
 unfold Lib.hasSuffix
 rw [Bool.eq_iff_iff, List.isSuffixOf_iff_suffix, decide_eq_true_iff]
 constructor
 ·rintro ⟨t, ht⟩
  have := (List.append_inj' ht rfl).2
  exact (List.cons.inj this).1.symm
 ·rintro rfl; exact List.suffix_append _ _
end Go.Proofs.Ytaomfbbbdddlmaa.Sg
