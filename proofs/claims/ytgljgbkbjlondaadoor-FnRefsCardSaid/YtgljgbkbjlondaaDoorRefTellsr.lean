/- References by name and by number: the program's Ref and the reference's tell what stands there. No conditions but the sizes. -/
import Derived.Test.YtgljgbkbjlondaaDoorRefBaser
set_option linter.unusedVariables false
set_option linter.unusedSimpArgs false
namespace Go.Proofs.YtgljgbkbjlondaaDoor.Rf
open Go Go.RowKit Go.Proofs.YtgljgbkbjlondaaDoor.P Go.Proofs.YtgljgbkbjlondaaDoor.Evs Go.Proofs.YtgljgbkbjlondaaDoorW.PrintWords Go.Proofs.YtgljgbkbjlondaaDoorW.PrintLast

/-! ### names -/
def names : List ByteArray := [(⟨#[97, 109, 112]⟩ : ByteArray), (⟨#[97, 112, 111, 115]⟩ : ByteArray), (⟨#[99, 111, 112, 121]⟩ : ByteArray), (⟨#[101, 117, 114, 111]⟩ : ByteArray), (⟨#[103, 116]⟩ : ByteArray), (⟨#[104, 101, 108, 108, 105, 112]⟩ : ByteArray), (⟨#[108, 116]⟩ : ByteArray), (⟨#[109, 100, 97, 115, 104]⟩ : ByteArray), (⟨#[110, 98, 115, 112]⟩ : ByteArray), (⟨#[110, 111, 116]⟩ : ByteArray), (⟨#[110, 111, 116, 105, 110]⟩ : ByteArray), (⟨#[113, 117, 111, 116]⟩ : ByteArray), (⟨#[114, 101, 103]⟩ : ByteArray), (⟨#[116, 105, 109, 101, 115]⟩ : ByteArray)]
def signs : List Int := [38, 39, 169, 8364, 62, 8230, 60, 8212, 160, 172, 8713, 34, 174, 215]
theorem names_small : ∀ nm ∈ names, nm.size ≤ 6 := by
 intro nm h
 simp only [names, List.mem_cons, List.not_mem_nil, or_false] at h
 rcases h with rfl | rfl | rfl | rfl | rfl | rfl | rfl | rfl | rfl | rfl | rfl | rfl | rfl | rfl <;> decide
def look : List ByteArray → List Int → ByteArray → Int
 | nm :: l, c :: r, x => if nm.toList = x.toList then c else look l r x
 | _, _, _ => -1
def sg (x : ByteArray) : Int := look names signs x
theorem look_loop (x : ByteArray) : ∀ (d j : Nat), 14 - j = d → j ≤ 14 → Ev (fun k => impl_NameSign.l0 k x signs names ((names.length : Nat) : Int) j) (look (names.drop j) (signs.drop j) x) ∧ Ev (fun k => spec_NameSign.l0 k x signs names j) (look (names.drop j) (signs.drop j) x) := by
 have hn : names.length = 14 := rfl
 have hs : signs.length = 14 := rfl
 intro d
 induction d with
 | zero =>
  intro j hd hj
  rw [List.drop_eq_nil_of_le (by omega)]
  refine ⟨Ev.here fun k => ?_, Ev.here fun k => ?_⟩
  ·simp only [impl_NameSign.l0]; rw [if_neg (by omega)]; rfl
  ·simp only [spec_NameSign.l0]; rw [if_neg (by omega)]; rfl
 | succ d ih =>
  intro j hd hj
  have hjn : j < names.length := by omega
  have hjs : j < signs.length := by omega
  have hrd : rdOf ByteArray.empty names (j : Int) = names[j] := rdT names ByteArray.empty j hjn
  have hrs : rd signs (j : Int) = signs[j] := rdT signs 0 j hjs
  have hw : wrap64 ((j : Int) + 1) = ((j + 1 : Nat) : Int) := succ64 (by omega)
  obtain ⟨i1, i2⟩ := ih (j + 1) (by omega) (by omega)
  rw [List.drop_eq_getElem_cons hjn, List.drop_eq_getElem_cons hjs]
  generalize names[j]'hjn = nm at hrd
  generalize signs[j]'hjs = cc at hrs
  by_cases c : nm.toList = x.toList
  ·rw [show look (nm :: names.drop (j + 1)) (cc :: signs.drop (j + 1)) x = cc from if_pos c]
   refine ⟨Ev.here fun k => ?_, Ev.here fun k => ?_⟩
   ·simp only [impl_NameSign.l0, hrd, hrs]; rw [if_pos (by omega), if_pos (by omega), if_pos (by omega), if_pos c, if_pos (by omega)]
   ·simp only [spec_NameSign.l0, hrd, hrs]; rw [if_pos (by omega), if_pos (by omega), if_pos c, if_pos (by omega)]
  ·rw [show look (nm :: names.drop (j + 1)) (cc :: signs.drop (j + 1)) x = look (names.drop (j + 1)) (signs.drop (j + 1)) x from if_neg c]
   refine ⟨Ev.step (fun k => ?_) i1, Ev.step (fun k => ?_) i2⟩
   ·simp only [impl_NameSign.l0, hrd, hw]; rw [if_pos (by omega), if_pos (by omega), if_pos (by omega), if_neg c]
   ·simp only [spec_NameSign.l0, hrd, hw]; rw [if_pos (by omega), if_pos (by omega), if_neg c]
theorem sg_impl (x : ByteArray) : Ev (fun k => impl_NameSign.f k x) (sg x) := by
 have h := (look_loop x 14 0 (by omega) (by omega)).1
 rw [List.drop_zero, List.drop_zero] at h
 exact Ev.opt (a := names) rfl h
theorem sg_spec (x : ByteArray) : Ev (fun k => spec_NameSign.f k x) (sg x) := by
 have h := (look_loop x 14 0 (by omega) (by omega)).2
 rw [List.drop_zero, List.drop_zero] at h
 exact Ev.opt (a := names) rfl h

/-! ### the longest name -/
theorem toList_data (a : ByteArray) : a.toList = a.data.toList := ByteArray.toList_eq a
theorem size_list (a : ByteArray) : a.data.toList.length = a.size := rfl
theorem prefix_take (t l : List UInt8) : t.isPrefixOf l = (decide (t.length ≤ l.length) && (l.take t.length == t)) := by
 rw [Bool.eq_iff_iff, List.isPrefixOf_iff_prefix, Bool.and_eq_true, decide_eq_true_iff, beq_iff_eq]
 constructor
 ·intro h
  exact ⟨h.length_le, (List.prefix_iff_eq_take.mp h).symm⟩
 ·rintro ⟨_, h⟩
  exact List.prefix_iff_eq_take.mpr h.symm
theorem has_prefix (q t : ByteArray) : strings_HasPrefix.f q t = some (t.data.toList.isPrefixOf q.data.toList) := by
 have h : stringslite_HasPrefix.f q t = some (t.data.toList.isPrefixOf q.data.toList) := by
  rw [prefix_take]
  unfold stringslite_HasPrefix.f
  have h1 : t.data.toList.length = t.size := rfl
  have h2 : q.data.toList.length = q.size := rfl
  by_cases c : t.size ≤ q.size
  ·rw [if_pos (by omega), if_pos (by omega), if_pos (by omega), Int.toNat_natCast, toList_data, toList_data, Lib.extract_data, List.drop_zero, Nat.sub_zero, h1, h2, decide_eq_true c]
   rfl
  ·rw [if_neg (by omega), h1, h2, decide_eq_false c]
   rfl
 unfold strings_HasPrefix.f
 rw [h]
 rfl
theorem rest_list (s : ByteArray) (j : Nat) : (s.extract j s.size).data.toList = s.data.toList.drop j := by
 rw [Lib.extract_data, List.take_of_length_le]
 rw [List.length_drop]
 exact Nat.le_refl _
def stp (rest : List UInt8) (best nm : ByteArray) : ByteArray := if best.size < nm.size then (if nm.data.toList.isPrefixOf rest = true then nm else best) else best
def best (rest : List UInt8) : ByteArray := names.foldl (stp rest) (⟨#[]⟩ : ByteArray)
theorem fold_prefix (rest : List UInt8) : ∀ (l : List ByteArray) (b : ByteArray), b.data.toList.isPrefixOf rest = true → b.size ≤ 6 → (∀ nm ∈ l, nm.size ≤ 6) → (l.foldl (stp rest) b).data.toList.isPrefixOf rest = true ∧ (l.foldl (stp rest) b).size ≤ 6
 | [], b, h, h2, _ => ⟨h, h2⟩
 | nm :: l, b, h, h2, h3 => by
  rw [List.foldl_cons]
  have hq : (stp rest b nm).data.toList.isPrefixOf rest = true ∧ (stp rest b nm).size ≤ 6 := by
   unfold stp
   split
   ·split
    ·next c => exact ⟨c, h3 _ List.mem_cons_self⟩
    ·exact ⟨h, h2⟩
   ·exact ⟨h, h2⟩
  exact fold_prefix rest l _ hq.1 hq.2 (fun y hy => h3 y (List.mem_cons_of_mem _ hy))
theorem best_prefix (rest : List UInt8) : (best rest).data.toList.isPrefixOf rest = true ∧ (best rest).size ≤ 6 := by
 have h0 : (⟨#[]⟩ : ByteArray).data.toList.isPrefixOf rest = true := by cases rest <;> rfl
 have h := fold_prefix rest names (⟨#[]⟩ : ByteArray) h0 (by decide) names_small
 unfold best
 exact h
theorem best_le (rest : List UInt8) : (best rest).size ≤ rest.length := by
 have h := (best_prefix rest).1
 rw [List.isPrefixOf_iff_prefix] at h
 have h2 := h.length_le
 rw [size_list] at h2
 exact h2
theorem best_impl (s : ByteArray) (hs : s.size ≤ 4194304) (at_ : Int) (v : Bool) (j0 : Nat) (hj0 : j0 ≤ s.size) : ∀ (d j : Nat) (b : ByteArray), 14 - j = d → j ≤ 14 →
  ∀ r, Ev (fun k => impl_Ref.l0 k s at_ v (s.extract j0 s.size) ((names.drop j).foldl (stp (s.data.toList.drop j0)) b) names ((names.length : Nat) : Int) 14) r → Ev (fun k => impl_Ref.l0 k s at_ v (s.extract j0 s.size) b names ((names.length : Nat) : Int) j) r := by
 have hn : names.length = 14 := rfl
 intro d
 induction d with
 | zero =>
  intro j b hd hj r hr
  obtain rfl : j = 14 := by omega
  have hz : names.drop 14 = [] := List.drop_eq_nil_of_le (by omega)
  rw [hz] at hr
  exact hr
 | succ d ih =>
  intro j b hd hj r hr
  have hjn : j < names.length := by omega
  have hrd : rdOf ByteArray.empty names (j : Int) = names[j] := rdT names ByteArray.empty j hjn
  have hw : wrap64 ((j : Int) + 1) = ((j + 1 : Nat) : Int) := succ64 (by omega)
  rw [List.drop_eq_getElem_cons hjn, List.foldl_cons] at hr
  have h := ih (j + 1) _ (by omega) (by omega) r hr
  have hA : (j : Int) < ((names.length : Nat) : Int) := by omega
  have hB : (0 : Int) ≤ (j : Int) := by omega
  refine Ev.step (fun k => ?_) h
  simp only [impl_Ref.l0, hrd, hw, has_prefix, rest_list]
  rw [if_pos hA, if_pos hB, if_pos hA]
  unfold stp
  by_cases c : b.size < names[j].size
  ·rw [if_pos (Int.ofNat_lt.mpr c), if_pos c]
   simp only [Option.bind_some]
   by_cases c2 : (names[j]).data.toList.isPrefixOf (s.data.toList.drop j0) = true
   ·rw [if_pos c2, if_pos c2]
   ·rw [if_neg c2, if_neg c2]
  ·rw [if_neg (fun q => c (Int.ofNat_lt.mp q)), if_neg c]
theorem best_spec (s : ByteArray) (hs : s.size ≤ 4194304) (j0 : Nat) (hj0 : j0 ≤ s.size) : ∀ (d j : Nat) (b : ByteArray), 14 - j = d → j ≤ 14 →
  Ev (fun k => spec_l3Longest.l0 k s j0 b names j) ((names.drop j).foldl (stp (s.data.toList.drop j0)) b) := by
 have hn : names.length = 14 := rfl
 intro d
 induction d with
 | zero =>
  intro j b hd hj
  have hz : names.drop j = [] := List.drop_eq_nil_of_le (by omega)
  rw [hz]
  refine Ev.here fun k => ?_
  simp only [spec_l3Longest.l0]
  rw [if_neg (by omega)]
  rfl
 | succ d ih =>
  intro j b hd hj
  have hjn : j < names.length := by omega
  have hrd : rdOf ByteArray.empty names (j : Int) = names[j] := rdT names ByteArray.empty j hjn
  have hw : wrap64 ((j : Int) + 1) = ((j + 1 : Nat) : Int) := succ64 (by omega)
  rw [List.drop_eq_getElem_cons hjn, List.foldl_cons]
  have h := ih (j + 1) (stp (s.data.toList.drop j0) b names[j]) (by omega) (by omega)
  have hA : (j : Int) < ((names.length : Nat) : Int) := by omega
  have hB : (0 : Int) ≤ (j : Int) := by omega
  have hsm := names_small _ (List.getElem_mem hjn)
  have hwn : wrap64 ((j0 : Int) + ((names[j]).size : Int)) = ((j0 + (names[j]).size : Nat) : Int) := by rw [w64 (by omega) (by omega)]; rfl
  refine Ev.step (fun k => ?_) h
  simp only [spec_l3Longest.l0, hrd, hw, hwn, Int.toNat_natCast]
  rw [if_pos hA, if_pos hB]
  unfold stp
  by_cases c : b.size < names[j].size
  ·rw [if_pos (Int.ofNat_lt.mpr c), if_pos c, prefix_take]
   have h1 : (names[j]).data.toList.length = (names[j]).size := rfl
   have h2 : (s.data.toList.drop j0).length = s.size - j0 := List.length_drop
   by_cases c2 : j0 + (names[j]).size ≤ s.size
   ·rw [if_pos (Int.ofNat_le.mpr c2), if_pos (by omega), if_pos (by omega), toList_data, toList_data, Lib.extract_data, h1, h2, decide_eq_true (by omega), Bool.true_and, show j0 + (names[j]).size - j0 = (names[j]).size by omega]
    by_cases c3 : (s.data.toList.drop j0).take (names[j]).size = (names[j]).data.toList
    ·rw [if_pos c3, if_pos (beq_iff_eq.mpr c3)]
    ·rw [if_neg c3, if_neg (by rw [beq_iff_eq]; exact c3)]
   ·rw [if_neg (fun q => c2 (Int.ofNat_le.mp q)), h1, h2, decide_eq_false (by omega), Bool.false_and, if_neg Bool.false_ne_true]
  ·rw [if_neg (fun q => c (Int.ofNat_lt.mp q)), if_neg c]

/-! ### what stands behind -/
def sc (l : List UInt8) : Nat := if l.head? = some 59 then 1 else 0
theorem end_impl (s : ByteArray) (hs : s.size ≤ 4194304) (e : Nat) (he : e ≤ s.size) : impl_withEnd.f s e = some ((e + sc (s.data.toList.drop e) : Nat) : Int) := by
 unfold impl_withEnd.f sc
 by_cases c : e < s.size
 ·have hh : bt s (e : Int) = 59 ↔ (s.data.toList.drop e).head? = some 59 := head_iff s e 59 (by decide) c
  rw [if_pos (by omega), if_pos (by omega)]
  by_cases c2 : bt s (e : Int) = 59
  ·rw [if_pos c2, if_pos (hh.mp c2), succ64 (by omega)]
  ·rw [if_neg c2, if_neg (fun q => c2 (hh.mpr q))]; rfl
 ·rw [if_neg (by omega), drop_end s e (by omega), if_neg (by simp)]; rfl
theorem aft_impl (s : ByteArray) (e : Nat) : Ev (fun k => impl_isAfter.f k s e) (aft (s.data.toList.drop e)) := by
 unfold impl_isAfter.f
 by_cases c : e < s.size
 ·obtain ⟨b, e1, e2⟩ := bt_byte s e c
  rw [e1, e2]
  have hb : ((b.toNat : Int) = 61) ↔ b = 61 := byte_eq b 61 (by decide)
  refine Ev.ite_pos (by omega) (Ev.ite_pos (by omega) ?_)
  rw [show aft (b :: s.data.toList.drop (e + 1)) = (b == 61 || lt b || decide (0 ≤ dg false b)) from rfl]
  by_cases c1 : b = 61
  ·rw [show (b == 61) = true from beq_iff_eq.mpr c1, Bool.true_or, Bool.true_or]
   exact Ev.ite_pos (hb.mpr c1) (Ev.now _)
  ·rw [show (b == 61) = false from beq_eq_false_iff_ne.mpr c1, Bool.false_or]
   refine Ev.ite_neg (fun q => c1 (hb.mp q)) (Ev.opt (lt_impl b) ?_)
   cases lt b with
   | true => exact Ev.ite_pos rfl (Ev.now _)
   | false => exact Ev.ite_neg Bool.false_ne_true (Ev.bind (dg_impl false b) (Ev.now _))
 ·rw [drop_end s e (by omega)]
  exact Ev.ite_neg (by omega) (Ev.now _)

/-! ### the reference at a place -/
/-- What is told of the digits that begin a list; pre: what stands ahead of them. -/
noncomputable def numF (hex : Bool) (l : List UInt8) (pre : Nat) : ByteArray × Nat :=
 if (numGo hex l 0).2 = 0 then ((⟨#[]⟩ : ByteArray), 0) else (ps (nb (numGo hex l 0).1), pre + (numGo hex l 0).2 + sc (l.drop (numGo hex l 0).2))
def isX (t : List UInt8) : Bool := t.head? == some 120 || t.head? == some 88
noncomputable def refNum (t : List UInt8) : ByteArray × Nat := if isX t = true then numF true (t.drop 1) 3 else numF false t 2
noncomputable def refName (v : Bool) (rest : List UInt8) : ByteArray × Nat :=
 if (best rest).size = 0 then ((⟨#[]⟩ : ByteArray), 0)
 else if sc (rest.drop (best rest).size) = 0 ∧ (v && aft (rest.drop (best rest).size)) = true then ((⟨#[]⟩ : ByteArray), 0)
 else (ps (sg (best rest)), 1 + (best rest).size + sc (rest.drop (best rest).size))
noncomputable def refV (v : Bool) : List UInt8 → ByteArray × Nat
 | [] => ((⟨#[]⟩ : ByteArray), 0)
 | b :: rest => if b = 38 then (if rest.head? = some 35 then refNum (rest.drop 1) else refName v rest) else ((⟨#[]⟩ : ByteArray), 0)
theorem refV_cons (v : Bool) (b : UInt8) (rest : List UInt8) : refV v (b :: rest) = if b = 38 then (if rest.head? = some 35 then refNum (rest.drop 1) else refName v rest) else ((⟨#[]⟩ : ByteArray), 0) := rfl
def pairI (p : ByteArray × Nat) : ByteArray × Int := (p.1, (p.2 : Int))
theorem numF_le (hex : Bool) (l : List UInt8) (pre : Nat) : (numF hex l pre).2 ≤ pre + l.length ∧ ((numF hex l pre).2 = 0 ∨ (1 ≤ (numF hex l pre).1.size ∧ (numF hex l pre).1.size ≤ 4 ∧ 1 ≤ (numF hex l pre).2)) := by
 unfold numF
 by_cases c : (numGo hex l 0).2 = 0
 ·rw [if_pos c]; exact ⟨Nat.zero_le _, Or.inl rfl⟩
 ·rw [if_neg c]
  have h1 := numGo_le hex l 0
  have h2 := ps_size (nb (numGo hex l 0).1)
  refine ⟨?_, Or.inr ⟨h2.1, h2.2, by show 1 ≤ pre + _ + _; omega⟩⟩
  show pre + (numGo hex l 0).2 + sc (l.drop (numGo hex l 0).2) ≤ pre + l.length
  unfold sc
  split
  ·next q =>
   rcases Nat.lt_or_ge (numGo hex l 0).2 l.length with z | z
   ·omega
   ·rw [List.drop_eq_nil_of_le z] at q; cases q
  ·omega
theorem sc_le (rest : List UInt8) (n : Nat) (h : n ≤ rest.length) : n + sc (rest.drop n) ≤ rest.length := by
 unfold sc
 split
 ·next q =>
  rcases Nat.lt_or_ge n rest.length with z | z
  ·omega
  ·rw [List.drop_eq_nil_of_le z] at q; cases q
 ·omega
theorem isX_cons {t : List UInt8} (h : isX t = true) : 1 ≤ t.length := by
 cases t with
 | nil => cases h
 | cons b l => rw [List.length_cons]; omega
theorem refV_le (v : Bool) (l : List UInt8) : (refV v l).2 ≤ l.length ∧ ((refV v l).2 = 0 ∨ (1 ≤ (refV v l).1.size ∧ (refV v l).1.size ≤ 4 ∧ 1 ≤ (refV v l).2)) := by
 cases l with
 | nil => exact ⟨Nat.le_refl _, Or.inl rfl⟩
 | cons b rest =>
  rw [refV_cons]
  by_cases c : b = 38
  ·rw [if_pos c]
   by_cases c2 : rest.head? = some 35
   ·rw [if_pos c2]
    cases rest with
    | nil => cases c2
    | cons x t =>
     rw [List.length_cons, List.length_cons]
     by_cases c3 : isX t = true
     ·have h1 := isX_cons c3
      have h := numF_le true (t.drop 1) 3
      rw [List.length_drop] at h
      rw [show refNum (List.drop 1 (x :: t)) = numF true (t.drop 1) 3 from if_pos c3]
      exact ⟨by omega, h.2⟩
     ·have h := numF_le false t 2
      rw [show refNum (List.drop 1 (x :: t)) = numF false t 2 from if_neg c3]
      exact ⟨by omega, h.2⟩
   ·rw [if_neg c2]
    unfold refName
    by_cases c3 : (best rest).size = 0
    ·rw [if_pos c3]; exact ⟨Nat.zero_le _, Or.inl rfl⟩
    ·rw [if_neg c3]
     by_cases c4 : sc (rest.drop (best rest).size) = 0 ∧ (v && aft (rest.drop (best rest).size)) = true
     ·rw [if_pos c4]; exact ⟨Nat.zero_le _, Or.inl rfl⟩
     ·rw [if_neg c4]
      have h1 := sc_le rest _ (best_le rest)
      have h2 := ps_size (sg (best rest))
      refine ⟨?_, Or.inr ⟨h2.1, h2.2, by show 1 ≤ 1 + _ + _; omega⟩⟩
      show 1 + (best rest).size + sc (rest.drop (best rest).size) ≤ rest.length + 1
      omega
  ·rw [if_neg c]; exact ⟨Nat.zero_le _, Or.inl rfl⟩
end Go.Proofs.YtgljgbkbjlondaaDoor.Rf
