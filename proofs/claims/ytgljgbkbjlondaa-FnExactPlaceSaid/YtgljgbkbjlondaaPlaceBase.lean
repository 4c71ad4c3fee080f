/- A page's own parts: tags by number, formatting names, the rows of open and of waiting tags: what the program and the reference tell. No conditions but the sizes. -/
import Derived.Test.YtgljgbkbjlondaaTreeOkBase
import Derived.Test.YtgljgbkbjlondaaIsOneOf
import Derived.Test.YtgljgbkbjlondaaPl15
import Derived.Test.YtgljgbkbjlondaaPl7
set_option linter.unusedVariables false
set_option linter.unusedSimpArgs false
namespace Go.Proofs.Ytgljgbkbjlondaa.Pg
open Go.RowKit Go.Proofs.Ytgljgbkbjlondaa.P Go.Proofs.Ytgljgbkbjlondaa.Evs Go.Proofs.Ytgljgbkbjlondaa.Tr Go.Proofs.YtgljgbkbjlondaaW.PrintWords Go.Proofs.YtgljgbkbjlondaaW.PrintLast

def tag (L : List S50) (i : Int) (nm : ByteArray) : Bool := decide (0 ≤ i ∧ i ≤ (L.length : Int) - 1) && (decide ((rd_T50 L i).f0 = 2) && (decide (nm.toList = []) || (rd_T50 L i).f2.toList == nm.toList))
theorem nil_list : (⟨#[]⟩ : ByteArray).toList = ([] : List UInt8) := by rw [Sg.toList_data]
theorem tag_spec (L : List S50) (hL : L.length ≤ 1048576) (i : Int) (nm : ByteArray) : spec_l8Tag.f L i nm = some (tag L i nm) := by
 have hw : wrap64 ((L.length : Int) - 1) = (L.length : Int) - 1 := w64 (by omega) (by omega)
 unfold spec_l8Tag.f tag
 rw [hw, l1In_eq]
 simp only [Option.bind_some]
 by_cases c : 0 ≤ i ∧ i ≤ (L.length : Int) - 1
 ·rw [decide_eq_true c, if_pos rfl, if_pos c.1, if_pos (by omega), Bool.true_and]
  by_cases d : (rd_T50 L i).f0 = 2
  ·rw [if_pos d, decide_eq_true d, Bool.true_and]
   by_cases e : nm.toList = []
   ·rw [if_pos e, decide_eq_true e, Bool.true_or]
   ·rw [if_neg e, decide_eq_false e, Bool.false_or]
  ·rw [if_neg d, decide_eq_false d, Bool.false_and]
 ·rw [decide_eq_false c, if_neg Bool.false_ne_true, Bool.false_and]
theorem tag_impl (L : List S50) (hL : L.length ≤ 1048576) (O F : List Int) (a b i : Int) : impl_Page_isTag.f L O F a b i = some (tag L i (⟨#[]⟩ : ByteArray), a, b) := by
 have hw : wrap64 ((L.length : Int) - 1) = (L.length : Int) - 1 := w64 (by omega) (by omega)
 unfold impl_Page_isTag.f tag
 rw [hw, inRange_eq]
 simp only [Option.bind_some]
 rw [decide_eq_true nil_list, Bool.true_or, Bool.and_true]
 by_cases c : 0 ≤ i ∧ i ≤ (L.length : Int) - 1
 ·rw [decide_eq_true c, if_pos rfl, if_pos c.1, if_pos (by omega), Bool.true_and]
  by_cases d : (rd_T50 L i).f0 = 2
  ·rw [decide_eq_true d, d]; rfl
  ·rw [decide_eq_false d, beq_eq_false_iff_ne.mpr d]
 ·rw [decide_eq_false c, if_neg Bool.false_ne_true, Bool.false_and]
theorem tag_in {L : List S50} {i : Int} {nm : ByteArray} (h : tag L i nm = true) : 0 ≤ i ∧ i < (L.length : Int) ∧ (rd_T50 L i).f0 = 2 := by
 unfold tag at h
 simp only [Bool.and_eq_true, decide_eq_true_eq] at h
 exact ⟨h.1.1, by omega, h.2.1⟩
theorem named_impl (L : List S50) (hL : L.length ≤ 1048576) (O F : List Int) (a b i : Int) (nm : ByteArray) (hn : ¬ nm.toList = []) : impl_Page_isNamed.f L O F a b i nm = some (decide (i = 0) || tag L i nm, a, b) := by
 unfold impl_Page_isNamed.f
 by_cases c0 : i = 0
 ·rw [if_pos c0, decide_eq_true c0, Bool.true_or]
 rw [if_neg c0, decide_eq_false c0, Bool.false_or, tag_impl L hL]
 simp only [Option.bind_some]
 by_cases c : tag L i (⟨#[]⟩ : ByteArray) = true
 ·obtain ⟨h0, h1, h2⟩ := tag_in c
  rw [if_pos c, if_pos h0, if_pos h1]
  unfold tag
  rw [decide_eq_true (show 0 ≤ i ∧ i ≤ (L.length : Int) - 1 by omega), decide_eq_true h2, decide_eq_false hn, Bool.true_and, Bool.true_and, Bool.false_or]
 ·rw [if_neg c]
  have c' := Bool.eq_false_iff.mpr c
  have : tag L i nm = false := by
   unfold tag at c' ⊢
   rw [decide_eq_true nil_list, Bool.true_or, Bool.and_true] at c'
   rw [← Bool.and_assoc, c', Bool.false_and]
  rw [this]
def forms : List ByteArray := [(⟨#[97]⟩ : ByteArray), (⟨#[98]⟩ : ByteArray), (⟨#[105]⟩ : ByteArray), (⟨#[117]⟩ : ByteArray), (⟨#[101, 109]⟩ : ByteArray), (⟨#[115, 116, 114, 111, 110, 103]⟩ : ByteArray), (⟨#[99, 111, 100, 101]⟩ : ByteArray), (⟨#[115, 109, 97, 108, 108]⟩ : ByteArray)]
def fm (nm : ByteArray) : Bool := forms.any fun w => nm.toList == w.data.toList
theorem Is_loop (nm : ByteArray) (ws : List ByteArray) (hl : ws.length ≤ 1048576) : ∀ (d j : Nat), ws.length - j = d → j ≤ ws.length → Ev (fun k => spec_l7Is.l0 k nm ws j) ((ws.drop j).any fun w => nm.toList == w.data.toList) := by
 intro d
 induction d with
 | zero =>
  intro j hd hj
  rw [List.drop_eq_nil_of_le (by omega)]
  refine Ev.here fun k => ?_
  simp only [spec_l7Is.l0]; rw [if_neg (by omega)]; rfl
 | succ d ih =>
  intro j hd hj
  have hjl : j < ws.length := by omega
  have hrd : rdOf ByteArray.empty ws (j : Int) = ws[j] := rdT ws ByteArray.empty j hjl
  have hw : wrap64 ((j : Int) + 1) = ((j + 1 : Nat) : Int) := succ64 (by omega)
  rw [List.drop_eq_getElem_cons hjl, List.any_cons]
  by_cases c : nm.toList = ws[j].data.toList
  ·rw [show (nm.toList == ws[j].data.toList) = true from beq_iff_eq.mpr c, Bool.true_or]
   refine Ev.here fun k => ?_
   simp only [spec_l7Is.l0, hrd]
   rw [if_pos (by omega), if_pos (by omega), if_pos (by rw [Sg.toList_data, c])]
  ·rw [show (nm.toList == ws[j].data.toList) = false from beq_eq_false_iff_ne.mpr c, Bool.false_or]
   refine Ev.step (fun k => ?_) (ih (j + 1) (by omega) (by omega))
   simp only [spec_l7Is.l0, hrd, hw]
   rw [if_pos (by omega), if_pos (by omega), if_neg (by rw [Sg.toList_data]; exact fun e => c e.symm)]
theorem fm_spec (nm : ByteArray) : Ev (fun k => spec_Format.f k nm) (fm nm) := by
 have h := Is_loop nm forms (by decide) forms.length 0 (by omega) (by omega)
 rw [List.drop_zero] at h
 exact Ev.bind h (Ev.now _)
theorem fm_impl (nm : ByteArray) (hs : nm.size ≤ 1048576) : impl_Format.f nm = some (fm nm) := by
 unfold impl_Format.f
 rw [Sg.isOneOf_tells nm _ [[97], [98], [105], [117], [101, 109], [115, 116, 114, 111, 110, 103], [99, 111, 100, 101], [115, 109, 97, 108, 108]] hs (by decide) (by decide) (by decide) (by decide)]
 rfl
def Named (L : List S50) : Prop := ∀ i, i < L.length → (it L i).f2.size ≤ 1048576
def fo (L : List S50) (i : Int) : Bool := tag L i (⟨#[]⟩ : ByteArray) && fm (rd_T50 L i).f2
theorem fo_impl (L : List S50) (hL : L.length ≤ 1048576) (hN : Named L) (O F : List Int) (a b i : Int) : impl_Page_isFormat.f L O F a b i = some (fo L i, a, b) := by
 unfold impl_Page_isFormat.f fo
 rw [tag_impl L hL]
 simp only [Option.bind_some]
 by_cases c : tag L i (⟨#[]⟩ : ByteArray) = true
 ·obtain ⟨h0, h1, h2⟩ := tag_in c
  have hs : (rd_T50 L i).f2.size ≤ 1048576 := by
   rw [← it_toNat L h0]; exact hN _ (by omega)
  rw [if_pos c, if_pos h0, if_pos h1, fm_impl _ hs, c, Bool.true_and]
  rfl
 ·rw [if_neg c, Bool.eq_false_iff.mpr c, Bool.false_and]
/-- The first place of a number in a row. -/
def First (O : List Int) (a : Int) (i : Nat) : Prop := i < O.length ∧ rd O (i : Int) = a ∧ ∀ j, j < i → ¬ rd O (j : Int) = a
theorem Index_loop (O : List Int) (a : Int) (hl : O.length ≤ 1048576) : ∀ (d j : Nat), O.length - j = d → j ≤ O.length → (∀ i, i < j → ¬ rd O (i : Int) = a) → (∃ i, i < O.length ∧ rd O (i : Int) = a) → ∃ i, First O a i ∧ Ev (fun k => slices_Index_int_int.l0 k O a O.length j) (i : Int) := by
 intro d
 induction d with
 | zero =>
  intro j hd hj hn ⟨i, h1, h2⟩
  exact absurd h2 (hn i (by omega))
 | succ d ih =>
  intro j hd hj hn he
  have hw : wrap64 ((j : Int) + 1) = ((j + 1 : Nat) : Int) := succ64 (by omega)
  by_cases c : a = rd O (j : Int)
  ·refine ⟨j, ⟨by omega, c.symm, hn⟩, Ev.here fun k => ?_⟩
   simp only [slices_Index_int_int.l0]
   rw [if_pos (by omega), if_pos (by omega), if_pos (by omega), if_pos c]
  ·obtain ⟨i, h1, h2⟩ := ih (j + 1) (by omega) (by omega) (fun i hi => if e : i = j then by rw [e]; exact fun q => c q.symm else hn i (by omega)) he
   refine ⟨i, h1, Ev.step (fun k => ?_) h2⟩
   simp only [slices_Index_int_int.l0, hw]
   rw [if_pos (by omega), if_pos (by omega), if_pos (by omega), if_neg c]
theorem Index_tells (O : List Int) (a : Int) (hl : O.length ≤ 1048576) (he : ∃ i, i < O.length ∧ rd O (i : Int) = a) : ∃ i, First O a i ∧ Ev (fun k => slices_Index_int_int.f k O a) (i : Int) := by
 obtain ⟨i, h1, h2⟩ := Index_loop O a hl O.length 0 (by omega) (by omega) (fun i hi => absurd hi (by omega)) he
 exact ⟨i, h1, h2⟩
theorem First_uniq {O : List Int} {a : Int} {i j : Nat} (h1 : First O a i) (h2 : First O a j) : i = j := by
 rcases Nat.lt_trichotomy i j with c | c | c
 ·exact absurd h1.2.1 (h2.2.2 i c)
 ·exact c
 ·exact absurd h2.2.1 (h1.2.2 j c)
theorem once_iff (O : List Int) : (∀ j, j < O.length → O.count (rd O (j : Int)) = 1) ↔ ∀ j, j < O.length → ∀ i, i < j → ¬ rd O (i : Int) = rd O (j : Int) := by
 constructor
 ·intro h
  have hn : O.Nodup := by
   rw [List.nodup_iff_count]
   intro a
   by_cases c : a ∈ O
   ·obtain ⟨j, hj, rfl⟩ := List.getElem_of_mem c
    have := h j hj
    rw [rdI O j hj] at this
    omega
   ·rw [List.count_eq_zero_of_not_mem c]; omega
  intro j hj i hi
  rw [rdI O j hj, rdI O i (by omega)]
  exact List.pairwise_iff_getElem.mp hn i j (by omega) hj hi
 ·intro h j hj
  have hn : O.Nodup := List.pairwise_iff_getElem.mpr fun i j hi hj hij => by
   have := h j hj i hij
   rwa [rdI O j hj, rdI O i hi] at this
  rw [rdI O j hj]
  have h1 := List.nodup_iff_count.mp hn O[j]
  have h2 := List.count_pos_iff.mpr (List.getElem_mem hj)
  omega
end Go.Proofs.Ytgljgbkbjlondaa.Pg
