/- The texts under an item: the program's textsUnder and the reference's l12Inner tell the same. No conditions but the sizes. -/
import Derived.Test.YtfjheckgigppiaaTreeOkBase
import Derived.Test.YtfjheckgigppiaaPi17
import Derived.Test.YtfjheckgigppiaaPi18
import Derived.Test.YtfjheckgigppiaaPi6
import Derived.Test.YtfjheckgigppiaaPi7
set_option linter.unusedVariables false
set_option linter.unusedSimpArgs false
namespace Go.Proofs.Ytfjheckgigppiaa.Tr
open Go.RowKit Go.Proofs.Ytfjheckgigppiaa.P Go.Proofs.Ytfjheckgigppiaa.Evs Go.Proofs.YtfjheckgigppiaaW.PrintWords Go.Proofs.YtfjheckgigppiaaW.PrintLast

/-- Each number below n stands in a list of n unlike ones. -/
theorem all_in (n : Nat) (l : List Nat) (h1 : l.Nodup) (h2 : ∀ x, x ∈ l → x < n) (h3 : l.length = n) (x : Nat) (hx : x < n) : x ∈ l := by
  apply Classical.byContradiction
  intro hn
  have := nodup_le n (x :: l) (List.nodup_cons.mpr ⟨hn, h1⟩) (fun y hy => by
    rcases List.mem_cons.mp hy with e | e
    · subst e; exact hx
    · exact h2 y e)
  rw [List.length_cons] at this
  omega
/-- In a right tree, what stands under an item. -/
theorem Pre_item (L : List S70) (h : Right L) (i : Nat) (hi : i < L.length) : ∃ d out, Pre (kd L) d [i] out ∧ out.length ≤ L.length ∧ ∀ p, p ∈ out → p.1 < L.length := by
  obtain ⟨out, w, hl⟩ := h.2.2.2.2
  have ok := Links_ok L h.1.1 h.2.2.2.1
  have hm := all_in L.length (out.map Prod.fst) w.once (fun x hx => by
    obtain ⟨p, hp, e⟩ := List.mem_map.mp hx
    rw [← e]; exact (w.all p hp).1) (by rw [List.length_map]; exact hl) i hi
  obtain ⟨p, hp, e⟩ := List.mem_map.mp hm
  have ha := (w.all p hp).2
  rw [e] at ha
  have hs : ∀ k, k ∈ [i] → k < L.length ∧ At (upp L) p.2 k := fun k hk => by
    obtain rfl : k = i := by simpa using hk
    exact ⟨hi, ha⟩
  obtain ⟨o2, ho2⟩ := Pre_ex ok L.length p.2 [i] (by omega) hs
  obtain ⟨f1, f2⟩ := Pre_facts ok ho2 hs (by simp)
  refine ⟨p.2, o2, ho2, ?_, fun q hq => (f2 q hq).1⟩
  have := nodup_le L.length _ f1 (fun x hx => by
    obtain ⟨q, hq, e⟩ := List.mem_map.mp hx
    rw [← e]; exact (f2 q hq).1)
  rwa [List.length_map] at this
def txt (L : List S70) (i : Nat) : ByteArray := if (it L i).f0 = 3 then (it L i).f4 else ByteArray.empty
def txts (L : List S70) : List (Nat × Nat) → ByteArray
  | [] => ByteArray.empty
  | p :: t => txt L p.1 ++ txts L t
theorem txts_append (L : List S70) : ∀ a b : List (Nat × Nat), txts L (a ++ b) = txts L a ++ txts L b
  | [], b => by rw [List.nil_append, txts, ByteArray.empty_append]
  | p :: t, b => by rw [List.cons_append, txts, txts, txts_append L t b, ByteArray.append_assoc]
/-- The sizes of the texts. -/
def Texts (L : List S70) : Prop := ∀ y ∈ L, y.f4.size ≤ 1048576
theorem txt_size {L : List S70} (ht : Texts L) {i : Nat} (hi : i < L.length) : (txt L i).size ≤ 1048576 := by
  unfold txt
  split
  · rw [it_get hi]; exact ht _ (List.getElem_mem hi)
  · exact Nat.zero_le _
theorem txts_size {L : List S70} (ht : Texts L) : ∀ out : List (Nat × Nat), (∀ p, p ∈ out → p.1 < L.length) → (txts L out).size ≤ out.length * 1048576
  | [], _ => Nat.zero_le _
  | p :: t, h => by
    have h1 := txt_size ht (h p List.mem_cons_self)
    have h2 := txts_size ht t fun q hq => h q (List.mem_cons_of_mem _ hq)
    rw [txts, ByteArray.size_append, List.length_cons]
    omega
theorem text_no_kids {x : S70} (h : Plain x) (h3 : x.f0 = 3) : x.f6.length = 0 := by
  unfold Plain at h
  rw [if_neg (by omega), if_neg (by omega)] at h
  exact h.2.2.2.2
theorem spec_inner_go (L : List S70) (hL : Small L) (ht : Texts L) (hR : Right L) {d : Nat} {s : List Nat} {out : List (Nat × Nat)} (h : Pre (kd L) d s out) : (∀ p, p ∈ out → p.1 < L.length) → ∀ (i j : Nat) (acc : ByteArray), i < L.length → (kd L i).drop j = s → acc.size + out.length * 1048576 ≤ 4611686018427387904 →
    Ev (fun k => spec_l12Inner.l0 k L i acc j) (acc ++ txts L out) := by
  have hL1 := hL.1
  have hk := hR.2.2.2.1
  induction h with
  | nil d =>
    intro _ i j acc hi hd _
    have hj : (kd L i).length ≤ j := List.drop_eq_nil_iff.mp hd
    have e3 : (kd L i).length = (it L i).f6.length := List.length_map _
    have e4 : (rd_T70 L (i : Int)).f6.length ≤ j := by rw [e3] at hj; exact hj
    rw [txts, ByteArray.append_empty]
    refine Ev.here fun k => ?_
    simp only [spec_l12Inner.l0]
    rw [if_pos (by omega), if_pos (by omega), if_neg (by omega)]
  | @cons d x s a b h1 h2 ih1 ih2 =>
    intro hb i j acc hi hd hl
    rw [List.length_cons, List.length_append] at hl
    have e3 : (kd L i).length = (it L i).f6.length := List.length_map _
    have hj : j < (kd L i).length := by
      rcases Nat.lt_or_ge j (kd L i).length with q | q
      · exact q
      · rw [List.drop_eq_nil_of_le q] at hd; exact absurd hd (by simp)
    have hj2 : j < (it L i).f6.length := by omega
    have hj3 : j < (rd_T70 L (i : Int)).f6.length := hj2
    have hs1 := (it_small hL hi).2
    rw [List.drop_eq_getElem_cons hj] at hd
    obtain ⟨hx, hs⟩ := List.cons.inj hd
    obtain ⟨z1, z2, _⟩ := (hk i hi).2 _ (List.getElem_mem hj2)
    have hget : (it L i).f6[j] = (x : Int) := by
      have : (kd L i)[j] = ((it L i).f6[j]).toNat := List.getElem_map _
      omega
    have hxl : x < L.length := by omega
    have hrd : rd (rd_T70 L (i : Int)).f6 (j : Int) = (x : Int) := by
      have : rd (it L i).f6 (j : Int) = (x : Int) := by rw [rdI _ j hj2]; exact hget
      exact this
    have hba : ∀ p, p ∈ a → p.1 < L.length := fun p hp => hb p (List.mem_cons_of_mem _ (List.mem_append_left _ hp))
    have hbb : ∀ p, p ∈ b → p.1 < L.length := fun p hp => hb p (List.mem_cons_of_mem _ (List.mem_append_right _ hp))
    have sx := txt_size ht hxl
    have sa := txts_size ht a hba
    have f1 : Ev (fun k => spec_l12Inner.f k L x) (txt L x ++ txts L a) := by
      by_cases c : (it L x).f0 = 3
      · have hz := text_no_kids (hR.2.2.1 x hxl).1 c
        have hka : kd L x = [] := List.eq_nil_of_length_eq_zero (by rw [show (kd L x).length = (it L x).f6.length from List.length_map _]; exact hz)
        rw [hka] at h1
        cases h1
        rw [txts, ByteArray.append_empty, show txt L x = (it L x).f4 from if_pos c]
        refine Ev.here fun k => ?_
        simp only [spec_l12Inner.f]
        rw [if_pos (by omega), if_pos (by omega)]
        exact if_pos c
      · have g := ih1 hba x 0 ByteArray.empty hxl (by rw [List.drop_zero]) (by rw [ByteArray.size_empty]; omega)
        rw [show txt L x = ByteArray.empty from if_neg c]
        refine Ev.step (fun k => ?_) g
        simp only [spec_l12Inner.f]
        rw [if_pos (by omega), if_pos (by omega)]
        exact if_neg c
    have g2 := ih2 hbb i (j + 1) (acc ++ (txt L x ++ txts L a)) hi hs (by rw [ByteArray.size_append, ByteArray.size_append]; omega)
    have e5 : acc ++ txts L ((x, d) :: (a ++ b)) = acc ++ (txt L x ++ txts L a) ++ txts L b := by
      simp only [txts, txts_append, ByteArray.append_assoc]
    rw [e5]
    refine Ev.step (f := fun k => (spec_l12Inner.f k L x).bind fun t => if acc.size + t.size ≤ 9223372036854775807 then spec_l12Inner.l0 k L i (acc ++ t) ((j + 1 : Nat) : Int) else none) (fun k => ?_) (Ev.bind f1 (Ev.ite_pos (by rw [ByteArray.size_append]; omega) g2))
    simp only [spec_l12Inner.l0, hrd, succ64 (show j < 9223372036854775807 by omega)]
    rw [if_pos (by omega), if_pos (by omega), if_pos (by omega), if_pos (by omega)]
theorem impl_inner_go (L : List S70) (hL : Small L) (ht : Texts L) (hR : Right L) {d : Nat} {s : List Nat} {out : List (Nat × Nat)} (h : Pre (kd L) d s out) : (∀ p, p ∈ out → p.1 < L.length) → ∀ (i j : Nat) (acc : ByteArray), i < L.length → (kd L i).drop j = s → acc.size + out.length * 1048576 ≤ 140737488355328 →
    Ev (fun k => impl_textsUnder.l0 k L i acc j) (acc ++ txts L out) := by
  have hL1 := hL.1
  have hk := hR.2.2.2.1
  induction h with
  | nil d =>
    intro _ i j acc hi hd _
    have hj : (kd L i).length ≤ j := List.drop_eq_nil_iff.mp hd
    have e3 : (kd L i).length = (it L i).f6.length := List.length_map _
    have e4 : (rd_T70 L (i : Int)).f6.length ≤ j := by rw [e3] at hj; exact hj
    rw [txts, ByteArray.append_empty]
    refine Ev.here fun k => ?_
    simp only [impl_textsUnder.l0]
    rw [if_neg (by omega)]
  | @cons d x s a b h1 h2 ih1 ih2 =>
    intro hb i j acc hi hd hl
    rw [List.length_cons, List.length_append] at hl
    have e3 : (kd L i).length = (it L i).f6.length := List.length_map _
    have hj : j < (kd L i).length := by
      rcases Nat.lt_or_ge j (kd L i).length with q | q
      · exact q
      · rw [List.drop_eq_nil_of_le q] at hd; exact absurd hd (by simp)
    have hj2 : j < (it L i).f6.length := by omega
    have hj3 : j < (rd_T70 L (i : Int)).f6.length := hj2
    have hs1 := (it_small hL hi).2
    rw [List.drop_eq_getElem_cons hj] at hd
    obtain ⟨hx, hs⟩ := List.cons.inj hd
    obtain ⟨z1, z2, _⟩ := (hk i hi).2 _ (List.getElem_mem hj2)
    have hget : (it L i).f6[j] = (x : Int) := by
      have : (kd L i)[j] = ((it L i).f6[j]).toNat := List.getElem_map _
      omega
    have hxl : x < L.length := by omega
    have hrd : rd (rd_T70 L (i : Int)).f6 (j : Int) = (x : Int) := by
      have : rd (it L i).f6 (j : Int) = (x : Int) := by rw [rdI _ j hj2]; exact hget
      exact this
    have hba : ∀ p, p ∈ a → p.1 < L.length := fun p hp => hb p (List.mem_cons_of_mem _ (List.mem_append_left _ hp))
    have hbb : ∀ p, p ∈ b → p.1 < L.length := fun p hp => hb p (List.mem_cons_of_mem _ (List.mem_append_right _ hp))
    have sx := txt_size ht hxl
    have sa := txts_size ht a hba
    have f1 : Ev (fun k => impl_textsUnder.f k L x acc) (acc ++ txt L x ++ txts L a) := by
      have g := ih1 hba x 0 (acc ++ txt L x) hxl (by rw [List.drop_zero]) (by rw [ByteArray.size_append]; omega)
      refine Ev.step (fun k => ?_) g
      simp only [impl_textsUnder.f]
      rw [if_pos (by omega), if_pos (by omega)]
      by_cases c : (it L x).f0 = 3
      · have e : txt L x = (it L x).f4 := if_pos c
        rw [e] at sx ⊢
        exact (if_pos c).trans (if_pos (show acc.size + (it L x).f4.size ≤ _ by omega))
      · rw [show txt L x = ByteArray.empty from if_neg c, ByteArray.append_empty]
        exact if_neg c
    have g2 := ih2 hbb i (j + 1) (acc ++ txt L x ++ txts L a) hi hs (by rw [ByteArray.size_append, ByteArray.size_append]; omega)
    have e5 : acc ++ txts L ((x, d) :: (a ++ b)) = acc ++ txt L x ++ txts L a ++ txts L b := by
      simp only [txts, txts_append, ByteArray.append_assoc]
    rw [e5]
    refine Ev.step (f := fun k => (impl_textsUnder.f k L x acc).bind fun t => impl_textsUnder.l0 k L i t ((j + 1 : Nat) : Int)) (fun k => ?_) (Ev.bind f1 g2)
    simp only [impl_textsUnder.l0, hrd, succ64 (show j < 9223372036854775807 by omega)]
    rw [if_pos (by omega), if_pos (by omega)]
theorem Inner_same (L : List S70) (hL : Small L) (ht : Texts L) (a : Int) : ∃ v : ByteArray, Ev (fun k => spec_Inner.f k L a) v ∧ Ev (fun k => impl_Inner.f k L a) v := by
  have hL1 := hL.1
  have hn : wrap64 ((L.length : Int) - 1) = (L.length : Int) - 1 := w64 (by omega) (by omega)
  unfold spec_Inner.f impl_Inner.f
  rw [hn, inRange_eq, l1In_eq]
  by_cases c : 0 ≤ a ∧ a ≤ (L.length : Int) - 1
  · rw [decide_eq_true c]
    by_cases h : Right L
    · obtain ⟨i, rfl⟩ := Int.eq_ofNat_of_zero_le c.1
      have hi : i < L.length := by omega
      obtain ⟨d, out, hp, hl, hb⟩ := Pre_item L h i hi
      have hl3 := h.1.2
      have h3 := (spec_tells L hL).1 h
      have h4 := (impl_tells L hL).1 h
      cases hp with
      | @cons _ _ _ o1 o2 q1 q2 =>
        cases q2 with
        | nil =>
          rw [List.append_nil] at *
          rw [List.length_cons] at hl
          have hba : ∀ p, p ∈ o1 → p.1 < L.length := fun p hp => hb p (List.mem_cons_of_mem _ hp)
          have sx := txt_size ht hi
          have g1 := spec_inner_go L hL ht h q1 hba i 0 ByteArray.empty hi (by rw [List.drop_zero]) (by rw [ByteArray.size_empty]; omega)
          have g2 := impl_inner_go L hL ht h q1 hba i 0 (ByteArray.empty ++ txt L i) hi (by rw [List.drop_zero]) (by rw [ByteArray.size_append, ByteArray.size_empty]; omega)
          refine ⟨txt L i ++ txts L o1, Ev.bind h3 (Ev.ite_pos rfl (Ev.opt rfl (Ev.ite_pos rfl (Ev.bind ?_ (Ev.now _))))), Ev.opt rfl (Ev.ite_pos rfl (Ev.bind h4 (Ev.ite_pos rfl ?_)))⟩
          · by_cases c3 : (it L i).f0 = 3
            · have hz := text_no_kids (h.2.2.1 i hi).1 c3
              have hka : kd L i = [] := List.eq_nil_of_length_eq_zero (by rw [show (kd L i).length = (it L i).f6.length from List.length_map _]; exact hz)
              rw [hka] at q1
              cases q1
              rw [txts, ByteArray.append_empty, show txt L i = (it L i).f4 from if_pos c3]
              refine Ev.here fun k => ?_
              simp only [spec_l12Inner.f]
              rw [if_pos (by omega), if_pos (by omega)]
              exact if_pos c3
            · rw [show txt L i = ByteArray.empty from if_neg c3]
              refine Ev.step (fun k => ?_) g1
              simp only [spec_l12Inner.f]
              rw [if_pos (by omega), if_pos (by omega)]
              exact if_neg c3
          · rw [ByteArray.empty_append] at g2
            refine Ev.step (fun k => ?_) g2
            simp only [impl_textsUnder.f]
            rw [if_pos (by omega), if_pos (by omega)]
            by_cases c3 : (it L i).f0 = 3
            · have e : txt L i = (it L i).f4 := if_pos c3
              rw [e] at sx ⊢
              refine (if_pos c3).trans ((if_pos (show (⟨#[]⟩ : ByteArray).size + (it L i).f4.size ≤ _ from ?_)).trans ?_)
              · rw [show (⟨#[]⟩ : ByteArray) = ByteArray.empty from rfl, ByteArray.size_empty]; omega
              · rw [show (⟨#[]⟩ : ByteArray) = ByteArray.empty from rfl, ByteArray.empty_append]; rfl
            · rw [show txt L i = ByteArray.empty from if_neg c3]
              exact if_neg c3
    · exact ⟨ByteArray.empty, Ev.bind ((spec_tells L hL).2 h) (Ev.ite_neg Bool.false_ne_true (Ev.now _)), Ev.opt rfl (Ev.ite_pos rfl (Ev.bind ((impl_tells L hL).2 h) (Ev.ite_neg Bool.false_ne_true (Ev.now _))))⟩
  · rw [decide_eq_false c]
    refine ⟨ByteArray.empty, ?_, Ev.opt rfl (Ev.ite_neg Bool.false_ne_true (Ev.now _))⟩
    by_cases h : Right L
    · exact Ev.bind ((spec_tells L hL).1 h) (Ev.ite_pos rfl (Ev.opt rfl (Ev.ite_neg Bool.false_ne_true (Ev.now _))))
    · exact Ev.bind ((spec_tells L hL).2 h) (Ev.ite_neg Bool.false_ne_true (Ev.now _))
end Go.Proofs.Ytfjheckgigppiaa.Tr
