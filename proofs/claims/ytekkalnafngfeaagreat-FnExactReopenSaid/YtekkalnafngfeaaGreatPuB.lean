/- Marks: the laws' own code writes texts that count up into a row of attributes: it ends. No conditions but the sizes. Marks: the laws' own code writes numbers that count up into a row, and looks whether they are still there: it ends, and finds them. No conditions but the sizes. A name among those of a row of names: 'strings.Contains(" a b c ", " name ")' tells whether it is one of them. Over no program. No conditions. The program's test by one row of names: what it tells. No conditions but the sizes. A page's own parts: tags by number, formatting names, the rows of open and of waiting tags: what the program and the reference tell. No conditions but the sizes. A page is right: the program's PageOk and the reference's tell the same. No conditions but the sizes. A leaf hung into a right tree: what comes is a right tree just where the leaf is right by itself. No conditions. A leaf hung into a right page: what comes is a right page just where the leaf is right by itself. No conditions but the sizes. Marks in a row of items, and in a page's three rows: what the laws' own code writes there, it finds again. No conditions but the sizes. -/
import Derived.Test.YtekkalnafngfeaaGreatPuA
import Derived.Lib.IndexMore
import Derived.Test.YtekkalnafngfeaaGreatPr13
import Derived.Test.YtekkalnafngfeaaGreatPr26
import Derived.Test.YtekkalnafngfeaaGreatPr31
import Derived.Test.YtekkalnafngfeaaGreatPr20
import Derived.Test.YtekkalnafngfeaaGreatPr10
set_option linter.unusedVariables false
set_option linter.unusedSimpArgs false
namespace Go.Proofs.YtekkalnafngfeaaGreat.Mk
open Go.RowKit Go.Proofs.YtekkalnafngfeaaGreat.P Go.Proofs.YtekkalnafngfeaaGreat.Evs Go.Proofs.YtekkalnafngfeaaGreatW.PrintWords Go.Proofs.YtekkalnafngfeaaGreatW.PrintLast

theorem markText_loop : ∀ (n : Nat) (acc : ByteArray), acc.size + n ≤ 1152921504606846976 → ∃ t : ByteArray, Ev (fun k => laws_markText.l0 k n acc) t := by
 intro n
 induction n using Nat.strongRecOn with
 | _ n ih =>
  intro acc hn
  by_cases c : n = 0
  ·subst c
   refine ⟨(⟨#[109]⟩ : ByteArray) ++ acc, Ev.here fun k => ?_⟩
   simp only [laws_markText.l0]
   rw [if_neg (by omega), if_pos (by omega)]
  ·have hd : wrap64 (Int.tdiv (n : Int) 10) = ((n / 10 : Nat) : Int) := by
    rw [Int.tdiv_eq_ediv_of_nonneg (Int.natCast_nonneg n), w64 (by omega) (by omega)]
    omega
   obtain ⟨t, e⟩ := ih (n / 10) (by omega) (strOfNums [(wrap64 (48 + (Int.tmod (n : Int) 10))) % 256] ++ acc) (by rw [ByteArray.size_append, strOfNums_size]; show 1 + acc.size + n / 10 ≤ _; omega)
   refine ⟨t, Ev.step (fun k => ?_) e⟩
   simp only [laws_markText.l0, Option.bind_some, hd]
   rw [if_pos (by omega), if_pos (by rw [strOfNums_size]; show 1 + acc.size ≤ _; omega)]
theorem markText_ex (n : Nat) (hn : n ≤ 1152921504606846976) : ∃ t : ByteArray, Ev (fun k => laws_markText.f k n) t := by
 by_cases c : n = 0
 ·subst c
  refine ⟨⟨#[109, 48]⟩, Ev.const fun k => ?_⟩
  unfold laws_markText.f
  rw [if_pos (by omega)]
 ·obtain ⟨t, e⟩ := markText_loop n (⟨#[]⟩ : ByteArray) (by show 0 + n ≤ _; omega)
  refine ⟨t, ?_⟩
  unfold laws_markText.f
  exact Ev.ite_neg (by omega) e
/-- The text of a mark. -/
noncomputable def mt (n : Nat) : ByteArray := if h : n ≤ 1152921504606846976 then Classical.choose (markText_ex n h) else ByteArray.empty
theorem mt_tells (n : Nat) (hn : n ≤ 1152921504606846976) : Ev (fun k => laws_markText.f k n) (mt n) := by
 unfold mt
 rw [dif_pos hn]
 exact Classical.choose_spec (markText_ex n hn)
/-- The marked attributes. -/
noncomputable def ma (k0 i : Nat) : S56 := ⟨mt (k0 + 2 * i), mt (k0 + 2 * i + 1)⟩
noncomputable def mas (k0 n : Nat) : List S56 := (List.range n).map (ma k0)
theorem mas_length (k0 n : Nat) : (mas k0 n).length = n := by simp [mas]
theorem mas_get (k0 n i : Nat) (h : i < (mas k0 n).length) : (mas k0 n)[i] = ma k0 i := by simp [mas]
theorem markAttrS_loop (l : List S56) (k0 : Nat) (hl : l.length ≤ 1048576) (hk : k0 ≤ 1152921504600000000) : ∀ (d j : Nat), l.length - j = d → j ≤ l.length →
  Ev (fun k => laws_markAttrS.l0 k (mas k0 j ++ l.drop j) ((k0 + 2 * j : Nat) : Int) j) (((k0 + 2 * l.length : Nat) : Int), mas k0 l.length) := by
 intro d
 induction d with
 | zero =>
  intro j hd hj
  obtain rfl : j = l.length := by omega
  rw [List.drop_length, List.append_nil]
  refine Ev.here fun k => ?_
  simp only [laws_markAttrS.l0]
  rw [if_neg (by rw [mas_length]; omega)]
 | succ d ih =>
  intro j hd hj
  have hjl : j < l.length := by omega
  have hlen : (mas k0 j ++ l.drop j).length = l.length := by rw [List.length_append, mas_length, List.length_drop]; omega
  have t1 := mt_tells (k0 + 2 * j) (by omega)
  have t2 := mt_tells (k0 + 2 * j + 1) (by omega)
  have w1 : wrap64 (((k0 + 2 * j : Nat) : Int) + 1) = ((k0 + 2 * j + 1 : Nat) : Int) := succ64 (by omega)
  have w2 : wrap64 (((k0 + 2 * j + 1 : Nat) : Int) + 1) = ((k0 + 2 * (j + 1) : Nat) : Int) := succ64 (by omega)
  have hset : ∀ (x y : S56), ((mas k0 j ++ l.drop j).set j x).set j y = (mas k0 j ++ l.drop j).set j y := fun x y => List.set_set ..
  have hst : (mas k0 j ++ l.drop j).set j (ma k0 j) = mas k0 (j + 1) ++ l.drop (j + 1) := by
   rw [List.set_append_right _ _ (by rw [mas_length]; exact Nat.le_refl _), mas_length, Nat.sub_self, List.drop_eq_getElem_cons hjl, List.set_cons_zero]
   simp [mas, List.range_succ]
  have hrd : ∀ x : S56, rd_T56 ((mas k0 j ++ l.drop j).set j x) (j : Int) = x := fun x => by
   rw [show rd_T56 ((mas k0 j ++ l.drop j).set j x) (j : Int) = ((mas k0 j ++ l.drop j).set j x)[j]'(by rw [List.length_set]; omega) from rdT _ _ j (by rw [List.length_set]; omega)]
   exact List.getElem_set_self _
  refine Ev.step (f := fun k => (laws_markText.f k ((k0 + 2 * j : Nat) : Int)).bind fun t267 => ((laws_markText.f k ((k0 + 2 * j + 1 : Nat) : Int)).bind fun t269 => (laws_markAttrS.l0 k ((mas k0 j ++ l.drop j).set j (⟨t267, t269⟩ : S56)) ((k0 + 2 * (j + 1) : Nat) : Int) ((j + 1 : Nat) : Int)))) (fun k => ?_) (Ev.bind t1 (Ev.bind t2 ?_))
  ·simp only [laws_markAttrS.l0, w1, w2, succ64 (show j < 9223372036854775807 by omega), Int.toNat_natCast, Option.bind_some, hset, hrd]
   rw [if_pos (by rw [hlen]; omega)]
   have hz : (0 : Int) ≤ (j : Int) := Int.natCast_nonneg j
   simp only [if_pos hz]
  ·rw [show (⟨mt (k0 + 2 * j), mt (k0 + 2 * j + 1)⟩ : S56) = ma k0 j from rfl, hst]
   exact ih (j + 1) (by omega) (by omega)
theorem markAttrS_tells (l : List S56) (k0 : Nat) (hl : l.length ≤ 1048576) (hk : k0 ≤ 1152921504600000000) : Ev (fun k => laws_markAttrS.f k l k0) (((k0 + 2 * l.length : Nat) : Int), mas k0 l.length) := by
 have h := markAttrS_loop l k0 hl hk l.length 0 (by omega) (by omega)
 rw [List.drop_zero] at h
 exact h
end Go.Proofs.YtekkalnafngfeaaGreat.Mk
namespace Go.Proofs.YtekkalnafngfeaaGreat.Mk
open Go.RowKit Go.Proofs.YtekkalnafngfeaaGreat.P Go.Proofs.YtekkalnafngfeaaGreat.Evs Go.Proofs.YtekkalnafngfeaaGreatW.PrintWords Go.Proofs.YtekkalnafngfeaaGreatW.PrintLast

def mis (k0 n : Nat) : List Int := (List.range n).map fun i : Nat => ((k0 + i : Nat) : Int)
theorem mis_length (k0 n : Nat) : (mis k0 n).length = n := by simp [mis]
theorem mis_get (k0 n i : Nat) (h : i < (mis k0 n).length) : (mis k0 n)[i] = ((k0 + i : Nat) : Int) := by simp [mis]
theorem markIntS_loop (l : List Int) (k0 : Nat) (hl : l.length ≤ 1048576) (hk : k0 ≤ 1152921504600000000) : ∀ (d j : Nat), l.length - j = d → j ≤ l.length →
  Ev (fun k => laws_markIntS.l0 k (mis k0 j ++ l.drop j) ((k0 + j : Nat) : Int) j) (((k0 + l.length : Nat) : Int), mis k0 l.length) := by
 intro d
 induction d with
 | zero =>
  intro j hd hj
  obtain rfl : j = l.length := by omega
  rw [List.drop_length, List.append_nil]
  refine Ev.here fun k => ?_
  simp only [laws_markIntS.l0]
  rw [if_neg (by rw [mis_length]; omega)]
 | succ d ih =>
  intro j hd hj
  have hjl : j < l.length := by omega
  have hlen : (mis k0 j ++ l.drop j).length = l.length := by rw [List.length_append, mis_length, List.length_drop]; omega
  have w1 : wrap64 (((k0 + j : Nat) : Int) + 1) = ((k0 + (j + 1) : Nat) : Int) := succ64 (by omega)
  have w2 : wrap64 ((j : Int) + 1) = ((j + 1 : Nat) : Int) := succ64 (by omega)
  have hst : (mis k0 j ++ l.drop j).set j ((k0 + j : Nat) : Int) = mis k0 (j + 1) ++ l.drop (j + 1) := by
   rw [List.set_append_right _ _ (by rw [mis_length]; exact Nat.le_refl _), mis_length, Nat.sub_self, List.drop_eq_getElem_cons hjl, List.set_cons_zero]
   simp [mis, List.range_succ]
  refine Ev.step (fun k => ?_) (ih (j + 1) (by omega) (by omega))
  simp only [laws_markIntS.l0, w1, w2, Int.toNat_natCast, hst]
  rw [if_pos (by rw [hlen]; omega), if_pos (Int.natCast_nonneg j)]
theorem markIntS_tells (l : List Int) (k0 : Nat) (hl : l.length ≤ 1048576) (hk : k0 ≤ 1152921504600000000) : Ev (fun k => laws_markIntS.f k l k0) (((k0 + l.length : Nat) : Int), mis k0 l.length) := by
 have h := markIntS_loop l k0 hl hk l.length 0 (by omega) (by omega)
 rw [List.drop_zero] at h
 exact h
theorem heldIntS_loop (k0 n : Nat) (hl : n ≤ 1048576) (hk : k0 ≤ 1152921504600000000) : ∀ (d j : Nat), n - j = d → j ≤ n → Ev (fun k => laws_heldIntS.l0 k (mis k0 n) ((k0 + j : Nat) : Int) j) ((k0 + n : Nat) : Int) := by
 intro d
 induction d with
 | zero =>
  intro j hd hj
  obtain rfl : j = n := by omega
  refine Ev.here fun k => ?_
  simp only [laws_heldIntS.l0]
  rw [if_neg (by rw [mis_length]; omega)]
 | succ d ih =>
  intro j hd hj
  have hjl : j < (mis k0 n).length := by rw [mis_length]; omega
  have w1 : wrap64 (((k0 + j : Nat) : Int) + 1) = ((k0 + (j + 1) : Nat) : Int) := succ64 (by omega)
  have w2 : wrap64 ((j : Int) + 1) = ((j + 1 : Nat) : Int) := succ64 (by omega)
  have hrd : rd (mis k0 n) (j : Int) = ((k0 + j : Nat) : Int) := by
   rw [show rd (mis k0 n) (j : Int) = (mis k0 n)[j] from rdT _ _ j hjl, mis_get]
  refine Ev.step (fun k => ?_) (ih (j + 1) (by omega) (by omega))
  simp only [laws_heldIntS.l0, w1, w2, hrd]
  rw [if_pos (by omega), if_pos (Int.natCast_nonneg j), if_pos True.intro]
theorem heldIntS_tells (k0 n : Nat) (hl : n ≤ 1048576) (hk : k0 ≤ 1152921504600000000) : Ev (fun k => laws_heldIntS.f k (mis k0 n) k0) ((k0 + n : Nat) : Int) := heldIntS_loop k0 n hl hk n 0 (by omega) (by omega)
end Go.Proofs.YtekkalnafngfeaaGreat.Mk
namespace Go.Proofs.YtekkalnafngfeaaGreat.Oo
open Go

theorem contains_nil (sub : List UInt8) : Lib.contains [] sub = sub.isEmpty := by
 unfold Lib.contains Lib.index
 cases sub <;> rfl
theorem contains_cons (b : UInt8) (l sub : List UInt8) : Lib.contains (b :: l) sub = (sub.isPrefixOf (b :: l) || Lib.contains l sub) := by
 unfold Lib.contains
 rw [Lib.index]
 have h := Lib.index_ge l sub
 by_cases c : sub.isPrefixOf (b :: l) = true
 ·rw [if_pos c, c, Bool.true_or]; rfl
 ·rw [if_neg c, Bool.eq_false_iff.mpr c, Bool.false_or]
  by_cases c2 : (Lib.index l sub == -1) = true
  ·rw [if_pos c2]
   have : Lib.index l sub = -1 := by simpa using c2
   rw [this]
  ·rw [if_neg c2]
   have : Lib.index l sub ≠ -1 := by simpa using c2
   by_cases c3 : 0 ≤ Lib.index l sub
   ·rw [decide_eq_true c3, decide_eq_true (by omega)]
   ·omega
theorem word_prefix : ∀ (name w r : List UInt8), (32 : UInt8) ∉ name → (32 : UInt8) ∉ w → (name ++ [32]).isPrefixOf (w ++ 32 :: r) = (name == w)
 | [], [], r, _, _ => by simp [List.isPrefixOf]
 | [], b :: w, r, _, hw => by
  have hb : ((32 : UInt8) == b) = false := by
   rw [beq_eq_false_iff_ne]
   intro e
   exact hw (by rw [← e]; exact List.mem_cons_self)
  simp [List.isPrefixOf, hb]
 | a :: n, [], r, hn, _ => by
  have ha : (a == (32 : UInt8)) = false := by
   rw [beq_eq_false_iff_ne]
   intro e
   exact hn (by rw [e]; exact List.mem_cons_self)
  simp [List.isPrefixOf, ha]
 | a :: n, b :: w, r, hn, hw => by
  have ih := word_prefix n w r (fun h => hn (List.mem_cons_of_mem _ h)) (fun h => hw (List.mem_cons_of_mem _ h))
  show ((a == b) && (n ++ [32]).isPrefixOf (w ++ 32 :: r)) = (a :: n == b :: w)
  rw [ih]
  rfl
theorem skip (sub : List UInt8) : ∀ (w r : List UInt8), (32 : UInt8) ∉ w → Lib.contains (w ++ r) (32 :: sub) = Lib.contains r (32 :: sub)
 | [], _, _ => rfl
 | b :: w, r, hw => by
  have hb : ((32 : UInt8) == b) = false := by
   rw [beq_eq_false_iff_ne]
   intro e
   exact hw (by rw [← e]; exact List.mem_cons_self)
  rw [List.cons_append, contains_cons, skip sub w r (fun h => hw (List.mem_cons_of_mem _ h))]
  show ((((32 : UInt8) == b) && sub.isPrefixOf (w ++ r)) || _) = _
  rw [hb, Bool.false_and, Bool.false_or]
def rows (ws : List (List UInt8)) : List UInt8 := ws.flatMap fun w => w ++ [32]
theorem one_of (name : List UInt8) (hn : (32 : UInt8) ∉ name) : ∀ ws : List (List UInt8), (∀ w, w ∈ ws → (32 : UInt8) ∉ w) → Lib.contains (32 :: rows ws) (32 :: (name ++ [32])) = ws.any (name == ·)
 | [], _ => by
  rw [contains_cons]
  show ((((32 : UInt8) == 32) && (name ++ [32]).isPrefixOf []) || Lib.contains [] _) = false
  rw [contains_nil]
  cases name <;> rfl
 | w :: ws, h => by
  have hw := h w List.mem_cons_self
  have ih := one_of name hn ws (fun x hx => h x (List.mem_cons_of_mem _ hx))
  have e : rows (w :: ws) = w ++ 32 :: rows ws := by simp [rows]
  rw [contains_cons, e, skip _ w _ hw, ih, List.any_cons]
  show ((((32 : UInt8) == 32) && (name ++ [32]).isPrefixOf (w ++ 32 :: rows ws)) || _) = _
  rw [word_prefix name w _ hn hw]
  rfl
/-- The program's test: empty, or with a blank: none of them. -/
theorem is_one_of (name : List UInt8) (ws : List (List UInt8)) (h : ∀ w, w ∈ ws → (32 : UInt8) ∉ w) (hne : name ≠ []) : (!(Lib.contains name [32]) && Lib.contains (32 :: rows ws) (32 :: (name ++ [32]))) = ws.any (name == ·) := by
 have h1 : Lib.contains name [32] = decide ((32 : UInt8) ∈ name) := by
  clear hne h
  induction name with
  | nil => rfl
  | cons b l ih =>
   rw [contains_cons, ih]
   show ((((32 : UInt8) == b) && ([] : List UInt8).isPrefixOf l) || decide ((32 : UInt8) ∈ l)) = _
   have : ([] : List UInt8).isPrefixOf l = true := by cases l <;> rfl
   rw [this, Bool.and_true]
   by_cases c : (32 : UInt8) = b
   ·subst c; simp
   ·rw [show ((32 : UInt8) == b) = false from beq_eq_false_iff_ne.mpr c, Bool.false_or, decide_eq_decide]
    constructor
    ·exact fun q => List.mem_cons_of_mem _ q
    ·intro q
     rcases List.mem_cons.mp q with e | e
     ·exact absurd e c
     ·exact e
 rw [h1]
 by_cases c : (32 : UInt8) ∈ name
 ·rw [decide_eq_true c]
  have : ws.any (name == ·) = false := by
   rw [List.any_eq_false]
   intro w hw q
   have e : name = w := by simpa using q
   exact h w hw (by rw [← e]; exact c)
  rw [this]; rfl
 ·rw [decide_eq_false c, one_of name c ws h]; rfl
end Go.Proofs.YtekkalnafngfeaaGreat.Oo
namespace Go.Proofs.YtekkalnafngfeaaGreat.Sg
open Go Go.RowKit Go.Proofs.YtekkalnafngfeaaGreat.P Go.Proofs.YtekkalnafngfeaaGreat.Evs Go.Proofs.YtekkalnafngfeaaGreatW.PrintWords Go.Proofs.YtekkalnafngfeaaGreatW.PrintLast

theorem contains_f (a b : ByteArray) (h : a.size ≤ 100000000) : strings_Contains.f a b = some (Lib.contains a.data.toList b.data.toList) := by
 unfold strings_Contains.f; rw [if_pos h]
theorem toList_data (a : ByteArray) : a.toList = a.data.toList := ByteArray.toList_eq a
/-- The program's test by one row of names. -/
theorem isOneOf_tells (a names : ByteArray) (ws : List (List UInt8)) (ha : a.size ≤ 1048576) (hn : names.size ≤ 1048576) (he : names.data.toList ++ [32] = Oo.rows ws) (hw : ∀ w, w ∈ ws → (32 : UInt8) ∉ w) (h0 : [] ∉ ws) :
  impl_isOneOf.f a names = some (ws.any (a.toList == ·)) := by
 unfold impl_isOneOf.f
 rw [contains_f a _ (by omega)]
 by_cases c : a.toList = []
 ·rw [if_pos c, c]
  have : ws.any (([] : List UInt8) == ·) = false := by
   rw [List.any_eq_false]
   intro w hw' q
   have e : [] = w := by simpa using q
   exact h0 (by rw [e]; exact hw')
  rw [this]
 rw [if_neg c, toList_data]
 have hne : a.data.toList ≠ [] := by rw [← toList_data]; exact c
 have h := Oo.is_one_of a.data.toList ws hw hne
 rw [← h]
 simp only [Option.bind_some]
 have s1 : ((⟨#[32]⟩ : ByteArray) ++ names).size = 1 + names.size := by rw [ByteArray.size_append]; rfl
 have s2 : ((⟨#[32]⟩ : ByteArray) ++ a).size = 1 + a.size := by rw [ByteArray.size_append]; rfl
 cases Lib.contains a.data.toList [32] with
 | true => rw [if_pos rfl]; rfl
 | false =>
  rw [if_neg Bool.false_ne_true, if_pos (by omega), if_pos (by omega), if_pos (by omega), if_pos (by omega), contains_f _ _ (by rw [ByteArray.size_append, s1]; show 1 + names.size + 1 ≤ _; omega)]
  simp only [Option.bind_some]
  have e1 : (((⟨#[32]⟩ : ByteArray) ++ names) ++ (⟨#[32]⟩ : ByteArray)).data.toList = 32 :: Oo.rows ws := by
   rw [← he]; simp [ByteArray.data_append]
  have e2 : (((⟨#[32]⟩ : ByteArray) ++ a) ++ (⟨#[32]⟩ : ByteArray)).data.toList = 32 :: (a.data.toList ++ [32]) := by
   simp [ByteArray.data_append]
  rw [e1, e2]; rfl
end Go.Proofs.YtekkalnafngfeaaGreat.Sg
namespace Go.Proofs.YtekkalnafngfeaaGreat.Pg
open Go.RowKit Go.Proofs.YtekkalnafngfeaaGreat.P Go.Proofs.YtekkalnafngfeaaGreat.Evs Go.Proofs.YtekkalnafngfeaaGreat.Tr Go.Proofs.YtekkalnafngfeaaGreatW.PrintWords Go.Proofs.YtekkalnafngfeaaGreatW.PrintLast

def tag (L : List S53) (i : Int) (nm : ByteArray) : Bool := decide (0 ≤ i ∧ i ≤ (L.length : Int) - 1) && (decide ((rd_T53 L i).f0 = 2) && (decide (nm.toList = []) || (rd_T53 L i).f2.toList == nm.toList))
theorem nil_list : (⟨#[]⟩ : ByteArray).toList = ([] : List UInt8) := by rw [Sg.toList_data]
theorem tag_spec (L : List S53) (hL : L.length ≤ 1048576) (i : Int) (nm : ByteArray) : spec_l8Tag.f L i nm = some (tag L i nm) := by
 have hw : wrap64 ((L.length : Int) - 1) = (L.length : Int) - 1 := w64 (by omega) (by omega)
 unfold spec_l8Tag.f tag
 rw [hw, l1In_eq]
 simp only [Option.bind_some]
 by_cases c : 0 ≤ i ∧ i ≤ (L.length : Int) - 1
 ·rw [decide_eq_true c, if_pos rfl, if_pos c.1, if_pos (by omega), Bool.true_and]
  by_cases d : (rd_T53 L i).f0 = 2
  ·rw [if_pos d, decide_eq_true d, Bool.true_and]
   by_cases e : nm.toList = []
   ·rw [if_pos e, decide_eq_true e, Bool.true_or]
   ·rw [if_neg e, decide_eq_false e, Bool.false_or]
  ·rw [if_neg d, decide_eq_false d, Bool.false_and]
 ·rw [decide_eq_false c, if_neg Bool.false_ne_true, Bool.false_and]
theorem tag_impl (L : List S53) (hL : L.length ≤ 1048576) (O F : List Int) (a b i : Int) : impl_Page_isTag.f L O F a b i = some (tag L i (⟨#[]⟩ : ByteArray), a, b) := by
 have hw : wrap64 ((L.length : Int) - 1) = (L.length : Int) - 1 := w64 (by omega) (by omega)
 unfold impl_Page_isTag.f tag
 rw [hw, inRange_eq]
 simp only [Option.bind_some]
 rw [decide_eq_true nil_list, Bool.true_or, Bool.and_true]
 by_cases c : 0 ≤ i ∧ i ≤ (L.length : Int) - 1
 ·rw [decide_eq_true c, if_pos rfl, if_pos c.1, if_pos (by omega), Bool.true_and]
  by_cases d : (rd_T53 L i).f0 = 2
  ·rw [decide_eq_true d, d]; rfl
  ·rw [decide_eq_false d, beq_eq_false_iff_ne.mpr d]
 ·rw [decide_eq_false c, if_neg Bool.false_ne_true, Bool.false_and]
theorem tag_in {L : List S53} {i : Int} {nm : ByteArray} (h : tag L i nm = true) : 0 ≤ i ∧ i < (L.length : Int) ∧ (rd_T53 L i).f0 = 2 := by
 unfold tag at h
 simp only [Bool.and_eq_true, decide_eq_true_eq] at h
 exact ⟨h.1.1, by omega, h.2.1⟩
theorem named_impl (L : List S53) (hL : L.length ≤ 1048576) (O F : List Int) (a b i : Int) (nm : ByteArray) (hn : ¬ nm.toList = []) : impl_Page_isNamed.f L O F a b i nm = some (decide (i = 0) || tag L i nm, a, b) := by
 unfold impl_Page_isNamed.f
 by_cases c0 : i = 0
 ·rw [if_pos c0, decide_eq_true c0, Bool.true_or]
 rw [if_neg c0, decide_eq_false c0, Bool.false_or, tag_impl L hL]
 simp only [Option.bind_some]
 by_cases c : tag L i (⟨#[]⟩ : ByteArray) = true
 ·obtain ⟨h0, h1, h2⟩ := tag_in c
  rw [if_pos c, if_pos h0, if_pos h1]
  unfold tag
  rw [decide_eq_true (show 0 ≤ i ∧ i ≤ (L.length : Int) - 1 by omega), decide_eq_true h2, decide_eq_false hn, Bool.true_and, Bool.true_and, Bool.false_or]
 ·rw [if_neg c]
  have c' := Bool.eq_false_iff.mpr c
  have : tag L i nm = false := by
   unfold tag at c' ⊢
   rw [decide_eq_true nil_list, Bool.true_or, Bool.and_true] at c'
   rw [← Bool.and_assoc, c', Bool.false_and]
  rw [this]
def forms : List ByteArray := [(⟨#[97]⟩ : ByteArray), (⟨#[98]⟩ : ByteArray), (⟨#[105]⟩ : ByteArray), (⟨#[117]⟩ : ByteArray), (⟨#[101, 109]⟩ : ByteArray), (⟨#[115, 116, 114, 111, 110, 103]⟩ : ByteArray), (⟨#[99, 111, 100, 101]⟩ : ByteArray), (⟨#[115, 109, 97, 108, 108]⟩ : ByteArray)]
def fm (nm : ByteArray) : Bool := forms.any fun w => nm.toList == w.data.toList
theorem Is_loop (nm : ByteArray) (ws : List ByteArray) (hl : ws.length ≤ 1048576) : ∀ (d j : Nat), ws.length - j = d → j ≤ ws.length → Ev (fun k => spec_l7Is.l0 k nm ws j) ((ws.drop j).any fun w => nm.toList == w.data.toList) := by
 intro d
 induction d with
 | zero =>
  intro j hd hj
  rw [List.drop_eq_nil_of_le (by omega)]
  refine Ev.here fun k => ?_
  simp only [spec_l7Is.l0]; rw [if_neg (by omega)]; rfl
 | succ d ih =>
  intro j hd hj
  have hjl : j < ws.length := by omega
  have hrd : rdOf ByteArray.empty ws (j : Int) = ws[j] := rdT ws ByteArray.empty j hjl
  have hw : wrap64 ((j : Int) + 1) = ((j + 1 : Nat) : Int) := succ64 (by omega)
  rw [List.drop_eq_getElem_cons hjl, List.any_cons]
  by_cases c : nm.toList = ws[j].data.toList
  ·rw [show (nm.toList == ws[j].data.toList) = true from beq_iff_eq.mpr c, Bool.true_or]
   refine Ev.here fun k => ?_
   simp only [spec_l7Is.l0, hrd]
   rw [if_pos (by omega), if_pos (by omega), if_pos (by rw [Sg.toList_data, c])]
  ·rw [show (nm.toList == ws[j].data.toList) = false from beq_eq_false_iff_ne.mpr c, Bool.false_or]
   refine Ev.step (fun k => ?_) (ih (j + 1) (by omega) (by omega))
   simp only [spec_l7Is.l0, hrd, hw]
   rw [if_pos (by omega), if_pos (by omega), if_neg (by rw [Sg.toList_data]; exact fun e => c e.symm)]
theorem fm_spec (nm : ByteArray) : Ev (fun k => spec_Format.f k nm) (fm nm) := by
 have h := Is_loop nm forms (by decide) forms.length 0 (by omega) (by omega)
 rw [List.drop_zero] at h
 exact Ev.bind h (Ev.now _)
theorem fm_impl (nm : ByteArray) (hs : nm.size ≤ 1048576) : impl_Format.f nm = some (fm nm) := by
 unfold impl_Format.f
 rw [Sg.isOneOf_tells nm _ [[97], [98], [105], [117], [101, 109], [115, 116, 114, 111, 110, 103], [99, 111, 100, 101], [115, 109, 97, 108, 108]] hs (by decide) (by decide) (by decide) (by decide)]
 rfl
def Named (L : List S53) : Prop := ∀ i, i < L.length → (it L i).f2.size ≤ 1048576
def fo (L : List S53) (i : Int) : Bool := tag L i (⟨#[]⟩ : ByteArray) && fm (rd_T53 L i).f2
theorem fo_impl (L : List S53) (hL : L.length ≤ 1048576) (hN : Named L) (O F : List Int) (a b i : Int) : impl_Page_isFormat.f L O F a b i = some (fo L i, a, b) := by
 unfold impl_Page_isFormat.f fo
 rw [tag_impl L hL]
 simp only [Option.bind_some]
 by_cases c : tag L i (⟨#[]⟩ : ByteArray) = true
 ·obtain ⟨h0, h1, h2⟩ := tag_in c
  have hs : (rd_T53 L i).f2.size ≤ 1048576 := by
   rw [← it_toNat L h0]; exact hN _ (by omega)
  rw [if_pos c, if_pos h0, if_pos h1, fm_impl _ hs, c, Bool.true_and]
  rfl
 ·rw [if_neg c, Bool.eq_false_iff.mpr c, Bool.false_and]
/-- The first place of a number in a row. -/
def First (O : List Int) (a : Int) (i : Nat) : Prop := i < O.length ∧ rd O (i : Int) = a ∧ ∀ j, j < i → ¬ rd O (j : Int) = a
theorem Index_loop (O : List Int) (a : Int) (hl : O.length ≤ 1048576) : ∀ (d j : Nat), O.length - j = d → j ≤ O.length → (∀ i, i < j → ¬ rd O (i : Int) = a) → (∃ i, i < O.length ∧ rd O (i : Int) = a) → ∃ i, First O a i ∧ Ev (fun k => slices_Index_int_int.l0 k O a O.length j) (i : Int) := by
 intro d
 induction d with
 | zero =>
  intro j hd hj hn ⟨i, h1, h2⟩
  exact absurd h2 (hn i (by omega))
 | succ d ih =>
  intro j hd hj hn he
  have hw : wrap64 ((j : Int) + 1) = ((j + 1 : Nat) : Int) := succ64 (by omega)
  by_cases c : a = rd O (j : Int)
  ·refine ⟨j, ⟨by omega, c.symm, hn⟩, Ev.here fun k => ?_⟩
   simp only [slices_Index_int_int.l0]
   rw [if_pos (by omega), if_pos (by omega), if_pos (by omega), if_pos c]
  ·obtain ⟨i, h1, h2⟩ := ih (j + 1) (by omega) (by omega) (fun i hi => if e : i = j then by rw [e]; exact fun q => c q.symm else hn i (by omega)) he
   refine ⟨i, h1, Ev.step (fun k => ?_) h2⟩
   simp only [slices_Index_int_int.l0, hw]
   rw [if_pos (by omega), if_pos (by omega), if_pos (by omega), if_neg c]
theorem Index_tells (O : List Int) (a : Int) (hl : O.length ≤ 1048576) (he : ∃ i, i < O.length ∧ rd O (i : Int) = a) : ∃ i, First O a i ∧ Ev (fun k => slices_Index_int_int.f k O a) (i : Int) := by
 obtain ⟨i, h1, h2⟩ := Index_loop O a hl O.length 0 (by omega) (by omega) (fun i hi => absurd hi (by omega)) he
 exact ⟨i, h1, h2⟩
theorem First_uniq {O : List Int} {a : Int} {i j : Nat} (h1 : First O a i) (h2 : First O a j) : i = j := by
 rcases Nat.lt_trichotomy i j with c | c | c
 ·exact absurd h1.2.1 (h2.2.2 i c)
 ·exact c
 ·exact absurd h2.2.1 (h1.2.2 j c)
theorem once_iff (O : List Int) : (∀ j, j < O.length → O.count (rd O (j : Int)) = 1) ↔ ∀ j, j < O.length → ∀ i, i < j → ¬ rd O (i : Int) = rd O (j : Int) := by
 constructor
 ·intro h
  have hn : O.Nodup := by
   rw [List.nodup_iff_count]
   intro a
   by_cases c : a ∈ O
   ·obtain ⟨j, hj, rfl⟩ := List.getElem_of_mem c
    have := h j hj
    rw [rdI O j hj] at this
    omega
   ·rw [List.count_eq_zero_of_not_mem c]; omega
  intro j hj i hi
  rw [rdI O j hj, rdI O i (by omega)]
  exact List.pairwise_iff_getElem.mp hn i j (by omega) hj hi
 ·intro h j hj
  have hn : O.Nodup := List.pairwise_iff_getElem.mpr fun i j hi hj hij => by
   have := h j hj i hij
   rwa [rdI O j hj, rdI O i hi] at this
  rw [rdI O j hj]
  have h1 := List.nodup_iff_count.mp hn O[j]
  have h2 := List.count_pos_iff.mpr (List.getElem_mem hj)
  omega
end Go.Proofs.YtekkalnafngfeaaGreat.Pg
namespace Go.Proofs.YtekkalnafngfeaaGreat.Pg
open Go.RowKit Go.Proofs.YtekkalnafngfeaaGreat.P Go.Proofs.YtekkalnafngfeaaGreat.Evs Go.Proofs.YtekkalnafngfeaaGreat.Tr Go.Proofs.YtekkalnafngfeaaGreatW.PrintWords Go.Proofs.YtekkalnafngfeaaGreatW.PrintLast

def FormOk (L : List S53) (F : List Int) (j : Nat) : Prop := rd F (j : Int) = -1 ∨ fo L (rd F (j : Int)) = true
def hB (L : List S53) (hd : Int) : Bool := decide (hd = 0) || tag L hd (⟨#[104, 101, 97, 100]⟩ : ByteArray)
def bB (L : List S53) (bd : Int) : Bool := decide (bd = 0) || tag L bd (⟨#[98, 111, 100, 121]⟩ : ByteArray)
theorem spec_forms (L : List S53) (O F : List Int) (hd bd : Int) (hL : L.length ≤ 1048576) (hF : F.length ≤ 1048576) :
  ((∀ j, 0 ≤ j → j < F.length → FormOk L F j) → Ev (fun k => spec_PageOk.l1 k 0 L O F hd bd) true) ∧ ((¬ ∀ j, 0 ≤ j → j < F.length → FormOk L F j) → Ev (fun k => spec_PageOk.l1 k 0 L O F hd bd) false) := by
 have A := Ev.all (n := F.length) (j0 := 0) (g := fun k j => spec_PageOk.l1 k (j : Int) L O F hd bd) (e := false) (ok := FormOk L F) (Nat.zero_le _)
  (fun j _ hj _ hok r hr => by
   have hw : wrap64 ((j : Int) + 1) = ((j + 1 : Nat) : Int) := succ64 (by omega)
   by_cases c : rd F (j : Int) = -1
   ·exact Ev.step (fun k => by simp only [spec_PageOk.l1, hw]; rw [if_pos (by omega), if_pos (by omega), if_pos c]) hr
   ·have hf := hok.resolve_left c
    unfold fo at hf
    rw [Bool.and_eq_true] at hf
    obtain ⟨h0, h1, h2⟩ := tag_in hf.1
    refine Ev.step (f := fun k => (spec_Format.f k (rd_T53 L (rd F (j : Int))).f2).bind fun t => if t = true then spec_PageOk.l1 k ((j + 1 : Nat) : Int) L O F hd bd else some false) (fun k => ?_) (Ev.bind (fm_spec _) (Ev.ite_pos hf.2 hr))
    simp only [spec_PageOk.l1, hw]
    rw [if_pos (by omega), if_pos (by omega), if_neg c, tag_spec L hL]
    simp only [Option.bind_some]
    rw [if_pos hf.1, if_pos h0, if_pos h1])
  (fun j _ hj _ hok => by
   have c : ¬ rd F (j : Int) = -1 := fun q => hok (Or.inl q)
   have hw : wrap64 ((j : Int) + 1) = ((j + 1 : Nat) : Int) := succ64 (by omega)
   by_cases t : tag L (rd F (j : Int)) (⟨#[]⟩ : ByteArray) = true
   ·obtain ⟨h0, h1, h2⟩ := tag_in t
    have hf : ¬ fm (rd_T53 L (rd F (j : Int))).f2 = true := fun q => hok (Or.inr (by unfold fo; rw [t, q]; rfl))
    refine Ev.step (f := fun k => (spec_Format.f k (rd_T53 L (rd F (j : Int))).f2).bind fun t => if t = true then spec_PageOk.l1 k ((j + 1 : Nat) : Int) L O F hd bd else some false) (fun k => ?_) (Ev.bind (fm_spec _) (Ev.ite_neg hf (Ev.now _)))
    simp only [spec_PageOk.l1, hw]
    rw [if_pos (by omega), if_pos (by omega), if_neg c, tag_spec L hL]
    simp only [Option.bind_some]
    rw [if_pos t, if_pos h0, if_pos h1]
   ·refine Ev.here fun k => ?_
    simp only [spec_PageOk.l1]
    rw [if_pos (by omega), if_pos (by omega), if_neg c, tag_spec L hL]
    simp only [Option.bind_some]
    rw [if_neg t])
 exact ⟨fun h => A.1 h true (Ev.here fun k => by simp only [spec_PageOk.l1]; rw [if_neg (by omega)]), A.2⟩
def OpenS (L : List S53) (O : List Int) (j : Nat) : Prop := tag L (rd O (j : Int)) (⟨#[]⟩ : ByteArray) = true ∧ O.count (rd O (j : Int)) = 1
def OpenI (L : List S53) (O : List Int) (j : Nat) : Prop := tag L (rd O (j : Int)) (⟨#[]⟩ : ByteArray) = true ∧ ∀ i, i < j → ¬ rd O (i : Int) = rd O (j : Int)
theorem open_iff (L : List S53) (O : List Int) : (∀ j, 0 ≤ j → j < O.length → OpenS L O j) ↔ ∀ j, 0 ≤ j → j < O.length → OpenI L O j := by
 constructor
 ·intro h j h0 hj
  exact ⟨(h j h0 hj).1, (once_iff O).mp (fun j hj => (h j (Nat.zero_le _) hj).2) j hj⟩
 ·intro h j h0 hj
  exact ⟨(h j h0 hj).1, (once_iff O).mpr (fun j hj => (h j (Nat.zero_le _) hj).2) j hj⟩
theorem spec_open (L : List S53) (O F : List Int) (hd bd : Int) (hL : L.length ≤ 1048576) (hO : O.length ≤ 1048576) :
  ((∀ j, 0 ≤ j → j < O.length → OpenS L O j) → ∀ r, Ev (fun k => spec_PageOk.l1 k 0 L O F hd bd) r → Ev (fun k => spec_PageOk.l0 k 0 L O F hd bd) r) ∧ ((¬ ∀ j, 0 ≤ j → j < O.length → OpenS L O j) → Ev (fun k => spec_PageOk.l0 k 0 L O F hd bd) false) := by
 have A := Ev.all (n := O.length) (j0 := 0) (g := fun k j => spec_PageOk.l0 k (j : Int) L O F hd bd) (e := false) (ok := OpenS L O) (Nat.zero_le _)
  (fun j _ hj _ hok r hr => by
   have hw : wrap64 ((j : Int) + 1) = ((j + 1 : Nat) : Int) := succ64 (by omega)
   refine Ev.step (f := fun k => (spec_l6Count.f k O (rd O (j : Int))).bind fun t => if t = 1 then spec_PageOk.l0 k ((j + 1 : Nat) : Int) L O F hd bd else some false) (fun k => ?_) (Ev.bind (Count_tells O _ hO) (Ev.ite_pos (by rw [hok.2]; rfl) hr))
   simp only [spec_PageOk.l0, hw]
   rw [if_pos (by omega), if_pos (by omega), tag_spec L hL]
   simp only [Option.bind_some]
   rw [if_pos hok.1])
  (fun j _ hj _ hok => by
   have hw : wrap64 ((j : Int) + 1) = ((j + 1 : Nat) : Int) := succ64 (by omega)
   by_cases t : tag L (rd O (j : Int)) (⟨#[]⟩ : ByteArray) = true
   ·have hc : ¬ ((O.count (rd O (j : Int)) : Nat) : Int) = 1 := fun q => hok ⟨t, by omega⟩
    refine Ev.step (f := fun k => (spec_l6Count.f k O (rd O (j : Int))).bind fun t => if t = 1 then spec_PageOk.l0 k ((j + 1 : Nat) : Int) L O F hd bd else some false) (fun k => ?_) (Ev.bind (Count_tells O _ hO) (Ev.ite_neg hc (Ev.now _)))
    simp only [spec_PageOk.l0, hw]
    rw [if_pos (by omega), if_pos (by omega), tag_spec L hL]
    simp only [Option.bind_some]
    rw [if_pos t]
   ·refine Ev.here fun k => ?_
    simp only [spec_PageOk.l0]
    rw [if_pos (by omega), if_pos (by omega), tag_spec L hL]
    simp only [Option.bind_some]
    rw [if_neg t])
 exact ⟨fun h r hr => A.1 h r (Ev.step (fun k => by simp only [spec_PageOk.l0]; rw [if_neg (by omega)]) hr), A.2⟩
theorem impl_forms (L : List S53) (O F : List Int) (hd bd : Int) (hL : L.length ≤ 1048576) (hN : Named L) (hF : F.length ≤ 1048576) :
  ((∀ j, 0 ≤ j → j < F.length → FormOk L F j) → ∀ r, Ev (fun k => impl_PageOk.l1 k F F.length F.length L O F hd bd) r → Ev (fun k => impl_PageOk.l1 k F F.length 0 L O F hd bd) r) ∧ ((¬ ∀ j, 0 ≤ j → j < F.length → FormOk L F j) → Ev (fun k => impl_PageOk.l1 k F F.length 0 L O F hd bd) (false, hd, bd)) :=
 Ev.all (n := F.length) (j0 := 0) (g := fun k j => impl_PageOk.l1 k F F.length (j : Int) L O F hd bd) (e := (false, hd, bd)) (ok := FormOk L F) (Nat.zero_le _)
  (fun j _ hj _ hok r hr => by
   have hw : wrap64 ((j : Int) + 1) = ((j + 1 : Nat) : Int) := succ64 (by omega)
   refine Ev.step (fun k => ?_) hr
   simp only [impl_PageOk.l1, hw]
   rw [if_pos (by omega), if_pos (by omega), if_pos (by omega)]
   by_cases c : rd F (j : Int) = -1
   ·rw [if_pos c]
   ·rw [if_neg c, fo_impl L hL hN]
    simp only [Option.bind_some]
    rw [if_pos (hok.resolve_left c)])
  (fun j _ hj _ hok => Ev.here fun k => by
   have c : ¬ rd F (j : Int) = -1 := fun q => hok (Or.inl q)
   simp only [impl_PageOk.l1]
   rw [if_pos (by omega), if_pos (by omega), if_pos (by omega), if_neg c, fo_impl L hL hN]
   simp only [Option.bind_some]
   rw [if_neg (fun q => hok (Or.inr q))])
theorem impl_open (L : List S53) (O F : List Int) (hd bd : Int) (hL : L.length ≤ 1048576) (hO : O.length ≤ 1048576) :
  ((∀ j, 0 ≤ j → j < O.length → OpenI L O j) → ∀ r, Ev (fun k => impl_PageOk.l1 k F F.length 0 L O F hd bd) r → Ev (fun k => impl_PageOk.l0 k O O.length 0 L O F hd bd) r) ∧ ((¬ ∀ j, 0 ≤ j → j < O.length → OpenI L O j) → Ev (fun k => impl_PageOk.l0 k O O.length 0 L O F hd bd) (false, hd, bd)) := by
 have A := Ev.all (n := O.length) (j0 := 0) (g := fun k j => impl_PageOk.l0 k O O.length (j : Int) L O F hd bd) (e := (false, hd, bd)) (ok := OpenI L O) (Nat.zero_le _)
  (fun j _ hj _ hok r hr => by
   have hw : wrap64 ((j : Int) + 1) = ((j + 1 : Nat) : Int) := succ64 (by omega)
   obtain ⟨i, h1, h2⟩ := Index_tells O (rd O (j : Int)) hO ⟨j, hj, rfl⟩
   obtain rfl : i = j := First_uniq h1 ⟨hj, rfl, hok.2⟩
   refine Ev.step (f := fun k => (impl_PageOk.ixf k L O F hd bd (rd O (i : Int))).bind fun bt => if bt.1 = (i : Int) then impl_PageOk.l0 k O O.length ((i + 1 : Nat) : Int) L O F bt.2.1 bt.2.2 else some (false, bt.2.1, bt.2.2)) (fun k => ?_) (Ev.bind (a := ((i : Int), hd, bd)) (Ev.bind h2 (Ev.now _)) (Ev.ite_pos rfl hr))
   simp only [impl_PageOk.l0, hw]
   rw [if_pos (by omega), if_pos (by omega), if_pos (by omega), tag_impl L hL]
   simp only [Option.bind_some]
   rw [if_pos hok.1])
  (fun j _ hj _ hok => by
   have hw : wrap64 ((j : Int) + 1) = ((j + 1 : Nat) : Int) := succ64 (by omega)
   by_cases t : tag L (rd O (j : Int)) (⟨#[]⟩ : ByteArray) = true
   ·obtain ⟨i, h1, h2⟩ := Index_tells O (rd O (j : Int)) hO ⟨j, hj, rfl⟩
    have hne : ¬ (i : Int) = (j : Int) := fun q => by
     have e : i = j := by omega
     rw [e] at h1
     exact hok ⟨t, h1.2.2⟩
    refine Ev.step (f := fun k => (impl_PageOk.ixf k L O F hd bd (rd O (j : Int))).bind fun bt => if bt.1 = (j : Int) then impl_PageOk.l0 k O O.length ((j + 1 : Nat) : Int) L O F bt.2.1 bt.2.2 else some (false, bt.2.1, bt.2.2)) (fun k => ?_) (Ev.bind (a := ((i : Int), hd, bd)) (Ev.bind h2 (Ev.now _)) (Ev.ite_neg hne (Ev.now _)))
    simp only [impl_PageOk.l0, hw]
    rw [if_pos (by omega), if_pos (by omega), if_pos (by omega), tag_impl L hL]
    simp only [Option.bind_some]
    rw [if_pos t]
   ·refine Ev.here fun k => ?_
    simp only [impl_PageOk.l0]
    rw [if_pos (by omega), if_pos (by omega), if_pos (by omega), tag_impl L hL]
    simp only [Option.bind_some]
    rw [if_neg t])
 exact ⟨fun h r hr => A.1 h r (Ev.step (fun k => by simp only [impl_PageOk.l0]; rw [if_neg (by omega)]) hr), A.2⟩
def Fine (L : List S53) (O F : List Int) (hd bd : Int) : Prop := (O.length : Int) ≤ 40 ∧ (F.length : Int) ≤ 120 ∧ hB L hd = true ∧ bB L bd = true ∧ Right L
theorem impl_tail (L : List S53) (O F : List Int) (hd bd : Int) (hS : Small L) :
  (Fine L O F hd bd → Ev (fun k => impl_PageOk.l1 k F F.length F.length L O F hd bd) (true, hd, bd)) ∧ (¬ Fine L O F hd bd → Ev (fun k => impl_PageOk.l1 k F F.length F.length L O F hd bd) (false, hd, bd)) := by
 have h1 := fun c => named_impl L hS.1 O F hd bd hd (⟨#[104, 101, 97, 100]⟩ : ByteArray) c
 have h2 := fun c => named_impl L hS.1 O F hd bd bd (⟨#[98, 111, 100, 121]⟩ : ByteArray) c
 replace h1 := h1 (by rw [Sg.toList_data]; decide)
 replace h2 := h2 (by rw [Sg.toList_data]; decide)
 have hx : ∀ k, impl_PageOk.l1 (k + 1) F F.length F.length L O F hd bd = if (O.length : Int) ≤ 40 then (if (F.length : Int) ≤ 120 then (if hB L hd = true then (if bB L bd = true then (impl_PageOk.trf k L O F hd bd).bind fun bt => some (bt.1, bt.2.1, bt.2.2) else some (false, hd, bd)) else some (false, hd, bd)) else some (false, hd, bd)) else some (false, hd, bd) := fun k => by
  simp only [impl_PageOk.l1]
  rw [if_neg (by omega), h1]
  simp only [Option.bind_some]
  rw [h2]
  rfl
 constructor
 ·intro ⟨q1, q2, q3, q4, q5⟩
  refine Ev.step (f := fun k => (impl_PageOk.trf k L O F hd bd).bind fun bt => some (bt.1, bt.2.1, bt.2.2)) (fun k => ?_) (Ev.bind (a := (true, hd, bd)) (Ev.bind ((impl_tells L hS).1 q5) (Ev.now _)) (Ev.now _))
  rw [hx, if_pos q1, if_pos q2, if_pos q3, if_pos q4]
 ·intro q
  by_cases q1 : (O.length : Int) ≤ 40
  ·by_cases q2 : (F.length : Int) ≤ 120
   ·by_cases q3 : hB L hd = true
    ·by_cases q4 : bB L bd = true
     ·refine Ev.step (f := fun k => (impl_PageOk.trf k L O F hd bd).bind fun bt => some (bt.1, bt.2.1, bt.2.2)) (fun k => ?_) (Ev.bind (a := (false, hd, bd)) (Ev.bind ((impl_tells L hS).2 fun q5 => q ⟨q1, q2, q3, q4, q5⟩) (Ev.now _)) (Ev.now _))
      rw [hx, if_pos q1, if_pos q2, if_pos q3, if_pos q4]
     ·exact Ev.here fun k => by rw [hx, if_pos q1, if_pos q2, if_pos q3, if_neg q4]
    ·exact Ev.here fun k => by rw [hx, if_pos q1, if_pos q2, if_neg q3]
   ·exact Ev.here fun k => by rw [hx, if_pos q1, if_neg q2]
  ·exact Ev.here fun k => by rw [hx, if_neg q1]
theorem spec_head (L : List S53) (O F : List Int) (hd bd : Int) (hS : Small L) (r : Bool) :
  (Fine L O F hd bd → Ev (fun k => spec_PageOk.l0 k 0 L O F hd bd) r → Ev (fun k => spec_PageOk.f k L O F hd bd) r) ∧ (¬ Fine L O F hd bd → Ev (fun k => spec_PageOk.f k L O F hd bd) false) := by
 have jt : Ev (fun k => spec_PageOk.j0 k true L O F hd bd) false := Ev.here fun k => by unfold spec_PageOk.j0; exact if_pos rfl
 have jf : ∀ r, Ev (fun k => spec_PageOk.l0 k 0 L O F hd bd) r → Ev (fun k => spec_PageOk.j0 k false L O F hd bd) r := fun r h => Ev.step (fun k => by unfold spec_PageOk.j0; exact if_neg Bool.false_ne_true) h
 have h1 := tag_spec L hS.1 hd (⟨#[104, 101, 97, 100]⟩ : ByteArray)
 have h2 := tag_spec L hS.1 bd (⟨#[98, 111, 100, 121]⟩ : ByteArray)
 have hx : ∀ k, spec_PageOk.f k L O F hd bd = (spec_TreeOk.f k L).bind fun t => if t = true then (if (O.length : Int) > 40 then spec_PageOk.j0 k true L O F hd bd else if (F.length : Int) > 120 then spec_PageOk.j0 k true L O F hd bd else spec_PageOk.j0 k (!(hB L hd && bB L bd)) L O F hd bd) else spec_PageOk.j0 k true L O F hd bd := fun k => by
  unfold spec_PageOk.f hB bB
  rw [h1, h2]
  simp only [Option.bind_some]
  congr 1
  funext t
  by_cases a1 : hd = 0
  ·by_cases a2 : bd = 0
   ·rw [if_pos a1, if_pos a2, decide_eq_true a1, decide_eq_true a2]; rfl
   ·rw [if_pos a1, if_neg a2, decide_eq_true a1, decide_eq_false a2, Bool.true_or, Bool.false_or, Bool.true_and]
  ·rw [if_neg a1, decide_eq_false a1, Bool.false_or]
   cases tag L hd (⟨#[104, 101, 97, 100]⟩ : ByteArray) with
   | false => rw [if_neg Bool.false_ne_true]; rfl
   | true =>
    rw [if_pos rfl, Bool.true_and]
    by_cases a2 : bd = 0
    ·rw [if_pos a2, decide_eq_true a2]; rfl
    ·rw [if_neg a2, decide_eq_false a2, Bool.false_or]
 constructor
 ·intro ⟨q1, q2, q3, q4, q5⟩ h
  simp only [hx, q3, q4]
  exact Ev.bind ((spec_tells L hS).1 q5) (Ev.ite_pos rfl (Ev.ite_neg (by omega) (Ev.ite_neg (by omega) (jf r h))))
 ·intro q
  simp only [hx]
  by_cases q5 : Right L
  ·refine Ev.bind ((spec_tells L hS).1 q5) (Ev.ite_pos rfl ?_)
   by_cases q1 : (O.length : Int) > 40
   ·exact Ev.ite_pos q1 jt
   ·refine Ev.ite_neg q1 ?_
    by_cases q2 : (F.length : Int) > 120
    ·exact Ev.ite_pos q2 jt
    ·refine Ev.ite_neg q2 ?_
     have : (!(hB L hd && bB L bd)) = true := by
      cases e1 : hB L hd with
      | false => rfl
      | true =>
       cases e2 : bB L bd with
       | false => rfl
       | true => exact absurd ⟨by omega, by omega, e1, e2, q5⟩ q
     rw [this]
     exact jt
  ·exact Ev.bind ((spec_tells L hS).2 q5) (Ev.ite_neg Bool.false_ne_true jt)
end Go.Proofs.YtekkalnafngfeaaGreat.Pg
namespace Go.Proofs.YtekkalnafngfeaaGreat.Tr
open Go.RowKit Go.Proofs.YtekkalnafngfeaaGreat.P Go.Proofs.YtekkalnafngfeaaGreat.Evs Go.Proofs.YtekkalnafngfeaaGreatW.PrintWords Go.Proofs.YtekkalnafngfeaaGreatW.PrintLast

theorem Pre_kid {kids : Nat → List Nat} {d : Nat} {s : List Nat} {out : List (Nat × Nat)} (h : Pre kids d s out) : (∀ k, k ∈ s → k ∈ out.map Prod.fst) ∧ ∀ i, i ∈ out.map Prod.fst → ∀ k, k ∈ kids i → k ∈ out.map Prod.fst := by
 induction h with
 | nil d => exact ⟨fun k hk => absurd hk List.not_mem_nil, fun i hi => absurd hi List.not_mem_nil⟩
 | @cons d i s a b h1 h2 ih1 ih2 =>
  simp only [List.map_cons, List.map_append, List.mem_cons, List.mem_append]
  refine ⟨fun k hk => ?_, fun j hj k hk => ?_⟩
  ·rcases hk with hk | hk
   ·exact Or.inl hk
   ·exact Or.inr (Or.inr (ih2.1 k hk))
  ·rcases hj with rfl | hj | hj
   ·exact Or.inr (Or.inl (ih1.1 k hk))
   ·exact Or.inr (Or.inl (ih1.2 j hj k hk))
   ·exact Or.inr (Or.inr (ih2.2 j hj k hk))
theorem all_at {n : Nat} {kids : Nat → List Nat} {up : Nat → Nat} (ok : Ok n kids up) {out : List (Nat × Nat)} (h : Pre kids 0 [0] out) : ∀ (d k : Nat), At up d k → k < n → k ∈ out.map Prod.fst
 | 0, k, hk, _ => by
  obtain rfl : k = 0 := hk
  exact (Pre_kid h).1 0 (by simp)
 | d + 1, k, hk, hn => (Pre_kid h).2 (up k) (all_at ok h d (up k) hk.2 (ok.mem k hk.1 hn).1) k (ok.mem k hk.1 hn).2
theorem all_le : ∀ (n : Nat) (l : List Nat), (∀ i, i < n → i ∈ l) → n ≤ l.length
 | 0, _, _ => Nat.zero_le _
 | n + 1, l, h => by
  have h1 := all_le n (l.erase n) (fun i hi => (List.mem_erase_of_ne (by omega)).mpr (h i (by omega)))
  have h2 := h n (by omega)
  rw [List.length_erase_of_mem h2] at h1
  have := List.length_pos_of_mem h2
  omega
theorem walk_full (L : List S53) (h1 : 1 ≤ L.length) (hk : LinksP L) (hat : ∀ i, i < L.length → ∃ d, At (upp L) d i) : ∃ out, Walk L out ∧ out.length = L.length := by
 have ok := Links_ok L h1 hk
 obtain ⟨out, p1, p2, p3, p4⟩ := Pre_root ok
 refine ⟨out, ⟨p1, p2, p3, p4⟩, Nat.le_antisymm p4 ?_⟩
 have := all_le L.length (out.map Prod.fst) (fun i hi => by
  obtain ⟨d, hd⟩ := hat i hi
  exact all_at ok p1 d i hd hi)
 rwa [List.length_map] at this
theorem At_same {n : Nat} {up up' : Nat → Nat} (h : ∀ k, k < n → up' k = up k) (hu : ∀ k, k ≠ 0 → k < n → up k < n) : ∀ (d k : Nat), k < n → At up d k → At up' d k
 | 0, _, _, hk => hk
 | d + 1, k, hn, hk => ⟨hk.1, by rw [h k hn]; exact At_same h hu d (up k) (hu k hk.1 hn) hk.2⟩
theorem here_all {n : Nat} (l : List Nat) (hd : l.Nodup) (hx : ∀ x, x ∈ l → x < n) (hl : l.length = n) (i : Nat) (hi : i < n) : i ∈ l := by
 by_cases c : i ∈ l
 ·exact c
 exfalso
 have h1 := nodup_le n (i :: l) (List.nodup_cons.mpr ⟨c, hd⟩) (fun x hx' => by
  rcases List.mem_cons.mp hx' with rfl | h
  ·exact hi
  ·exact hx x h)
 rw [List.length_cons] at h1
 omega
theorem at_of (L : List S53) (h : Right L) (i : Nat) (hi : i < L.length) : ∃ d, At (upp L) d i := by
 obtain ⟨out, w, hl⟩ := h.2.2.2.2
 have hm := here_all (n := L.length) (out.map Prod.fst) w.once (fun x hx => by
  obtain ⟨p, hp, e⟩ := List.mem_map.mp hx
  rw [← e]; exact (w.all p hp).1) (by rw [List.length_map]; exact hl) i hi
 obtain ⟨p, hp, e⟩ := List.mem_map.mp hm
 have ha := (w.all p hp).2
 rw [e] at ha
 exact ⟨p.2, ha⟩

/-! ### the leaf hung -/
def hungK (y : S53) (h n : Nat) : S53 := ⟨y.f0, y.f1, y.f2, y.f3, y.f4, y.f5, y.f6.take h ++ (n : Int) :: y.f6.drop h⟩
def addL (L : List S53) (u h : Nat) (x : S53) : List S53 := (L ++ [x]).set u (hungK (it L u) h L.length)
theorem addL_length (L : List S53) (u h : Nat) (x : S53) : (addL L u h x).length = L.length + 1 := by unfold addL; simp
theorem it_opt (L : List S53) (i : Nat) : it L i = (L[i]?).getD z53 := by
 unfold it rd_T53
 rw [Int.toNat_natCast, List.getD_eq_getElem?_getD]
theorem it_addL (L : List S53) (u h : Nat) (x : S53) (hu : u < L.length) (i : Nat) : it (addL L u h x) i = if i = u then hungK (it L u) h L.length else if i = L.length then x else it L i := by
 rw [it_opt]
 unfold addL
 rw [List.getElem?_set]
 by_cases c : i = u
 ·subst c
  rw [if_pos rfl, if_pos rfl, if_pos (by simp; omega)]
  rfl
 ·rw [if_neg (fun e => c e.symm), if_neg c, List.getElem?_append]
  by_cases d : i < L.length
  ·rw [if_pos d, if_neg (by omega), it_opt]
  ·rw [if_neg d]
   by_cases e : i = L.length
   ·rw [if_pos e, e, Nat.sub_self]; rfl
   ·rw [if_neg e, it_opt, List.getElem?_eq_none (by simp; omega), List.getElem?_eq_none (by omega)]
theorem it_old (L : List S53) (u h : Nat) (x : S53) (hu : u < L.length) (i : Nat) (hi : i < L.length) : (it (addL L u h x) i).f0 = (it L i).f0 ∧ (it (addL L u h x) i).f1 = (it L i).f1 ∧ (it (addL L u h x) i).f2 = (it L i).f2 ∧ (it (addL L u h x) i).f3 = (it L i).f3 ∧ (it (addL L u h x) i).f4 = (it L i).f4 ∧ (it (addL L u h x) i).f5 = (it L i).f5 ∧ (i ≠ u → (it (addL L u h x) i).f6 = (it L i).f6) := by
 rw [it_addL L u h x hu]
 by_cases c : i = u
 ·subst c; rw [if_pos rfl]; exact ⟨rfl, rfl, rfl, rfl, rfl, rfl, fun q => absurd rfl q⟩
 ·rw [if_neg c, if_neg (by omega)]; exact ⟨rfl, rfl, rfl, rfl, rfl, rfl, fun _ => rfl⟩
theorem it_new (L : List S53) (u h : Nat) (x : S53) (hu : u < L.length) : it (addL L u h x) L.length = x := by
 rw [it_addL L u h x hu, if_neg (by omega), if_pos rfl]
theorem it_up (L : List S53) (u h : Nat) (x : S53) (hu : u < L.length) : (it (addL L u h x) u).f6 = (it L u).f6.take h ++ (L.length : Int) :: (it L u).f6.drop h := by
 rw [it_addL L u h x hu, if_pos rfl]; rfl
theorem count_ins (l : List Int) (h : Nat) (n a : Int) : (l.take h ++ n :: l.drop h).count a = l.count a + if n = a then 1 else 0 := by
 have e : l.count a = (l.take h).count a + (l.drop h).count a := by rw [← List.count_append, List.take_append_drop]
 rw [List.count_append, List.count_cons, e]
 by_cases c : n = a
 ·rw [if_pos c, if_pos (beq_iff_eq.mpr c)]; omega
 ·rw [if_neg c, if_neg (by rw [beq_eq_false_iff_ne.mpr c]; exact Bool.false_ne_true)]; omega
theorem mem_ins (l : List Int) (h : Nat) (n a : Int) : a ∈ l.take h ++ n :: l.drop h ↔ a = n ∨ a ∈ l := by
 have e : a ∈ l ↔ a ∈ l.take h ∨ a ∈ l.drop h := by rw [← List.mem_append, List.take_append_drop]
 rw [List.mem_append, List.mem_cons, e]
 constructor
 ·rintro (q | q | q)
  ·exact Or.inr (Or.inl q)
  ·exact Or.inl q
  ·exact Or.inr (Or.inr q)
 ·rintro (q | q | q)
  ·exact Or.inr (Or.inl q)
  ·exact Or.inl q
  ·exact Or.inr (Or.inr q)
theorem plain_eq {x y : S53} (h0 : x.f0 = y.f0) (h1 : x.f1 = y.f1) (h2 : x.f2 = y.f2) (h3 : x.f3 = y.f3) (h4 : x.f4 = y.f4) (h6 : (y.f0 = 1 ∨ y.f0 = 2) ∨ x.f6 = y.f6) (h : Plain y) : Plain x := by
 unfold Plain at h ⊢
 rw [h0, h1, h2, h3, h4]
 by_cases c : y.f0 = 2
 ·rw [if_pos c] at h ⊢; exact h
 ·rw [if_neg c] at h ⊢
  obtain ⟨q1, q2, q3, q4⟩ := h
  refine ⟨q1, q2, q3, ?_⟩
  by_cases d : y.f0 = 1
  ·rw [if_pos d] at q4 ⊢; exact q4
  ·rw [if_neg d] at q4 ⊢
   rcases h6 with (h6 | h6) | h6
   ·exact absurd h6 d
   ·exact absurd h6 c
   ·rw [h6]; exact q4
theorem Right_add (L : List S53) (u h : Nat) (x : S53) (hR : Right L) (hn : L.length < 3000) (hu : u < L.length) (hku : (it L u).f0 = 1 ∨ (it L u).f0 = 2) (h5 : x.f5 = (u : Int)) (h6 : x.f6 = []) : Right (addL L u h x) ↔ Plain x ∧ ¬ x.f0 = 1 := by
 have hl := addL_length L u h x
 have hpos := hR.1.1
 constructor
 ·intro hr
  have := hr.2.2.1 L.length (by omega)
  rw [it_new L u h x hu] at this
  exact ⟨this.1, this.2 (by omega)⟩
 ·rintro ⟨hp, h1⟩
  obtain ⟨q1, q2, q3, q4, q5⟩ := hR
  have hR : Right L := ⟨q1, q2, q3, q4, q5⟩
  have hkid : ∀ i, i < L.length → ∀ a, a ∈ (it L i).f6 → 1 ≤ a ∧ a < L.length ∧ (it L a.toNat).f5 = i := fun i hi a ha => by
   obtain ⟨k1, k2, k3⟩ := (q4 i hi).2 a ha
   exact ⟨k1, k2, by rw [it_toNat L (by omega)]; exact k3⟩
  have hnot : ∀ i, i < L.length → (L.length : Int) ∉ (it L i).f6 := fun i hi hm => by have := (hkid i hi _ hm).2.1; omega
  have hL : LinksP (addL L u h x) := by
   intro i hi
   rw [hl] at hi
   refine ⟨?_, ?_⟩
   ·unfold UpOk
    by_cases c0 : i = 0
    ·rw [if_pos c0, c0, (it_old L u h x hu 0 (by omega)).2.2.2.2.2.1]
     have := (q4 0 (by omega)).1; unfold UpOk at this; rwa [if_pos rfl] at this
    ·rw [if_neg c0, hl]
     by_cases cn : i = L.length
     ·rw [cn, it_new L u h x hu, h5]
      refine ⟨by omega, by omega, ?_⟩
      rw [show rd_T53 (addL L u h x) (u : Int) = it (addL L u h x) u from rfl, it_up L u h x hu, count_ins, if_pos rfl, List.count_eq_zero.mpr (hnot u hu)]
     ·have hi' : i < L.length := by omega
      have hup := (q4 i hi').1
      unfold UpOk at hup
      rw [if_neg c0] at hup
      obtain ⟨u0, u1, u2⟩ := hup
      rw [(it_old L u h x hu i hi').2.2.2.2.2.1]
      refine ⟨u0, by omega, ?_⟩
      rw [← it_toNat _ u0]
      rw [← it_toNat _ u0] at u2
      by_cases cu : (it L i).f5.toNat = u
      ·rw [cu, it_up L u h x hu, count_ins, if_neg (by omega)]
       rw [cu] at u2
       omega
      ·rw [(it_old L u h x hu _ (by omega)).2.2.2.2.2.2 cu]; exact u2
   ·intro a ha
    have hold : ∀ j, j < L.length → a ∈ (it L j).f6 → KidOk (addL L u h x) j a := fun j hj hm => by
     obtain ⟨k1, k2, k3⟩ := hkid j hj a hm
     refine ⟨k1, by rw [hl]; omega, ?_⟩
     rw [← it_toNat _ (show 0 ≤ a by omega), (it_old L u h x hu _ (by omega)).2.2.2.2.2.1]; exact k3
    by_cases cn : i = L.length
    ·rw [cn, it_new L u h x hu, h6] at ha; exact absurd ha List.not_mem_nil
    ·have hi' : i < L.length := by omega
     by_cases cu : i = u
     ·subst cu
      rw [it_up L i h x hu, mem_ins] at ha
      rcases ha with rfl | ha
      ·refine ⟨by omega, by rw [hl]; omega, ?_⟩
       rw [show rd_T53 (addL L i h x) (L.length : Int) = it (addL L i h x) L.length from rfl, it_new L i h x hu]; exact h5
      ·exact hold i hi' ha
     ·rw [(it_old L u h x hu i hi').2.2.2.2.2.2 cu] at ha
      exact hold i hi' ha
  refine ⟨⟨by omega, by omega⟩, ?_, fun i hi => ?_, hL, walk_full _ (by omega) hL fun i hi => ?_⟩
  ·rw [(it_old L u h x hu 0 (by omega)).1]; exact q2
  ·rw [hl] at hi
   by_cases cn : i = L.length
   ·rw [cn, it_new L u h x hu]; exact ⟨hp, fun _ => h1⟩
   ·have hi' : i < L.length := by omega
    obtain ⟨o0, o1, o2, o3, o4, o5, o6⟩ := it_old L u h x hu i hi'
    refine ⟨plain_eq o0 o1 o2 o3 o4 ?_ (q3 i hi').1, fun hz => by rw [o0]; exact (q3 i hi').2 hz⟩
    by_cases cu : i = u
    ·subst cu; exact Or.inl hku
    ·exact Or.inr (o6 cu)
  ·rw [hl] at hi
   have ok := Links_ok L q1.1 q4
   have hsame : ∀ k, k < L.length → upp (addL L u h x) k = upp L k := fun k hk => by unfold upp; rw [(it_old L u h x hu k hk).2.2.2.2.2.1]
   have hupl : ∀ k, k ≠ 0 → k < L.length → upp L k < L.length := fun k h0 hk => (ok.mem k h0 hk).1
   by_cases cn : i = L.length
   ·obtain ⟨d, hd⟩ := at_of L hR u hu
    refine ⟨d + 1, by omega, ?_⟩
    rw [cn]
    have : upp (addL L u h x) L.length = u := by unfold upp; rw [it_new L u h x hu, h5]; rfl
    rw [this]
    exact At_same hsame hupl d u hu hd
   ·obtain ⟨d, hd⟩ := at_of L hR i (by omega)
    exact ⟨d, At_same hsame hupl d i (by omega) hd⟩
end Go.Proofs.YtekkalnafngfeaaGreat.Tr
namespace Go.Proofs.YtekkalnafngfeaaGreat.Pg
open Go.RowKit Go.Proofs.YtekkalnafngfeaaGreat.P Go.Proofs.YtekkalnafngfeaaGreat.Evs Go.Proofs.YtekkalnafngfeaaGreat.Tr Go.Proofs.YtekkalnafngfeaaGreatW.PrintWords Go.Proofs.YtekkalnafngfeaaGreatW.PrintLast

/-- A right page. -/
def PageR (L : List S53) (O F : List Int) (hd bd : Int) : Prop := (∀ j, 0 ≤ j → j < O.length → OpenS L O j) ∧ (∀ j, 0 ≤ j → j < F.length → FormOk L F j) ∧ Fine L O F hd bd
theorem PageOk_iff (L : List S53) (O F : List Int) (hd bd : Int) (hS : Small L) (hN : Named L) (hO : O.length ≤ 1048576) (hF : F.length ≤ 1048576) :
  ∃ v : Bool, (v = true ↔ PageR L O F hd bd) ∧ Ev (fun k => spec_PageOk.f k L O F hd bd) v ∧ Ev (fun k => impl_PageOk.f k L O F hd bd) v := by
 have hL := hS.1
 have go : ∀ v, Ev (fun k => impl_PageOk.l0 k O O.length 0 L O F hd bd) (v, hd, bd) → Ev (fun k => impl_PageOk.f k L O F hd bd) v := fun v h => Ev.bind (a := (v, hd, bd)) h (Ev.now _)
 by_cases c1 : ∀ j, 0 ≤ j → j < O.length → OpenS L O j
 ·have i1 := (impl_open L O F hd bd hL hO).1 ((open_iff L O).mp c1)
  have s1 := (spec_open L O F hd bd hL hO).1 c1
  by_cases c2 : ∀ j, 0 ≤ j → j < F.length → FormOk L F j
  ·have i2 := (impl_forms L O F hd bd hL hN hF).1 c2
   have s2 := (spec_forms L O F hd bd hL hF).1 c2
   by_cases c3 : Fine L O F hd bd
   ·exact ⟨true, ⟨fun _ => ⟨c1, c2, c3⟩, fun _ => rfl⟩, (spec_head L O F hd bd hS true).1 c3 (s1 _ s2), go _ (i1 _ (i2 _ ((impl_tail L O F hd bd hS).1 c3)))⟩
   ·exact ⟨false, ⟨fun h => absurd h Bool.false_ne_true, fun h => absurd h.2.2 c3⟩, (spec_head L O F hd bd hS true).2 c3, go _ (i1 _ (i2 _ ((impl_tail L O F hd bd hS).2 c3)))⟩
  ·refine ⟨false, ⟨fun h => absurd h Bool.false_ne_true, fun h => absurd h.2.1 c2⟩, ?_, go _ (i1 _ ((impl_forms L O F hd bd hL hN hF).2 c2))⟩
   by_cases c3 : Fine L O F hd bd
   ·exact (spec_head L O F hd bd hS false).1 c3 (s1 _ ((spec_forms L O F hd bd hL hF).2 c2))
   ·exact (spec_head L O F hd bd hS true).2 c3
 ·refine ⟨false, ⟨fun h => absurd h Bool.false_ne_true, fun h => absurd h.1 c1⟩, ?_, go _ ((impl_open L O F hd bd hL hO).2 fun h => c1 ((open_iff L O).mpr h))⟩
  by_cases c3 : Fine L O F hd bd
  ·exact (spec_head L O F hd bd hS false).1 c3 ((spec_open L O F hd bd hL hO).2 c1)
  ·exact (spec_head L O F hd bd hS true).2 c3
theorem tag_parts {L : List S53} {i : Int} {nm : ByteArray} (h : tag L i nm = true) : 0 ≤ i ∧ i < (L.length : Int) ∧ (rd_T53 L i).f0 = 2 ∧ (nm.toList = [] ∨ ((rd_T53 L i).f2.toList == nm.toList) = true) := by
 obtain ⟨h0, h1, h2⟩ := tag_in h
 unfold tag at h
 rw [Bool.and_eq_true, Bool.and_eq_true, Bool.or_eq_true, decide_eq_true_eq, decide_eq_true_eq, decide_eq_true_eq] at h
 exact ⟨h0, h1, h2, h.2.2⟩
theorem tag_add {L : List S53} (u h : Nat) (x : S53) (hu : u < L.length) {i : Int} {nm : ByteArray} (ht : tag L i nm = true) : tag (addL L u h x) i nm = true := by
 obtain ⟨h0, h1, h2, h3⟩ := tag_parts ht
 obtain ⟨o0, _, o2, _⟩ := it_old L u h x hu i.toNat (by omega)
 rw [it_toNat _ h0, it_toNat _ h0] at o0 o2
 unfold tag
 rw [addL_length, o0, o2, Bool.and_eq_true, Bool.and_eq_true, Bool.or_eq_true, decide_eq_true_eq, decide_eq_true_eq, decide_eq_true_eq]
 exact ⟨⟨h0, by omega⟩, h2, h3⟩
theorem fo_add {L : List S53} (u h : Nat) (x : S53) (hu : u < L.length) {i : Int} (ht : fo L i = true) : fo (addL L u h x) i = true := by
 unfold fo at ht ⊢
 rw [Bool.and_eq_true] at ht ⊢
 obtain ⟨h0, h1, _⟩ := tag_parts ht.1
 obtain ⟨_, _, o2, _⟩ := it_old L u h x hu i.toNat (by omega)
 rw [it_toNat _ h0, it_toNat _ h0] at o2
 exact ⟨tag_add u h x hu ht.1, by rw [o2]; exact ht.2⟩
theorem PageR_add {L : List S53} {O F : List Int} {hd bd : Int} (u h : Nat) (x : S53) (hP : PageR L O F hd bd) (hn : L.length < 3000) (hu : u < L.length) (hku : (it L u).f0 = 1 ∨ (it L u).f0 = 2) (h5 : x.f5 = (u : Int)) (h6 : x.f6 = []) : PageR (addL L u h x) O F hd bd ↔ Plain x ∧ ¬ x.f0 = 1 := by
 obtain ⟨c1, c2, f1, f2, f3, f4, hR⟩ := hP
 have hA := Right_add L u h x hR hn hu hku h5 h6
 constructor
 ·exact fun hq => hA.mp hq.2.2.2.2.2.2
 ·intro hq
  refine ⟨fun j q1 q2 => ⟨tag_add u h x hu (c1 j q1 q2).1, (c1 j q1 q2).2⟩, fun j q1 q2 => (c2 j q1 q2).elim Or.inl (fun q => Or.inr (fo_add u h x hu q)), f1, f2, ?_, ?_, hA.mpr hq⟩
  ·unfold hB at f3 ⊢
   rw [Bool.or_eq_true] at f3 ⊢
   exact f3.elim Or.inl (fun q => Or.inr (tag_add u h x hu q))
  ·unfold bB at f4 ⊢
   rw [Bool.or_eq_true] at f4 ⊢
   exact f4.elim Or.inl (fun q => Or.inr (tag_add u h x hu q))
theorem kids_few {L : List S53} (hR : Right L) {i : Nat} (hi : i < L.length) : (it L i).f6.length ≤ L.length := by
 have ok := Links_ok L hR.1.1 hR.2.2.2.1
 have := nodup_le L.length (kd L i) (ok.once i hi) (fun k hk => (ok.kid i hi k hk).2.1)
 unfold kd at this
 rwa [List.length_map] at this
theorem mem_it {L : List S53} {y : S53} (h : y ∈ L) : ∃ i, i < L.length ∧ it L i = y := by
 obtain ⟨i, hi, e⟩ := List.getElem_of_mem h
 exact ⟨i, hi, by rw [it_get hi]; exact e⟩
theorem small_add {L : List S53} (u h : Nat) (x : S53) (hS : Small L) (hR : Right L) (hu : u < L.length) (h3 : x.f3.length ≤ 1048576) (h6 : x.f6 = []) : Small (addL L u h x) := by
 refine ⟨by rw [addL_length]; have := hR.1.2; omega, fun y hy => ?_⟩
 obtain ⟨i, hi, rfl⟩ := mem_it hy
 rw [it_addL L u h x hu]
 by_cases c : i = u
 ·rw [if_pos c]
  refine ⟨(it_small hS hu).1, ?_⟩
  show ((it L u).f6.take h ++ (L.length : Int) :: (it L u).f6.drop h).length ≤ 1048576
  have := kids_few hR hu
  have := hR.1.2
  rw [List.length_append, List.length_cons, List.length_take, List.length_drop]
  omega
 ·rw [if_neg c]
  by_cases d : i = L.length
  ·rw [if_pos d, h6]; exact ⟨h3, by simp⟩
  ·rw [if_neg d]
   rw [addL_length] at hi
   exact it_small hS (by omega)
theorem named_add {L : List S53} (u h : Nat) (x : S53) (hN : Named L) (hu : u < L.length) (h2 : x.f2.size ≤ 1048576) : Named (addL L u h x) := by
 intro i hi
 rw [addL_length] at hi
 by_cases d : i = L.length
 ·rw [d, it_new L u h x hu]; exact h2
 ·rw [(it_old L u h x hu i (by omega)).2.2.1]; exact hN i (by omega)
/-- The innermost open one, 0 where none is. -/
def lastV (O : List Int) : Int := if O.length = 0 then 0 else rd O ((O.length - 1 : Nat) : Int)
theorem last_up {L : List S53} {O F : List Int} {hd bd : Int} (hP : PageR L O F hd bd) : ∃ u : Nat, lastV O = (u : Int) ∧ u < L.length ∧ ((it L u).f0 = 1 ∨ (it L u).f0 = 2) := by
 obtain ⟨c1, c2, f1, f2, f3, f4, hR⟩ := hP
 unfold lastV
 by_cases c : O.length = 0
 ·rw [if_pos c]; exact ⟨0, rfl, hR.1.1, Or.inl hR.2.1⟩
 ·rw [if_neg c]
  obtain ⟨h0, h1, h2, _⟩ := tag_parts (c1 (O.length - 1) (Nat.zero_le _) (by omega)).1
  refine ⟨(rd O ((O.length - 1 : Nat) : Int)).toNat, (Int.toNat_of_nonneg h0).symm, by omega, Or.inr ?_⟩
  rw [it_toNat L h0]; exact h2
end Go.Proofs.YtekkalnafngfeaaGreat.Pg
namespace Go.Proofs.YtekkalnafngfeaaGreat.Mk
open Go.RowKit Go.Proofs.YtekkalnafngfeaaGreat.P Go.Proofs.YtekkalnafngfeaaGreat.Evs Go.Proofs.YtekkalnafngfeaaGreatW.PrintWords Go.Proofs.YtekkalnafngfeaaGreatW.PrintLast

theorem heldAttrS_loop (k0 n : Nat) (hl : n ≤ 1048576) (hk : k0 ≤ 1152921504600000000) : ∀ (d j : Nat), n - j = d → j ≤ n → Ev (fun k => laws_heldAttrS.l0 k (mas k0 n) ((k0 + 2 * j : Nat) : Int) j) ((k0 + 2 * n : Nat) : Int) := by
 intro d
 induction d with
 | zero =>
  intro j hd hj
  obtain rfl : j = n := by omega
  refine Ev.here fun k => ?_
  simp only [laws_heldAttrS.l0]
  rw [if_neg (by rw [mas_length]; omega)]
 | succ d ih =>
  intro j hd hj
  have hjl : j < (mas k0 n).length := by rw [mas_length]; omega
  have t1 := mt_tells (k0 + 2 * j) (by omega)
  have t2 := mt_tells (k0 + 2 * j + 1) (by omega)
  have w1 : wrap64 (((k0 + 2 * j : Nat) : Int) + 1) = ((k0 + 2 * j + 1 : Nat) : Int) := succ64 (by omega)
  have w2 : wrap64 (((k0 + 2 * j + 1 : Nat) : Int) + 1) = ((k0 + 2 * (j + 1) : Nat) : Int) := succ64 (by omega)
  have hrd : rd_T56 (mas k0 n) (j : Int) = ma k0 j := by
   rw [show rd_T56 (mas k0 n) (j : Int) = (mas k0 n)[j] from rdT _ _ j hjl, mas_get]
  refine Ev.step (f := fun k => (laws_markText.f k ((k0 + 2 * j : Nat) : Int)).bind fun t272 => (if ((ma k0 j).f0).toList = t272.toList then ((laws_markText.f k ((k0 + 2 * j + 1 : Nat) : Int)).bind fun t274 => (if ((ma k0 j).f1).toList = t274.toList then (laws_heldAttrS.l0 k (mas k0 n) ((k0 + 2 * (j + 1) : Nat) : Int) ((j + 1 : Nat) : Int)) else (some (-1)))) else (some (-1)))) (fun k => ?_) (Ev.bind t1 (Ev.ite_pos rfl (Ev.bind t2 (Ev.ite_pos rfl (ih (j + 1) (by omega) (by omega))))))
  simp only [laws_heldAttrS.l0, w1, w2, succ64 (show j < 9223372036854775807 by omega), hrd]
  rw [if_pos (by omega), if_pos (by omega)]
theorem heldAttrS_tells (k0 n : Nat) (hl : n ≤ 1048576) (hk : k0 ≤ 1152921504600000000) : Ev (fun k => laws_heldAttrS.f k (mas k0 n) k0) ((k0 + 2 * n : Nat) : Int) := heldAttrS_loop k0 n hl hk n 0 (by omega) (by omega)

/-- How far an item brings the count. -/
def mstep (c : Nat) (x : S53) : Nat := c + 5 + 2 * x.f3.length + x.f6.length
noncomputable def mit (c : Nat) (x : S53) : S53 := ⟨(c : Int), ((c + 1 : Nat) : Int), mt (c + 2), mas (c + 3) x.f3.length, mt (c + 3 + 2 * x.f3.length), ((c + 4 + 2 * x.f3.length : Nat) : Int), mis (c + 5 + 2 * x.f3.length) x.f6.length⟩
/-- The marked items, and where the count ends. -/
noncomputable def mits : Nat → List S53 → List S53
 | _, [] => []
 | c, x :: l => mit c x :: mits (mstep c x) l
def mend : Nat → List S53 → Nat
 | c, [] => c
 | c, x :: l => mend (mstep c x) l
def Few (l : List S53) : Prop := ∀ y ∈ l, y.f3.length ≤ 1048576 ∧ y.f6.length ≤ 1048576
theorem mend_le : ∀ (l : List S53) (c : Nat), Few l → mend c l ≤ c + l.length * 3145738
 | [], c, _ => by show c ≤ _; omega
 | x :: l, c, h => by
  have h1 := mend_le l (mstep c x) (fun y hy => h y (List.mem_cons_of_mem _ hy))
  obtain ⟨h2, h3⟩ := h x List.mem_cons_self
  rw [List.length_cons]
  show mend (mstep c x) l ≤ _
  unfold mstep at h1 ⊢
  omega
theorem rd_mid (p : List S53) (x : S53) (l : List S53) : rd_T53 (p ++ x :: l) (p.length : Int) = x := by
 have h : p.length < (p ++ x :: l).length := by simp
 rw [show rd_T53 (p ++ x :: l) (p.length : Int) = (p ++ x :: l)[p.length] from rdT _ _ _ h]
 simp
theorem set_mid (p : List S53) (x y : S53) (l : List S53) : (p ++ x :: l).set p.length y = (p ++ [y]) ++ l := by simp
theorem steps (c n : Nat) (h : c + 2 * n + 6 < 9223372036854775807) : wrap64 ((c : Int) + 1) = ((c + 1 : Nat) : Int) ∧ wrap64 (((c + 1 : Nat) : Int) + 1) = ((c + 2 : Nat) : Int) ∧ wrap64 (((c + 2 : Nat) : Int) + 1) = ((c + 3 : Nat) : Int) ∧ wrap64 (((c + 3 + 2 * n : Nat) : Int) + 1) = ((c + 4 + 2 * n : Nat) : Int) ∧ wrap64 (((c + 4 + 2 * n : Nat) : Int) + 1) = ((c + 5 + 2 * n : Nat) : Int) := by
 refine ⟨succ64 (by omega), succ64 (by omega), succ64 (by omega), (succ64 (by omega)).trans (congrArg Nat.cast (by omega)), (succ64 (by omega)).trans (congrArg Nat.cast (by omega))⟩
theorem mark_step (p r : List S53) (x : S53) (c : Nat) (res : Int × List S53) (h3 : x.f3.length ≤ 1048576) (h6 : x.f6.length ≤ 1048576) (hl : p.length ≤ 1048576) (hc : c ≤ 1152921504500000000)
  (ih : Ev (fun k => laws_markItemS.l0 k (p ++ mit c x :: r) (mstep c x : Nat) ((p.length + 1 : Nat) : Int)) res) : Ev (fun k => laws_markItemS.l0 k (p ++ x :: r) (c : Int) (p.length : Int)) res := by
 have t1 := mt_tells (c + 2) (by omega)
 have t2 := markAttrS_tells x.f3 (c + 3) h3 (by omega)
 have t3 := mt_tells (c + 3 + 2 * x.f3.length) (by omega)
 have t4 := markIntS_tells x.f6 (c + 5 + 2 * x.f3.length) h6 (by omega)
 obtain ⟨w1, w2, w3, w4, w5⟩ := steps c x.f3.length (by omega)
 have w6 : wrap64 ((p.length : Int) + 1) = ((p.length + 1 : Nat) : Int) := succ64 (by omega)
 refine Ev.step (f := fun k => (laws_markText.f k ((c + 2 : Nat) : Int)).bind fun t => (laws_markAttrS.f k x.f3 ((c + 3 : Nat) : Int)).bind fun b => (laws_markText.f k b.1).bind fun t2 => (laws_markIntS.f k x.f6 (wrap64 (wrap64 (b.1 + 1) + 1))).bind fun d => laws_markItemS.l0 k ((p ++ x :: r).set p.length (⟨(c : Int), ((c + 1 : Nat) : Int), t, b.2, t2, wrap64 (b.1 + 1), d.2⟩ : S53)) d.1 ((p.length + 1 : Nat) : Int)) (fun k => ?_) (Ev.bind t1 (Ev.bind t2 (Ev.bind t3 ?_)))
 ·simp only [laws_markItemS.l0, rd_mid, w1, w2, w3, w6, Int.toNat_natCast]
  rw [if_pos (by rw [List.length_append, List.length_cons]; omega), if_pos (Int.natCast_nonneg _)]
 ·simp only [w4, w5]
  refine Ev.bind t4 ?_
  rw [set_mid, List.append_assoc, List.singleton_append]
  exact ih
theorem markItemS_marks (l : List S53) : ∀ (p : List S53) (c : Nat), Few l → p.length + l.length ≤ 1048576 → c + l.length * 3145738 ≤ 1152921504500000000 →
  Ev (fun k => laws_markItemS.l0 k (p ++ l) (c : Int) (p.length : Int)) ((mend c l : Nat), p ++ mits c l) := by
 induction l with
 | nil =>
  intro p c _ _ _
  refine Ev.here fun k => ?_
  simp only [laws_markItemS.l0]
  rw [List.append_nil, if_neg (by omega)]
  show some ((c : Int), p) = some ((c : Int), p ++ [])
  rw [List.append_nil]
 | cons x l ih =>
  intro p c hf hl hc
  obtain ⟨h3, h6⟩ := hf x List.mem_cons_self
  rw [List.length_cons] at hl hc
  have hm : mstep c x ≤ c + 3145738 := by unfold mstep; omega
  have h := ih (p ++ [mit c x]) (mstep c x) (fun y hy => hf y (List.mem_cons_of_mem _ hy)) (by rw [List.length_append, List.length_singleton]; omega) (by omega)
  have e1 : (p ++ [mit c x]) ++ l = p ++ mit c x :: l := by rw [List.append_assoc]; rfl
  have e2 : (p ++ [mit c x]) ++ mits (mstep c x) l = p ++ mits c (x :: l) := by rw [List.append_assoc]; rfl
  have e3 : (p ++ [mit c x]).length = p.length + 1 := by rw [List.length_append]; rfl
  rw [e1, e2, e3] at h
  exact mark_step p l x c _ h3 h6 (by omega) (by omega) h
theorem held_step (p r : List S53) (x : S53) (c : Nat) (res : Int) (h3 : x.f3.length ≤ 1048576) (h6 : x.f6.length ≤ 1048576) (hl : p.length ≤ 1048576) (hc : c ≤ 1152921504500000000)
  (ih : Ev (fun k => laws_heldItemS.l0 k (p ++ mit c x :: r) (mstep c x : Nat) ((p.length + 1 : Nat) : Int)) res) : Ev (fun k => laws_heldItemS.l0 k (p ++ mit c x :: r) (c : Int) (p.length : Int)) res := by
 have t1 := mt_tells (c + 2) (by omega)
 have t2 := heldAttrS_tells (c + 3) x.f3.length h3 (by omega)
 have t3 := mt_tells (c + 3 + 2 * x.f3.length) (by omega)
 have t4 := heldIntS_tells (c + 5 + 2 * x.f3.length) x.f6.length h6 (by omega)
 obtain ⟨w1, w2, w3, w4, w5⟩ := steps c x.f3.length (by omega)
 have w6 : wrap64 ((p.length : Int) + 1) = ((p.length + 1 : Nat) : Int) := succ64 (by omega)
 have hlen : (p.length : Int) < ((p ++ mit c x :: r).length : Int) := by rw [List.length_append, List.length_cons]; omega
 have hrd : rd_T53 (p ++ mit c x :: r) (p.length : Int) = mit c x := rd_mid p _ _
 generalize p ++ mit c x :: r = z at ih hlen hrd ⊢
 have n1 : ¬ ((c + 3 + 2 * x.f3.length : Nat) : Int) < 0 := by omega
 have n2 : ¬ ((c + 5 + 2 * x.f3.length + x.f6.length : Nat) : Int) < 0 := by omega
 refine Ev.step (f := fun k => (laws_markText.f k ((c + 2 : Nat) : Int)).bind fun t492 => (if (mt (c + 2)).toList = t492.toList then ((laws_heldAttrS.f k (mas (c + 3) x.f3.length) ((c + 3 : Nat) : Int)).bind fun t494 => (if t494 < 0 then (some (-1)) else ((laws_markText.f k t494).bind fun t496 => (if (mt (c + 3 + 2 * x.f3.length)).toList = t496.toList then (if (((c + 4 + 2 * x.f3.length : Nat) : Int)) = (wrap64 (t494 + 1)) then ((laws_heldIntS.f k (mis (c + 5 + 2 * x.f3.length) x.f6.length) (wrap64 ((wrap64 (t494 + 1)) + 1))).bind fun t499 => (if t499 < 0 then (some (-1)) else (laws_heldItemS.l0 k z t499 ((p.length + 1 : Nat) : Int)))) else (some (-1))) else (some (-1)))))) else (some (-1)))) (fun k => ?_) (Ev.bind t1 (Ev.ite_pos rfl (Ev.bind t2 (Ev.ite_neg n1 (Ev.bind t3 (Ev.ite_pos rfl ?_))))))
 ·simp only [laws_heldItemS.l0, hrd, w1, w2, w3, w6]
  rw [if_pos hlen, if_pos (Int.natCast_nonneg _)]
  rw [if_pos (show (mit c x).f0 = (c : Int) from rfl), if_pos (show (mit c x).f1 = ((c + 1 : Nat) : Int) from rfl)]
  rfl
 ·simp only [w4, w5]
  exact Ev.ite_pos True.intro (Ev.bind t4 (Ev.ite_neg n2 ih))
theorem heldItemS_marks (l : List S53) : ∀ (p : List S53) (c : Nat), Few l → p.length + l.length ≤ 1048576 → c + l.length * 3145738 ≤ 1152921504500000000 →
  Ev (fun k => laws_heldItemS.l0 k (p ++ mits c l) (c : Int) (p.length : Int)) (mend c l : Nat) := by
 induction l with
 | nil =>
  intro p c _ _ _
  refine Ev.here fun k => ?_
  show laws_heldItemS.l0 (k + 1) (p ++ []) (c : Int) (p.length : Int) = some (c : Int)
  simp only [laws_heldItemS.l0]
  rw [List.append_nil, if_neg (by omega)]
 | cons x l ih =>
  intro p c hf hl hc
  obtain ⟨h3, h6⟩ := hf x List.mem_cons_self
  rw [List.length_cons] at hl hc
  have hm : mstep c x ≤ c + 3145738 := by unfold mstep; omega
  have h := ih (p ++ [mit c x]) (mstep c x) (fun y hy => hf y (List.mem_cons_of_mem _ hy)) (by rw [List.length_append, List.length_singleton]; omega) (by omega)
  have e1 : (p ++ [mit c x]) ++ mits (mstep c x) l = p ++ mit c x :: mits (mstep c x) l := by rw [List.append_assoc]; rfl
  have e3 : (p ++ [mit c x]).length = p.length + 1 := by rw [List.length_append]; rfl
  rw [e1, e3] at h
  exact held_step p _ x c _ h3 h6 (by omega) (by omega) h
end Go.Proofs.YtekkalnafngfeaaGreat.Mk
