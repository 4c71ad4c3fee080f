/- A name among those of a row of names: 'strings.Contains(" a b c ", " name ")' tells whether it is one of them. Over no program. No conditions. -/
import Derived.Lib.IndexMore
set_option linter.unusedVariables false
set_option linter.unusedSimpArgs false
namespace Go.Proofs.Ytgljgbkbjlondaa.Oo
open Go

theorem contains_nil (sub : List UInt8) : Lib.contains [] sub = sub.isEmpty := by
 unfold Lib.contains Lib.index
 cases sub <;> rfl
theorem contains_cons (b : UInt8) (l sub : List UInt8) : Lib.contains (b :: l) sub = (sub.isPrefixOf (b :: l) || Lib.contains l sub) := by
 unfold Lib.contains
 rw [Lib.index]
 have h := Lib.index_ge l sub
 by_cases c : sub.isPrefixOf (b :: l) = true
 ·rw [if_pos c, c, Bool.true_or]; rfl
 ·rw [if_neg c, Bool.eq_false_iff.mpr c, Bool.false_or]
  by_cases c2 : (Lib.index l sub == -1) = true
  ·rw [if_pos c2]
   have : Lib.index l sub = -1 := by simpa using c2
   rw [this]
  ·rw [if_neg c2]
   have : Lib.index l sub ≠ -1 := by simpa using c2
   by_cases c3 : 0 ≤ Lib.index l sub
   ·rw [decide_eq_true c3, decide_eq_true (by omega)]
   ·omega
theorem word_prefix : ∀ (name w r : List UInt8), (32 : UInt8) ∉ name → (32 : UInt8) ∉ w → (name ++ [32]).isPrefixOf (w ++ 32 :: r) = (name == w)
 | [], [], r, _, _ => by simp [List.isPrefixOf]
 | [], b :: w, r, _, hw => by
  have hb : ((32 : UInt8) == b) = false := by
   rw [beq_eq_false_iff_ne]
   intro e
   exact hw (by rw [← e]; exact List.mem_cons_self)
  simp [List.isPrefixOf, hb]
 | a :: n, [], r, hn, _ => by
  have ha : (a == (32 : UInt8)) = false := by
   rw [beq_eq_false_iff_ne]
   intro e
   exact hn (by rw [e]; exact List.mem_cons_self)
  simp [List.isPrefixOf, ha]
 | a :: n, b :: w, r, hn, hw => by
  have ih := word_prefix n w r (fun h => hn (List.mem_cons_of_mem _ h)) (fun h => hw (List.mem_cons_of_mem _ h))
  show ((a == b) && (n ++ [32]).isPrefixOf (w ++ 32 :: r)) = (a :: n == b :: w)
  rw [ih]
  rfl
theorem skip (sub : List UInt8) : ∀ (w r : List UInt8), (32 : UInt8) ∉ w → Lib.contains (w ++ r) (32 :: sub) = Lib.contains r (32 :: sub)
 | [], _, _ => rfl
 | b :: w, r, hw => by
  have hb : ((32 : UInt8) == b) = false := by
   rw [beq_eq_false_iff_ne]
   intro e
   exact hw (by rw [← e]; exact List.mem_cons_self)
  rw [List.cons_append, contains_cons, skip sub w r (fun h => hw (List.mem_cons_of_mem _ h))]
  show ((((32 : UInt8) == b) && sub.isPrefixOf (w ++ r)) || _) = _
  rw [hb, Bool.false_and, Bool.false_or]
def rows (ws : List (List UInt8)) : List UInt8 := ws.flatMap fun w => w ++ [32]
theorem one_of (name : List UInt8) (hn : (32 : UInt8) ∉ name) : ∀ ws : List (List UInt8), (∀ w, w ∈ ws → (32 : UInt8) ∉ w) → Lib.contains (32 :: rows ws) (32 :: (name ++ [32])) = ws.any (name == ·)
 | [], _ => by
  rw [contains_cons]
  show ((((32 : UInt8) == 32) && (name ++ [32]).isPrefixOf []) || Lib.contains [] _) = false
  rw [contains_nil]
  cases name <;> rfl
 | w :: ws, h => by
  have hw := h w List.mem_cons_self
  have ih := one_of name hn ws (fun x hx => h x (List.mem_cons_of_mem _ hx))
  have e : rows (w :: ws) = w ++ 32 :: rows ws := by simp [rows]
  rw [contains_cons, e, skip _ w _ hw, ih, List.any_cons]
  show ((((32 : UInt8) == 32) && (name ++ [32]).isPrefixOf (w ++ 32 :: rows ws)) || _) = _
  rw [word_prefix name w _ hn hw]
  rfl
/-- The program's test: empty, or with a blank: none of them. -/
theorem is_one_of (name : List UInt8) (ws : List (List UInt8)) (h : ∀ w, w ∈ ws → (32 : UInt8) ∉ w) (hne : name ≠ []) : (!(Lib.contains name [32]) && Lib.contains (32 :: rows ws) (32 :: (name ++ [32]))) = ws.any (name == ·) := by
 have h1 : Lib.contains name [32] = decide ((32 : UInt8) ∈ name) := by
  clear hne h
  induction name with
  | nil => rfl
  | cons b l ih =>
   rw [contains_cons, ih]
   show ((((32 : UInt8) == b) && ([] : List UInt8).isPrefixOf l) || decide ((32 : UInt8) ∈ l)) = _
   have : ([] : List UInt8).isPrefixOf l = true := by cases l <;> rfl
   rw [this, Bool.and_true]
   by_cases c : (32 : UInt8) = b
   ·subst c; simp
   ·rw [show ((32 : UInt8) == b) = false from beq_eq_false_iff_ne.mpr c, Bool.false_or, decide_eq_decide]
    constructor
    ·exact fun q => List.mem_cons_of_mem _ q
    ·intro q
     rcases List.mem_cons.mp q with e | e
     ·exact absurd e c
     ·exact e
 rw [h1]
 by_cases c : (32 : UInt8) ∈ name
 ·rw [decide_eq_true c]
  have : ws.any (name == ·) = false := by
   rw [List.any_eq_false]
   intro w hw q
   have e : name = w := by simpa using q
   exact h w hw (by rw [← e]; exact c)
  rw [this]; rfl
 ·rw [decide_eq_false c, one_of name c ws h]; rfl
end Go.Proofs.Ytgljgbkbjlondaa.Oo
