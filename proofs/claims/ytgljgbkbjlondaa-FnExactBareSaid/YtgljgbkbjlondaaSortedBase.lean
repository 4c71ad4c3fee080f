/- Lists of byte strings in strict order: two with the same members are one; what is sorted and compacted is in strict order, with the same members. Plain Lean. -/
import Derived.Test.YtgljgbkbjlondaaEvBase
import Derived.Lib.SlicesCompact
set_option linter.unusedVariables false
set_option linter.unusedSimpArgs false
namespace Go.Proofs.Ytgljgbkbjlondaa.So
open Go.Lib
abbrev Str := List UInt8
def Strict (l : List Str) : Prop := l.Pairwise (· < ·)
theorem strict_ext : ∀ (a b : List Str), Strict a → Strict b → (∀ x, x ∈ a ↔ x ∈ b) → a = b
 | [], [], _, _, _ => rfl
 | [], y :: b, _, _, h => absurd ((h y).mpr (List.mem_cons_self ..)) List.not_mem_nil
 | x :: a, [], _, _, h => absurd ((h x).mp (List.mem_cons_self ..)) List.not_mem_nil
 | x :: a, y :: b, ha, hb, h => by
  obtain ⟨ha1, ha2⟩ := List.pairwise_cons.mp ha
  obtain ⟨hb1, hb2⟩ := List.pairwise_cons.mp hb
  have e : x = y := by
   rcases List.mem_cons.mp ((h x).mp (List.mem_cons_self ..)) with e | m1
   ·exact e
   ·rcases List.mem_cons.mp ((h y).mpr (List.mem_cons_self ..)) with e | m2
    ·exact e.symm
    ·exact absurd (List.lt_trans (hb1 x m1) (ha1 y m2)) (List.lt_irrefl _)
  subst e
  refine congrArg (x :: ·) (strict_ext a b ha2 hb2 fun z => ⟨fun m => ?_, fun m => ?_⟩)
  ·rcases List.mem_cons.mp ((h z).mp (List.mem_cons_of_mem _ m)) with e | m'
   ·subst e; exact absurd (ha1 _ m) (List.lt_irrefl _)
   ·exact m'
  ·rcases List.mem_cons.mp ((h z).mpr (List.mem_cons_of_mem _ m)) with e | m'
   ·subst e; exact absurd (hb1 _ m) (List.lt_irrefl _)
   ·exact m'
theorem lt_of (x y : Str) (h : x ≤ y) (hn : x ≠ y) : x < y := by
 by_cases h1 : x < y
 ·exact h1
 ·exact absurd (List.le_antisymm h (List.not_lt.mp h1)) hn
theorem le_lt (x y z : Str) (h : x ≤ y) (h2 : y < z) : x < z := List.lt_of_le_of_lt h h2
/-- The first m elements, told without those that stand beside their like. -/
theorem upTo_mem (d : Array Str) : ∀ (m : Nat), m ≤ d.size → ∀ x, x ∈ compactUpTo d m ↔ ∃ j, j < m ∧ d[j]! = x := by
 intro m
 induction m with
 | zero => intro _ x; simp [compactUpTo]
 | succ m ih =>
  intro hm x
  rw [compactUpTo_succ, List.mem_append, ih (by omega) x]
  constructor
  ·rintro (⟨j, hj, e⟩ | h)
   ·exact ⟨j, by omega, e⟩
   ·by_cases c : keeps d m = true
    ·rw [if_pos c] at h
     exact ⟨m, by omega, (List.mem_singleton.mp h).symm⟩
    ·rw [if_neg c] at h; exact absurd h List.not_mem_nil
  ·rintro ⟨j, hj, e⟩
   by_cases c : j < m
   ·exact .inl ⟨j, c, e⟩
   ·obtain rfl : j = m := by omega
    by_cases c2 : keeps d j = true
    ·rw [if_pos c2]; exact .inr (List.mem_singleton.mpr e.symm)
    ·have hk : ¬ (j = 0 ∨ d[j]! ≠ d[j - 1]!) := fun h => c2 (decide_eq_true h)
     have h1 : j ≠ 0 := fun h => hk (.inl h)
     have h2 : d[j]! = d[j - 1]! := Classical.byContradiction fun h => hk (.inr h)
     exact .inl ⟨j - 1, by omega, by rw [← h2]; exact e⟩
theorem upTo_strict (d : Array Str) (hs : ∀ i j, i ≤ j → j < d.size → d[i]! ≤ d[j]!) : ∀ (m : Nat), m ≤ d.size → Strict (compactUpTo d m) := by
 intro m
 induction m with
 | zero => intro _; simp [compactUpTo, Strict]
 | succ m ih =>
  intro hm
  rw [compactUpTo_succ]
  by_cases c : keeps d m = true
  ·rw [if_pos c]
   refine List.pairwise_append.mpr ⟨ih (by omega), List.pairwise_singleton _ _, fun x hx y hy => ?_⟩
   rw [List.mem_singleton.mp hy]
   obtain ⟨j, hj, e⟩ := (upTo_mem d m (by omega) x).mp hx
   have hk : m = 0 ∨ d[m]! ≠ d[m - 1]! := of_decide_eq_true c
   have h2 : d[m - 1]! ≠ d[m]! := fun h => by
    rcases hk with h' | h'
    ·omega
    ·exact h' h.symm
   rw [← e]
   exact le_lt _ _ _ (hs j (m - 1) (by omega) (by omega)) (lt_of _ _ (hs (m - 1) m (by omega) (by omega)) h2)
  ·rw [if_neg c, List.append_nil]
   exact ih (by omega)
theorem sorted_le (zs : List Str) (i j : Nat) (h : i ≤ j) (hj : j < (zs.mergeSort fun x y => decide (x ≤ y)).toArray.size) : (zs.mergeSort fun x y => decide (x ≤ y)).toArray[i]! ≤ (zs.mergeSort fun x y => decide (x ≤ y)).toArray[j]! := by
 have hp := List.pairwise_mergeSort (le := fun x y : Str => decide (x ≤ y)) (fun a b c h1 h2 => decide_eq_true (List.le_trans (of_decide_eq_true h1) (of_decide_eq_true h2))) (fun a b => by rw [Bool.or_eq_true, decide_eq_true_eq, decide_eq_true_eq]; exact List.le_total a b) zs
 rw [List.size_toArray] at hj
 have h1 : ∀ k, ∀ hk : k < (zs.mergeSort fun x y => decide (x ≤ y)).length, (zs.mergeSort fun x y => decide (x ≤ y)).toArray[k]! = (zs.mergeSort fun x y => decide (x ≤ y))[k] := fun k hk => by rw [getElem!_pos _ k (by simpa using hk), List.getElem_toArray]
 rw [h1 i (by omega), h1 j hj]
 by_cases c : i = j
 ·subst c; exact List.le_refl _
 ·exact of_decide_eq_true (List.pairwise_iff_getElem.mp hp i j (by omega) hj (by omega))
theorem sorted_strict (zs : List Str) : Strict (compact (zs.mergeSort fun x y => decide (x ≤ y))) :=
 upTo_strict _ (fun i j h hj => sorted_le zs i j h hj) _ (by rw [List.size_toArray]; exact Nat.le_refl _)
theorem sorted_mem (zs : List Str) (x : Str) : x ∈ compact (zs.mergeSort fun x y => decide (x ≤ y)) ↔ x ∈ zs := by
 unfold compact
 rw [upTo_mem _ _ (by rw [List.size_toArray]; exact Nat.le_refl _)]
 constructor
 ·rintro ⟨j, hj, e⟩
  rw [getElem!_pos _ j (by simpa using hj), List.getElem_toArray] at e
  rw [← e]
  exact List.mem_mergeSort.mp (List.getElem_mem _)
 ·intro h
  obtain ⟨j, hj, e⟩ := List.mem_iff_getElem.mp (List.mem_mergeSort (le := fun x y => decide (x ≤ y)).mpr h)
  exact ⟨j, hj, by rw [getElem!_pos _ j (by simpa using hj), List.getElem_toArray]; exact e⟩
/-- An element put ahead of the first that is not less. -/
theorem put_strict (l : List Str) (s : Str) (at_ : Nat) (hl : Strict l) (hs : s ∉ l) (h1 : ∀ x, x ∈ l.take at_ → x < s) (h2 : ∀ y, l[at_]? = some y → ¬ y < s) : Strict (l.take at_ ++ [s] ++ l.drop at_) := by
 have hd : ∀ y, y ∈ l.drop at_ → s < y := by
  intro y hy
  cases hc : l.drop at_ with
  | nil => rw [hc] at hy; exact absurd hy List.not_mem_nil
  | cons z r =>
   have hz : l[at_]? = some z := by rw [← Nat.add_zero at_, ← List.getElem?_drop, hc]; rfl
   have hzm : z ∈ l := List.mem_of_mem_drop (i := at_) (by rw [hc]; exact List.mem_cons_self ..)
   have hsz : s < z := by
    exact lt_of s z (List.not_lt.mp (h2 z hz)) (fun e => hs (e ▸ hzm))
   have hp : Strict (l.drop at_) := List.Pairwise.sublist (List.drop_sublist _ _) hl
   rw [hc] at hp hy
   rcases List.mem_cons.mp hy with e | m
   ·subst e; exact hsz
   ·exact List.lt_trans hsz ((List.pairwise_cons.mp hp).1 y m)
 have hsplit : Strict (l.take at_ ++ l.drop at_) := by rw [List.take_append_drop]; exact hl
 obtain ⟨p1, p2, p3⟩ := List.pairwise_append.mp hsplit
 refine List.pairwise_append.mpr ⟨List.pairwise_append.mpr ⟨p1, List.pairwise_singleton _ _, fun x hx y hy => by rw [List.mem_singleton.mp hy]; exact h1 x hx⟩, p2, fun x hx y hy => ?_⟩
 rcases List.mem_append.mp hx with m | m
 ·exact p3 x m y hy
 ·rw [List.mem_singleton.mp m]; exact hd y hy
theorem less_eq : ∀ (x y : Str), Go.Op.bytesLess x y = decide (x < y)
 | [], [] => by simp [Go.Op.bytesLess]
 | _ :: _, [] => by simp [Go.Op.bytesLess]
 | [], _ :: _ => by simp [Go.Op.bytesLess]
 | a :: x, b :: y => by
  rw [Go.Op.bytesLess, less_eq x y]
  simp only [List.cons_lt_cons_iff]
  by_cases h1 : a < b <;> by_cases h2 : a = b <;> by_cases h3 : x < y <;> simp [h1, h2, h3]
end Go.Proofs.Ytgljgbkbjlondaa.So
