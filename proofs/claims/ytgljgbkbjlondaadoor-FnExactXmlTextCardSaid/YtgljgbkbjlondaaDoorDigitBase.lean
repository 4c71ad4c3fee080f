/- Decimal numerals: what a row of digits without a nought ahead spells, and back. No conditions but those that each statement names. -/
import Derived.Lib.Atoi
import Derived.Lib.ItoaNum
set_option linter.unusedVariables false
set_option linter.unusedSimpArgs false
namespace Go.Proofs.YtgljgbkbjlondaaDoor.Dg
open Go Go.Lib

def dig (b : UInt8) : Prop := 48 ≤ b.toNat ∧ b.toNat ≤ 57
/-- The number that digits spell behind 'acc'. -/
def numOf (acc : Nat) (l : List UInt8) : Nat := l.foldl (fun a b => a * 10 + (b.toNat - 48)) acc
theorem dv_yes {b : UInt8} (h : dig b) : digitVal b = some (b.toNat - 48) := by
  unfold dig at h
  unfold digitVal
  rw [if_pos h]
theorem dv_no {b : UInt8} (h : ¬ dig b) : digitVal b = none := by
  unfold dig at h
  unfold digitVal
  rw [if_neg h]
theorem dec_nil (acc : Nat) : decFrom acc [] = some acc := by rw [decFrom]
theorem dec_cons (acc : Nat) (b : UInt8) (r : List UInt8) (h : dig b) : decFrom acc (b :: r) = decFrom (acc * 10 + (b.toNat - 48)) r := by rw [decFrom, dv_yes h]
theorem dec_none (acc : Nat) (b : UInt8) (r : List UInt8) (h : ¬ dig b) : decFrom acc (b :: r) = none := by rw [decFrom, dv_no h]
theorem numOf_nil (acc : Nat) : numOf acc [] = acc := rfl
theorem numOf_cons (acc : Nat) (b : UInt8) (r : List UInt8) : numOf acc (b :: r) = numOf (acc * 10 + (b.toNat - 48)) r := by unfold numOf; rw [List.foldl_cons]
theorem decFrom_numOf (l : List UInt8) : ∀ acc : Nat, (∀ b ∈ l, dig b) → decFrom acc l = some (numOf acc l) := by
  induction l with
  | nil => intro acc _; rw [dec_nil, numOf_nil]
  | cons b r ih =>
    intro acc h
    rw [dec_cons acc b r (h b List.mem_cons_self), numOf_cons]
    exact ih _ (fun x hx => h x (List.mem_cons_of_mem _ hx))
theorem decFrom_dig (l : List UInt8) : ∀ acc n : Nat, decFrom acc l = some n → ∀ b ∈ l, dig b := by
  induction l with
  | nil => intro _ _ _ b hb; simp at hb
  | cons a r ih =>
    intro acc n h b hb
    by_cases c : dig a
    · rw [dec_cons acc a r c] at h
      rw [List.mem_cons] at hb
      rcases hb with rfl | hb
      · exact c
      · exact ih _ n h b hb
    · rw [dec_none acc a r c] at h
      cases h
theorem numOf_append (l m : List UInt8) : ∀ acc : Nat, numOf acc (l ++ m) = numOf (numOf acc l) m := by
  induction l with
  | nil => intro acc; rw [List.nil_append, numOf_nil]
  | cons b r ih => intro acc; rw [List.cons_append, numOf_cons, numOf_cons, ih]
theorem numOf_ge (l : List UInt8) : ∀ acc : Nat, acc ≤ numOf acc l := by
  induction l with
  | nil => intro acc; rw [numOf_nil]; exact Nat.le_refl _
  | cons b r ih => intro acc; rw [numOf_cons]; exact Nat.le_trans (by omega) (ih _)
theorem ofNat_dig (d : Nat) (h : d < 10) : (UInt8.ofNat (48 + d)).toNat = 48 + d := by
  show (48 + d) % 256 = 48 + d
  omega
theorem decDigits_dig (n : Nat) : ∀ b ∈ decDigits n, dig b := by
  induction n using Nat.strongRecOn with
  | _ n ih =>
    intro b hb
    rw [decDigits] at hb
    by_cases h : n < 10
    · rw [dif_pos h, List.mem_singleton] at hb
      subst hb
      unfold dig
      rw [ofNat_dig n h]
      omega
    · rw [dif_neg h, List.mem_append, List.mem_singleton] at hb
      rcases hb with hb | rfl
      · exact ih (n / 10) (by omega) b hb
      · unfold dig
        rw [ofNat_dig (n % 10) (by omega)]
        omega
theorem numOf_decDigits (n : Nat) : numOf 0 (decDigits n) = n := by
  induction n using Nat.strongRecOn with
  | _ n ih =>
    rw [decDigits]
    by_cases h : n < 10
    · rw [dif_pos h]
      rw [numOf_cons, numOf_nil]
      rw [ofNat_dig n h]
      omega
    · rw [dif_neg h, numOf_append, ih (n / 10) (by omega)]
      rw [numOf_cons, numOf_nil]
      rw [ofNat_dig (n % 10) (by omega)]
      omega
theorem decDigits_ne (n : Nat) : decDigits n ≠ [] := by
  rw [decDigits]
  by_cases h : n < 10
  · rw [dif_pos h]; simp
  · rw [dif_neg h]; simp
/-- The first digit of a number that is not 0 is no nought. -/
theorem decDigits_head (n : Nat) (hn : n ≠ 0) : ∃ b r, decDigits n = b :: r ∧ b.toNat ≠ 48 := by
  induction n using Nat.strongRecOn with
  | _ n ih =>
    rw [decDigits]
    by_cases h : n < 10
    · rw [dif_pos h]
      exact ⟨_, _, rfl, by rw [ofNat_dig n h]; omega⟩
    · obtain ⟨b, r, e, hb⟩ := ih (n / 10) (by omega) (by omega)
      rw [dif_neg h, e]
      exact ⟨b, _, rfl, hb⟩
/-- Digits without a nought ahead are the numeral of what they spell. -/
theorem decDigits_numOf : ∀ (k : Nat) (l : List UInt8), l.length = k → (∀ b ∈ l, dig b) → (∃ b r, l = b :: r ∧ b.toNat ≠ 48) → decDigits (numOf 0 l) = l := by
  intro k
  induction k with
  | zero => intro l hl _ ⟨b, r, e, _⟩; subst e; simp at hl
  | succ k ih =>
    intro l hl hd hh
    rcases List.eq_nil_or_concat l with rfl | ⟨init, x, rfl⟩
    · simp at hl
    rw [List.concat_eq_append] at hl hd hh ⊢
    have hx : dig x := hd x (by simp)
    have hv : numOf 0 (init ++ [x]) = numOf 0 init * 10 + (x.toNat - 48) := by rw [numOf_append, numOf_cons, numOf_nil]
    have hxe : UInt8.ofNat (48 + (x.toNat - 48)) = x := by
      apply UInt8.toNat_inj.mp
      rw [ofNat_dig _ (by have := hx.2; omega)]
      have := hx.1
      omega
    cases init with
    | nil =>
      rw [hv, numOf_nil]
      have := hx.2
      rw [decDigits, dif_pos (by omega), show 0 * 10 + (x.toNat - 48) = x.toNat - 48 by omega, hxe]
      rfl
    | cons b r =>
      obtain ⟨b', r', e, hb⟩ := hh
      rw [List.cons_append] at e
      obtain ⟨rfl, _⟩ := List.cons.inj e
      have hbd : dig b := hd b (by simp)
      have h1 : 1 ≤ numOf 0 (b :: r) := by
        have := numOf_ge r (0 * 10 + (b.toNat - 48))
        rw [numOf_cons]
        have := hbd.1
        omega
      have := hx.2
      have := hx.1
      rw [hv, decDigits, dif_neg (by omega), show (numOf 0 (b :: r) * 10 + (x.toNat - 48)) / 10 = numOf 0 (b :: r) by omega, show (numOf 0 (b :: r) * 10 + (x.toNat - 48)) % 10 = x.toNat - 48 by omega, hxe, ih (b :: r) (by simpa using hl) (fun z hz => hd z (by rw [List.mem_append]; exact Or.inl hz)) ⟨b, r, rfl, hb⟩]
theorem atoi_dig (l : List UInt8) (hd : ∀ b ∈ l, dig b) (hn : l ≠ []) : atoi l = some ((numOf 0 l : Nat) : Int) := by
  cases l with
  | nil => exact absurd rfl hn
  | cons b r =>
    have hb := hd b List.mem_cons_self
    have h1 : (b == 45) = false := by
      rw [beq_eq_false_iff_ne]
      rintro rfl
      exact absurd hb.1 (by decide)
    have h2 : (b == 43) = false := by
      rw [beq_eq_false_iff_ne]
      rintro rfl
      exact absurd hb.1 (by decide)
    simp only [atoi, h1, h2, Bool.false_eq_true, if_false, decNat, List.isEmpty_cons]
    rw [decFrom_numOf _ _ hd]
    rfl
end Go.Proofs.YtgljgbkbjlondaaDoor.Dg
