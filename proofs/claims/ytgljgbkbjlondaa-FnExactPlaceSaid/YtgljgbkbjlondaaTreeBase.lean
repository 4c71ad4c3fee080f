/- Trees given by numbers: each number but 0 stands once among the kids of the one above it. What is reached from 0, in order, each with its depth: it ends, no number comes twice. Over no program. No conditions. -/
import Init
set_option linter.unusedVariables false
set_option linter.unusedSimpArgs false
namespace Go.Proofs.Ytgljgbkbjlondaa.Tr

/-- Of the list s at a depth: all that stands under it, in order, each with its depth. -/
inductive Pre (kids : Nat → List Nat) : Nat → List Nat → List (Nat × Nat) → Prop
 | nil (d : Nat) : Pre kids d [] []
 | cons {d i : Nat} {s : List Nat} {a b : List (Nat × Nat)} (h1 : Pre kids (d + 1) (kids i) a) (h2 : Pre kids d s b) : Pre kids d (i :: s) ((i, d) :: (a ++ b))
/-- A number stands at a depth. -/
def At (up : Nat → Nat) : Nat → Nat → Prop
 | 0, k => k = 0
 | d + 1, k => k ≠ 0 ∧ At up d (up k)
def upN (up : Nat → Nat) : Nat → Nat → Nat
 | 0, k => k
 | d + 1, k => up (upN up d k)
structure Ok (n : Nat) (kids : Nat → List Nat) (up : Nat → Nat) : Prop where
 pos : 0 < n
 kid : ∀ i, i < n → ∀ k, k ∈ kids i → k ≠ 0 ∧ k < n ∧ up k = i
 once : ∀ i, i < n → (kids i).Nodup
 mem : ∀ k, k ≠ 0 → k < n → up k < n ∧ k ∈ kids (up k)

theorem At_uniq {up : Nat → Nat} : ∀ {d e k : Nat}, At up d k → At up e k → d = e
 | 0, 0, _, _, _ => rfl
 | 0, _ + 1, _, h, h' => absurd h h'.1
 | _ + 1, 0, _, h, h' => absurd h' h.1
 | _ + 1, _ + 1, _, h, h' => congrArg Nat.succ (At_uniq h.2 h'.2)
theorem nodup_le : ∀ (n : Nat) (l : List Nat), l.Nodup → (∀ x, x ∈ l → x < n) → l.length ≤ n
 | 0, l, _, h => by
  cases l with
  | nil => exact Nat.le_refl _
  | cons a l => exact absurd (h a List.mem_cons_self) (Nat.not_lt_zero _)
 | n + 1, l, hn, h => by
  have h1 := nodup_le n (l.erase n) (hn.erase n) (fun x hx => by
   have h2 := h x (List.mem_of_mem_erase hx)
   have h3 : x ≠ n := fun e => by subst e; exact hn.not_mem_erase hx
   omega)
  rw [List.length_erase] at h1
  split at h1 <;> omega
def chain (up : Nat → Nat) : Nat → Nat → List Nat
 | 0, k => [k]
 | d + 1, k => k :: chain up d (up k)
theorem chain_at {up : Nat → Nat} : ∀ {d k : Nat}, At up d k → ∀ x, x ∈ chain up d k → ∃ e, e ≤ d ∧ At up e x
 | 0, k, h, x, hx => by
  obtain rfl : x = k := by simpa [chain] using hx
  exact ⟨0, Nat.le_refl _, h⟩
 | d + 1, k, h, x, hx => by
  rcases List.mem_cons.mp hx with e | hx
  ·subst e; exact ⟨d + 1, Nat.le_refl _, h⟩
  ·obtain ⟨e, he, ha⟩ := chain_at h.2 x hx
   exact ⟨e, by omega, ha⟩
theorem chain_nodup {up : Nat → Nat} : ∀ {d k : Nat}, At up d k → (chain up d k).Nodup
 | 0, k, _ => by simp [chain]
 | d + 1, k, h => by
  refine List.nodup_cons.mpr ⟨fun hx => ?_, chain_nodup h.2⟩
  obtain ⟨e, he, ha⟩ := chain_at h.2 k hx
  have := At_uniq ha h
  omega
theorem chain_length (up : Nat → Nat) : ∀ (d k : Nat), (chain up d k).length = d + 1
 | 0, _ => rfl
 | d + 1, k => by rw [chain, List.length_cons, chain_length]
theorem chain_lt {n : Nat} {kids : Nat → List Nat} {up : Nat → Nat} (ok : Ok n kids up) : ∀ {d k : Nat}, At up d k → k < n → ∀ x, x ∈ chain up d k → x < n
 | 0, k, _, hk, x, hx => by
  obtain rfl : x = k := by simpa [chain] using hx
  exact hk
 | d + 1, k, h, hk, x, hx => by
  rcases List.mem_cons.mp hx with e | hx
  ·subst e; exact hk
  ·exact chain_lt ok h.2 (ok.mem k h.1 hk).1 x hx
theorem At_lt {n : Nat} {kids : Nat → List Nat} {up : Nat → Nat} (ok : Ok n kids up) {d k : Nat} (h : At up d k) (hk : k < n) : d < n := by
 have h1 := nodup_le n _ (chain_nodup h) (chain_lt ok h hk)
 rw [chain_length] at h1
 omega
theorem kids_at {n : Nat} {kids : Nat → List Nat} {up : Nat → Nat} (ok : Ok n kids up) {d i : Nat} (h : At up d i) (hi : i < n) : ∀ k, k ∈ kids i → k < n ∧ At up (d + 1) k := fun k hk => by
 obtain ⟨h0, h1, h2⟩ := ok.kid i hi k hk
 exact ⟨h1, h0, by rw [h2]; exact h⟩
theorem Pre_ex {n : Nat} {kids : Nat → List Nat} {up : Nat → Nat} (ok : Ok n kids up) : ∀ (f d : Nat) (s : List Nat), n ≤ d + f → (∀ k, k ∈ s → k < n ∧ At up d k) → ∃ out, Pre kids d s out
 | 0, d, s, hf, hs => by
  cases s with
  | nil => exact ⟨[], .nil d⟩
  | cons i s =>
   have := At_lt ok (hs i List.mem_cons_self).2 (hs i List.mem_cons_self).1
   omega
 | f + 1, d, s, hf, hs => by
  induction s with
  | nil => exact ⟨[], .nil d⟩
  | cons i s ih =>
   obtain ⟨b, hb⟩ := ih fun k hk => hs k (List.mem_cons_of_mem _ hk)
   have hi := hs i List.mem_cons_self
   obtain ⟨a, ha⟩ := Pre_ex ok f (d + 1) (kids i) (by omega) (kids_at ok hi.2 hi.1)
   exact ⟨_, .cons ha hb⟩
theorem Pre_facts {n : Nat} {kids : Nat → List Nat} {up : Nat → Nat} (ok : Ok n kids up) {d : Nat} {s : List Nat} {out : List (Nat × Nat)} (h : Pre kids d s out) :
  (∀ k, k ∈ s → k < n ∧ At up d k) → s.Nodup → (out.map Prod.fst).Nodup ∧ ∀ p, p ∈ out → p.1 < n ∧ d ≤ p.2 ∧ At up p.2 p.1 ∧ upN up (p.2 - d) p.1 ∈ s := by
 induction h with
 | nil d => exact fun _ _ => ⟨List.nodup_nil, fun p hp => absurd hp List.not_mem_nil⟩
 | @cons d i s a b h1 h2 ih1 ih2 =>
  intro hs hn
  obtain ⟨hi1, hi2⟩ := hs i List.mem_cons_self
  obtain ⟨hni, hns⟩ := List.nodup_cons.mp hn
  obtain ⟨na, fa⟩ := ih1 (kids_at ok hi2 hi1) (ok.once i hi1)
  obtain ⟨nb, fb⟩ := ih2 (fun k hk => hs k (List.mem_cons_of_mem _ hk)) hns
  have ga : ∀ p, p ∈ a → upN up (p.2 - d) p.1 = i ∧ d + 1 ≤ p.2 := fun p hp => by
   obtain ⟨_, q2, _, q4⟩ := fa p hp
   have e := (ok.kid i hi1 _ q4).2.2
   refine ⟨?_, q2⟩
   rw [show p.2 - d = (p.2 - (d + 1)) + 1 by omega]
   exact e
  refine ⟨?_, fun p hp => ?_⟩
  ·rw [List.map_cons, List.map_append, List.nodup_cons]
   refine ⟨fun hx => ?_, ?_⟩
   ·rcases List.mem_append.mp hx with hx | hx
    ·obtain ⟨p, hp, e⟩ := List.mem_map.mp hx
     obtain ⟨_, q2, q3, _⟩ := fa p hp
     rw [e] at q3
     have := At_uniq q3 hi2
     omega
    ·obtain ⟨p, hp, e⟩ := List.mem_map.mp hx
     obtain ⟨_, q2, q3, q4⟩ := fb p hp
     rw [e] at q3 q4
     have := At_uniq q3 hi2
     rw [this, Nat.sub_self] at q4
     exact hni q4
   ·rw [List.nodup_append]
    refine ⟨na, nb, fun x hx y hy e => ?_⟩
    subst e
    obtain ⟨p, hp, e1⟩ := List.mem_map.mp hx
    obtain ⟨q, hq, e2⟩ := List.mem_map.mp hy
    obtain ⟨_, _, p3, _⟩ := fa p hp
    obtain ⟨_, _, q3, q4⟩ := fb q hq
    rw [e1] at p3
    rw [e2] at q3 q4
    have e3 := At_uniq p3 q3
    have := (ga p hp).1
    rw [e1, e3] at this
    rw [this] at q4
    exact hni q4
  ·rcases List.mem_cons.mp hp with e | hp
   ·subst e
    exact ⟨hi1, Nat.le_refl _, hi2, by rw [Nat.sub_self]; exact List.mem_cons_self⟩
   ·rcases List.mem_append.mp hp with hp | hp
    ·obtain ⟨q1, q2, q3, q4⟩ := fa p hp
     exact ⟨q1, by omega, q3, by rw [(ga p hp).1]; exact List.mem_cons_self⟩
    ·obtain ⟨q1, q2, q3, q4⟩ := fb p hp
     exact ⟨q1, q2, q3, List.mem_cons_of_mem _ q4⟩
/-- All that is reached from 0. -/
theorem Pre_root {n : Nat} {kids : Nat → List Nat} {up : Nat → Nat} (ok : Ok n kids up) : ∃ out, Pre kids 0 [0] out ∧ (out.map Prod.fst).Nodup ∧ (∀ p, p ∈ out → p.1 < n ∧ At up p.2 p.1) ∧ out.length ≤ n := by
 have h0 : ∀ k, k ∈ [0] → k < n ∧ At up 0 k := fun k hk => by
  obtain rfl : k = 0 := by simpa using hk
  exact ⟨ok.pos, rfl⟩
 obtain ⟨out, h⟩ := Pre_ex ok n 0 [0] (by omega) h0
 obtain ⟨h1, h2⟩ := Pre_facts ok h h0 (by simp)
 refine ⟨out, h, h1, fun p hp => ⟨(h2 p hp).1, (h2 p hp).2.2.1⟩, ?_⟩
 have h3 := nodup_le n _ h1 (fun x hx => by
  obtain ⟨p, hp, e⟩ := List.mem_map.mp hx
  rw [← e]; exact (h2 p hp).1)
 rwa [List.length_map] at h3
theorem Pre_len {kids : Nat → List Nat} {d : Nat} {s : List Nat} {out : List (Nat × Nat)} (h : Pre kids d s out) : s.length ≤ out.length := by
 induction h with
 | nil => exact Nat.le_refl _
 | cons _ _ _ ih => rw [List.length_cons, List.length_cons, List.length_append]; omega
theorem Pre_uniq {kids : Nat → List Nat} {d : Nat} {s : List Nat} {o1 : List (Nat × Nat)} (h : Pre kids d s o1) : ∀ o2, Pre kids d s o2 → o1 = o2 := by
 induction h with
 | nil d => intro o2 h2; cases h2; rfl
 | cons _ _ ih1 ih2 =>
  intro o2 h2
  cases h2 with
  | cons q1 q2 => rw [ih1 _ q1, ih2 _ q2]
/-- The greatest depth, counted from 1. -/
def most : List (Nat × Nat) → Nat
 | [] => 0
 | p :: t => max (p.2 + 1) (most t)
theorem most_append : ∀ (a b : List (Nat × Nat)), most (a ++ b) = max (most a) (most b)
 | [], b => by simp [most]
 | p :: t, b => by rw [List.cons_append, most, most, most_append t b, Nat.max_assoc]
theorem most_ge : ∀ {l : List (Nat × Nat)} {p : Nat × Nat}, p ∈ l → p.2 + 1 ≤ most l
 | q :: t, p, h => by
  rw [most]
  rcases List.mem_cons.mp h with e | h
  ·subst e; omega
  ·have := most_ge h; omega
theorem most_mem : ∀ {l : List (Nat × Nat)}, l ≠ [] → ∃ p, p ∈ l ∧ most l = p.2 + 1
 | [], h => absurd rfl h
 | q :: t, _ => by
  by_cases ht : t = []
  ·subst ht; exact ⟨q, List.mem_cons_self, by simp [most]⟩
  ·obtain ⟨p, hp, e⟩ := most_mem ht
   rw [most]
   by_cases c : q.2 + 1 ≤ most t
   ·exact ⟨p, List.mem_cons_of_mem _ hp, by omega⟩
   ·exact ⟨q, List.mem_cons_self, by omega⟩
end Go.Proofs.Ytgljgbkbjlondaa.Tr
