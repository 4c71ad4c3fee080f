/- How deep a tree is: the program's depths and the reference's l11Deep tell the same. No conditions but the sizes. -/
import Derived.Test.YtfjheckgigppiaaTreeOkBase
import Derived.Test.YtfjheckgigppiaaPd4
import Derived.Test.YtfjheckgigppiaaPd9
namespace Go.Proofs.Ytfjheckgigppiaa.Tr
open Go.RowKit Go.Proofs.Ytfjheckgigppiaa.P Go.Proofs.Ytfjheckgigppiaa.Evs Go.Proofs.YtfjheckgigppiaaW.PrintWords Go.Proofs.YtfjheckgigppiaaW.PrintLast

/-- The list of depths, written over another one. -/
def fin (arr : List Int) (out : List (Nat × Nat)) : List Int := out.foldl (fun a p => a.set p.1 ((p.2 + 1 : Nat) : Int)) arr
theorem fin_append (arr : List Int) (a b : List (Nat × Nat)) : fin arr (a ++ b) = fin (fin arr a) b := List.foldl_append
theorem fin_length (out : List (Nat × Nat)) : ∀ arr, (fin arr out).length = arr.length := by
  induction out with
  | nil => intro arr; rfl
  | cons p t ih => intro arr; exact (ih _).trans (List.length_set)
theorem fin_other (out : List (Nat × Nat)) : ∀ (arr : List Int) (x : Nat), x ∉ out.map Prod.fst → (fin arr out)[x]? = arr[x]? := by
  induction out with
  | nil => intro arr x _; rfl
  | cons p t ih =>
    intro arr x hx
    rw [List.map_cons, List.mem_cons, not_or] at hx
    have e : (fin arr (p :: t))[x]? = (arr.set p.1 ((p.2 + 1 : Nat) : Int))[x]? := ih _ x hx.2
    rw [e, List.getElem?_set_ne (fun q => hx.1 q.symm)]
theorem fin_at (out : List (Nat × Nat)) : ∀ (arr : List Int), (out.map Prod.fst).Nodup → (∀ p, p ∈ out → p.1 < arr.length) → ∀ p, p ∈ out → (fin arr out)[p.1]? = some ((p.2 + 1 : Nat) : Int) := by
  induction out with
  | nil => intro arr _ _ p hp; exact absurd hp List.not_mem_nil
  | cons q t ih =>
    intro arr hn hl p hp
    rw [List.map_cons, List.nodup_cons] at hn
    rcases List.mem_cons.mp hp with e | hp
    · subst e
      have e : (fin arr (p :: t))[p.1]? = (arr.set p.1 ((p.2 + 1 : Nat) : Int))[p.1]? := fin_other t _ _ hn.1
      rw [e, List.getElem?_set_self (hl p List.mem_cons_self)]
    · exact ih _ hn.2 (fun p hp => by rw [List.length_set]; exact hl p (List.mem_cons_of_mem _ hp)) p hp
theorem rd_of {xs : List Int} {x : Nat} {v : Int} (h : xs[x]? = some v) : rd xs (x : Int) = v := by
  obtain ⟨hx, e⟩ := List.getElem?_eq_some_iff.mp h
  rw [rdI _ x hx, e]
theorem get_of {xs : List Int} {x : Nat} {v : Int} (hx : x < xs.length) (h : rd xs (x : Int) = v) : xs[x]? = some v := by
  rw [rdI _ x hx] at h
  rw [List.getElem?_eq_getElem hx, h]
theorem Dep_go (L : List S70) (hL : Small L) (hk : LinksP L) (O : List Int) (hO : O.length ≤ 1048576) (r : List Int) {d : Nat} {s : List Nat} {out : List (Nat × Nat)} (h : Pre (kd L) d s out) : ∀ (q p : Nat) (arr rest : List Int), q < L.length →
    (∀ k, k ∈ s → k < L.length ∧ 1 ≤ k ∧ (it L k).f5 = q) → (∀ e, e ∈ out → e.1 < L.length ∧ e.2 ≤ 1048576) → (out.map Prod.fst).Nodup → q ∉ out.map Prod.fst → arr.length = L.length → O.drop p = nums out ++ rest → rd arr (q : Int) = d →
    Ev (fun k => impl_depths.l0 k L (fin arr out) O O.length ((p + out.length : Nat) : Int)) r → Ev (fun k => impl_depths.l0 k L arr O O.length (p : Int)) r := by
  have hL1 := hL.1
  induction h with
  | nil d => intro q p arr rest _ _ _ _ _ _ _ _ h; exact h
  | @cons d i s a b h1 h2 ih1 ih2 =>
    intro q p arr rest hq hs hb hn hqn ha hO2 hrq h
    obtain ⟨hi, hi1, hup⟩ := hs i List.mem_cons_self
    rw [List.map_cons, List.map_append, List.nodup_cons, List.nodup_append] at hn
    obtain ⟨hin, hna, hnb, _⟩ := hn
    rw [List.map_cons, List.map_append, List.mem_cons, not_or, List.mem_append, not_or] at hqn
    rw [nums_cons] at hO2
    have hp : p < O.length := by
      rcases Nat.lt_or_ge p O.length with z | z
      · exact z
      · rw [List.drop_eq_nil_of_le z] at hO2; exact absurd hO2 (by simp)
    rw [List.drop_eq_getElem_cons hp] at hO2
    obtain ⟨e1, e2⟩ := List.cons.inj hO2
    replace e2 : O.drop (p + 1) = nums a ++ (nums b ++ rest) := e2.trans (List.append_assoc _ _ _)
    have hid : d ≤ 1048576 := (hb (i, d) List.mem_cons_self).2
    have hrd : rd O (p : Int) = (i : Int) := by rw [rdI _ p hp]; exact e1
    have hki : ∀ k, k ∈ kd L i → k < L.length ∧ 1 ≤ k ∧ (it L k).f5 = i := fun k hk' => by
      obtain ⟨x, hx, rfl⟩ := List.mem_map.mp hk'
      obtain ⟨z1, z2, z3⟩ := (hk i hi).2 x hx
      refine ⟨by omega, by omega, ?_⟩
      rw [it_toNat L (by omega)]; exact z3
    have hsi : rd (arr.set i ((d + 1 : Nat) : Int)) (i : Int) = ((d + 1 : Nat) : Int) := rd_of (List.getElem?_set_self (by omega))
    rw [List.mem_append, not_or] at hin
    have g2 := ih2 q (p + 1 + a.length) (fin (arr.set i ((d + 1 : Nat) : Int)) a) rest hq (fun k hk' => hs k (List.mem_cons_of_mem _ hk')) (fun e he => hb e (List.mem_cons_of_mem _ (List.mem_append_right _ he))) hnb hqn.2.2 (by rw [fin_length, List.length_set]; exact ha)
      (by
        rw [show p + 1 + a.length = (p + 1) + (nums a).length by rw [nums_length], ← List.drop_drop, e2, List.drop_left])
      (by
        apply rd_of
        rw [fin_other _ _ _ hqn.2.1, List.getElem?_set_ne (fun z => hqn.1 z.symm)]
        exact get_of (by omega) hrq)
      (by
        have e : fin arr ((i, d) :: (a ++ b)) = fin (fin (arr.set i ((d + 1 : Nat) : Int)) a) b := by
          rw [← fin_append]; rfl
        rw [e, List.length_cons, List.length_append] at h
        rw [show p + 1 + a.length + b.length = p + (a.length + b.length + 1) by omega]
        exact h)
    have g1 := ih1 i (p + 1) (arr.set i ((d + 1 : Nat) : Int)) (nums b ++ rest) hi hki (fun e he => hb e (List.mem_cons_of_mem _ (List.mem_append_left _ he))) hna hin.1 (by rw [List.length_set]; exact ha) e2 hsi g2
    refine Ev.step (fun k => ?_) g1
    have hup' : (rd_T70 L (i : Int)).f5 = (q : Int) := hup
    have hss : rd (arr.set i 1) (q : Int) = (d : Int) := by
      apply rd_of
      rw [List.getElem?_set_ne (fun z => hqn.1 z.symm)]
      exact get_of (by omega) hrq
    simp only [impl_depths.l0, hrd, hup', Option.bind_some, Int.toNat_natCast, succ64 (show p < 9223372036854775807 by omega), hss]
    rw [if_pos (by omega), if_pos (by omega), if_pos (by omega), if_pos (by omega), if_pos (by omega), if_pos (by omega), if_pos (by omega), if_pos (by omega), if_pos (by omega), List.set_set, succ64 (by omega)]
theorem Depths_tells (L : List S70) (hL : Small L) (h1 : 1 ≤ L.length) (hk : LinksP L) (out : List (Nat × Nat)) (w : Walk L out) : Ev (fun k => impl_depths.f k L) (fin (List.replicate L.length 0) out) := by
  have hL1 := hL.1
  obtain ⟨out2, w2, eo, _⟩ := Order_tells L hL h1 hk
  obtain rfl := Pre_uniq w.pre _ w2.pre
  unfold impl_depths.f
  refine Ev.ite_pos (by omega) (Ev.ite_pos (by omega) (Ev.bind eo ?_))
  rw [Int.toNat_natCast]
  have hb : ∀ e, e ∈ out → e.1 < L.length ∧ e.2 ≤ 1048576 := fun e he => by
    obtain ⟨q1, q2⟩ := w.all e he
    have := At_lt (Links_ok L h1 hk) q2 q1
    exact ⟨q1, by omega⟩
  have hlen := nums_length out
  have hll := w.len
  have hon := w.once
  obtain ⟨hp, _, _, _⟩ := w
  cases hp with
  | @cons _ _ _ a b q1 q2 =>
    cases q2 with
    | nil =>
      rw [List.append_nil] at *
      rw [List.map_cons, List.nodup_cons] at hon
      rw [List.length_cons] at hlen hll
      have hki : ∀ k, k ∈ kd L 0 → k < L.length ∧ 1 ≤ k ∧ (it L k).f5 = (0 : Nat) := fun k hk' => by
        obtain ⟨x, hx, rfl⟩ := List.mem_map.mp hk'
        obtain ⟨z1, z2, z3⟩ := (hk 0 (by omega)).2 x hx
        refine ⟨by omega, by omega, ?_⟩
        rw [it_toNat L (by omega)]; exact z3
      have hO : nums ((0, 0) :: a) = (0 : Int) :: nums a := by simp [nums, ints]
      have g := Dep_go L hL hk (nums ((0, 0) :: a)) (by omega) (fin (List.replicate L.length 0) ((0, 0) :: a)) q1 0 1 ((List.replicate L.length 0).set 0 ((1 : Nat) : Int)) [] (by omega) hki (fun e he => hb e (List.mem_cons_of_mem _ he)) hon.2 hon.1 (by simp) (by rw [hO]; simp) (rd_of (List.getElem?_set_self (by simp; omega)))
        (Ev.here fun k => by
          simp only [impl_depths.l0]; rw [if_neg (by omega)]; rfl)
      refine Ev.step (fun k => ?_) g
      simp only [impl_depths.l0, hO]
      have hr0 : rd ((0 : Int) :: nums a) 0 = 0 := rfl
      simp only [hr0, Option.bind_some]
      rw [if_pos (by simp only [List.length_cons]; omega), if_pos (by omega), if_pos (by simp only [List.length_cons]; omega), if_pos (by omega), if_pos (by simp; omega), if_neg (by omega), w64 (i := (0 : Int) + 1) (by omega) (by omega)]
      rfl
theorem Deep_loop (A : List Int) (hA : A.length ≤ 1048576) (M : Int) : ∀ (d j : Nat) (m : Int), A.length - j = d → j ≤ A.length → (∀ x, x ∈ A → x ≤ M) → m ≤ M → (m = M ∨ M ∈ A.drop j) → Ev (fun k => impl_Deep.l0 k m A A.length j) M := by
  intro d
  induction d with
  | zero =>
    intro j m hd hj ha hm h
    rw [List.drop_eq_nil_of_le (by omega)] at h
    obtain rfl : m = M := h.resolve_right List.not_mem_nil
    refine Ev.here fun k => ?_
    simp only [impl_Deep.l0]; rw [if_neg (by omega)]
  | succ d ih =>
    intro j m hd hj ha hm h
    have hjl : j < A.length := by omega
    have hx := ha _ (List.getElem_mem hjl)
    have hmx : mx m A[j] ≤ M ∧ m ≤ mx m A[j] ∧ A[j] ≤ mx m A[j] := by unfold mx; omega
    have g := ih (j + 1) (mx m A[j]) (by omega) (by omega) ha hmx.1 (by
      rw [List.drop_eq_getElem_cons hjl, List.mem_cons] at h
      rcases h with e | e | e
      · exact Or.inl (by omega)
      · exact Or.inl (by omega)
      · exact Or.inr e)
    refine Ev.step (fun k => ?_) g
    simp only [impl_Deep.l0, rdI A j hjl, succ64 (show j < 9223372036854775807 by omega)]
    rw [if_pos (by omega), if_pos (by omega), if_pos (by omega)]
theorem impl_deep (L : List S70) (hL : Small L) (out : List (Nat × Nat)) (h : Right L) (w : Walk L out) : Ev (fun k => impl_Deep.f k L) ((most out : Nat) : Int) := by
  have hL1 := hL.1
  have h1 := h.1.1
  have hk := h.2.2.2.1
  unfold impl_Deep.f
  refine Ev.bind ((impl_tells L hL).1 h) (Ev.ite_pos rfl (Ev.bind (Depths_tells L hL h1 hk out w) ?_))
  have hfl : (fin (List.replicate L.length 0) out).length = L.length := by rw [fin_length, List.length_replicate]
  have hat := fin_at out (List.replicate L.length 0) w.once (fun p hp => by rw [List.length_replicate]; exact (w.all p hp).1)
  have hne : out ≠ [] := by
    intro e
    have := w.pre
    rw [e] at this
    cases this
  refine Deep_loop _ (by omega) _ (fin (List.replicate L.length 0) out).length 0 0 (by omega) (by omega) (fun x hx => ?_) (by omega) (Or.inr ?_)
  · obtain ⟨j, hj, rfl⟩ := List.getElem_of_mem hx
    by_cases c : j ∈ out.map Prod.fst
    · obtain ⟨p, hp, e⟩ := List.mem_map.mp c
      have g := hat p hp
      rw [e, List.getElem?_eq_getElem hj] at g
      rw [Option.some.inj g]
      have := most_ge hp
      omega
    · have g := fin_other out (List.replicate L.length 0) j c
      rw [List.getElem?_eq_getElem hj, List.getElem?_replicate, if_pos (by omega)] at g
      rw [Option.some.inj g]
      omega
  · rw [List.drop_zero]
    obtain ⟨p, hp, e⟩ := most_mem hne
    rw [e]
    exact List.mem_of_getElem? (hat p hp)
theorem spec_deep_go (L : List S70) (hL : Small L) (hk : LinksP L) {d : Nat} {s : List Nat} {out : List (Nat × Nat)} (h : Pre (kd L) d s out) : ∀ (i j acc : Nat), i < L.length → (kd L i).drop j = s → acc ≤ 1048576 → most out ≤ 1048576 →
    Ev (fun k => spec_l11Deep.l0 k L i acc j) ((max acc (most out - d) + 1 : Nat) : Int) := by
  have hL1 := hL.1
  induction h with
  | nil d =>
    intro i j acc hi hd ha _
    have hj : (kd L i).length ≤ j := List.drop_eq_nil_iff.mp hd
    have e3 : (kd L i).length = (it L i).f6.length := List.length_map _
    have e4 : (rd_T70 L (i : Int)).f6.length ≤ j := by rw [e3] at hj; exact hj
    refine Ev.cast (Ev.here fun k => ?_) (show ((acc + 1 : Nat) : Int) = _ by simp [most])
    simp only [spec_l11Deep.l0]
    rw [if_pos (by omega), if_pos (by omega), if_neg (by omega), succ64 (by omega)]
  | @cons d x s a b h1 h2 ih1 ih2 =>
    intro i j acc hi hd ha hm
    rw [most, most_append] at hm
    have m1 := Pre_most h1
    have e3 : (kd L i).length = (it L i).f6.length := List.length_map _
    have hj : j < (kd L i).length := by
      rcases Nat.lt_or_ge j (kd L i).length with q | q
      · exact q
      · rw [List.drop_eq_nil_of_le q] at hd; exact absurd hd (by simp)
    have hj2 : j < (it L i).f6.length := by omega
    have hj3 : j < (rd_T70 L (i : Int)).f6.length := hj2
    have hs1 := (it_small hL hi).2
    rw [List.drop_eq_getElem_cons hj] at hd
    obtain ⟨hx, hs⟩ := List.cons.inj hd
    obtain ⟨z1, z2, _⟩ := (hk i hi).2 _ (List.getElem_mem hj2)
    have hget : (it L i).f6[j] = (x : Int) := by
      have : (kd L i)[j] = ((it L i).f6[j]).toNat := List.getElem_map _
      omega
    have hxl : x < L.length := by omega
    have hrd : rd (rd_T70 L (i : Int)).f6 (j : Int) = (x : Int) := by
      have : rd (it L i).f6 (j : Int) = (x : Int) := by rw [rdI _ j hj2]; exact hget
      exact this
    have g1 := ih1 x 0 0 hxl (by rw [List.drop_zero]) (by omega) (by omega)
    have f1 : Ev (fun k => spec_l11Deep.f k L x) ((max 0 (most a - (d + 1)) + 1 : Nat) : Int) := Ev.step (fun k => by simp only [spec_l11Deep.f]; rfl) g1
    have g2 := ih2 i (j + 1) (max acc (max 0 (most a - (d + 1)) + 1)) hi hs (by omega) (by omega)
    have hmax : ∀ k : Nat, spec_l1Max.f (acc : Int) ((max 0 (most a - (d + 1)) + 1 : Nat) : Int) = some ((max acc (max 0 (most a - (d + 1)) + 1) : Nat) : Int) := fun _ => by
      unfold spec_l1Max.f
      by_cases c : acc > max 0 (most a - (d + 1)) + 1
      · rw [if_pos (by omega)]
        exact congrArg (fun n : Nat => some (n : Int)) (by omega)
      · rw [if_neg (by omega)]
        exact congrArg (fun n : Nat => some (n : Int)) (by omega)
    refine Ev.cast (Ev.step (f := fun k => (spec_l11Deep.f k L x).bind fun t156 => ((spec_l1Max.f acc t156).bind fun t157 => (spec_l11Deep.l0 k L i t157 ((j + 1 : Nat) : Int)))) (fun k => ?_) (Ev.bind f1 (Ev.opt (hmax 0) g2))) (congrArg Int.ofNat (by rw [most, most_append]; omega))
    simp only [spec_l11Deep.l0, hrd, succ64 (show j < 9223372036854775807 by omega)]
    rw [if_pos (by omega), if_pos (by omega), if_pos (by omega), if_pos (by omega)]
theorem Deep_same (L : List S70) (hL : Small L) : ∃ v : Int, Ev (fun k => spec_Deep.f k L) v ∧ Ev (fun k => impl_Deep.f k L) v := by
  by_cases h : Right L
  · obtain ⟨out, w, _⟩ := h.2.2.2.2
    have hl := w.len
    have hp := w.pre
    refine ⟨_, ?_, impl_deep L hL out h w⟩
    unfold spec_Deep.f
    refine Ev.bind ((spec_tells L hL).1 h) (Ev.ite_pos rfl ?_)
    have hm : most out ≤ 1048576 := by
      have hne : out ≠ [] := by intro e; rw [e] at hp; cases hp
      obtain ⟨p, hp, e⟩ := most_mem hne
      obtain ⟨q1, q2⟩ := w.all p hp
      have := At_lt (Links_ok L h.1.1 h.2.2.2.1) q2 q1
      have := hL.1
      omega
    cases hp with
    | @cons _ _ _ a b q1 q2 =>
      cases q2 with
      | nil =>
        rw [List.append_nil] at *
        rw [most] at hm
        have g := spec_deep_go L hL h.2.2.2.1 q1 0 0 0 h.1.1 (by rw [List.drop_zero]) (by omega) (by omega)
        have f : Ev (fun k => spec_l11Deep.f k L 0) ((max 0 (most a - (0 + 1)) + 1 : Nat) : Int) := Ev.step (fun k => by simp only [spec_l11Deep.f]; rfl) g
        have m1 := Pre_most q1
        exact Ev.bind f (Ev.const fun _ => congrArg (fun n : Nat => some (n : Int)) (by rw [most]; omega))
  · refine ⟨0, ?_, ?_⟩
    · unfold spec_Deep.f; exact Ev.bind ((spec_tells L hL).2 h) (Ev.ite_neg Bool.false_ne_true (Ev.const fun _ => rfl))
    · unfold impl_Deep.f; exact Ev.bind ((impl_tells L hL).2 h) (Ev.ite_neg Bool.false_ne_true (Ev.const fun _ => rfl))
end Go.Proofs.Ytfjheckgigppiaa.Tr
