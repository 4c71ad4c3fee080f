/- The order of a tree by numbers: the program's stack and the reference's recursion tell the same. No conditions but the sizes. -/
import Derived.Test.YtgljgbkbjlondaaTreeLinks
import Derived.Test.YtgljgbkbjlondaaPl13
import Derived.Test.YtgljgbkbjlondaaPl4
set_option linter.unusedVariables false
set_option linter.unusedSimpArgs false
namespace Go.Proofs.Ytgljgbkbjlondaa.Tr
open Go.RowKit Go.Proofs.Ytgljgbkbjlondaa.P Go.Proofs.Ytgljgbkbjlondaa.Evs Go.Proofs.YtgljgbkbjlondaaW.PrintWords Go.Proofs.YtgljgbkbjlondaaW.PrintLast

def ints (s : List Nat) : List Int := s.map fun n : Nat => (n : Int)
theorem ints_length (a : List Nat) : (ints a).length = a.length := List.length_map _
theorem kids_ints {L : List S50} (h : LinksP L) {i : Nat} (hi : i < L.length) : (it L i).f6 = ints (kd L i) := by
 unfold ints kd
 rw [List.map_map]
 have : ∀ x, x ∈ (it L i).f6 → ((fun n : Nat => (n : Int)) ∘ Int.toNat) x = id x := fun x hx => by
  have := ((h i hi).2 x hx).1
  simp only [Function.comp, id]
  omega
 rw [List.map_congr_left this, List.map_id]
def nums (out : List (Nat × Nat)) : List Int := ints (out.map Prod.fst)
theorem nums_length (out : List (Nat × Nat)) : (nums out).length = out.length := by unfold nums; rw [ints_length, List.length_map]
theorem nums_cons (i d : Nat) (a b : List (Nat × Nat)) : nums ((i, d) :: (a ++ b)) = (i : Int) :: (nums a ++ nums b) := by
 unfold nums
 rw [List.map_cons, List.map_append]
 simp [ints]

theorem push (L : List S50) (hL : Small L) (i : Nat) (hi : i < L.length) (out : List Int) (r : List Int) : ∀ (j : Nat) (st : List Int), j ≤ (it L i).f6.length → st.length + j < 17592186044416 →
  Ev (fun k => impl_order.l0 k L out (st ++ ((it L i).f6.take j).reverse)) r → Ev (fun k => impl_order.l1 k L out st i ((j : Int) - 1)) r := by
 have hL1 := hL.1
 have hs := (it_small hL hi).2
 intro j
 induction j with
 | zero =>
  intro st _ _ h
  rw [List.take_zero, List.reverse_nil, List.append_nil] at h
  refine Ev.step (fun k => ?_) h
  simp only [impl_order.l1]; rw [if_neg (by omega)]
 | succ j ih =>
  intro st hj hl h
  have hjl : j < (it L i).f6.length := by omega
  have h2 := ih (st ++ [(it L i).f6[j]]) (by omega) (by rw [List.length_append, List.length_singleton]; omega) (by
   rw [List.take_succ_eq_append_getElem hjl, List.reverse_append] at h
   rw [List.append_assoc]
   exact h)
  refine Ev.step (fun k => ?_) h2
  have hr : rd (rd_T50 L (i : Int)).f6 ((j : Int)) = (it L i).f6[j] := rdI _ j hjl
  have hjl' : j < (rd_T50 L (i : Int)).f6.length := hjl
  have e1 : (((j + 1 : Nat) : Int) - 1) = (j : Int) := by omega
  simp only [impl_order.l1, e1, hr]
  rw [if_pos (by omega), if_pos (by omega), if_pos (by omega), if_pos (by omega), if_pos (by omega), if_pos (by omega), w64 (i := (j : Int) - 1) (by omega) (by omega)]
theorem Order_imp (L : List S50) (hL : Small L) (hk : LinksP L) (r : List Int) {d : Nat} {s : List Nat} {out : List (Nat × Nat)} (h : Pre (kd L) d s out) : (∀ k, k ∈ s → k < L.length) → ∀ (acc rest : List Int),
  acc.length + out.length ≤ 17592186044415 → rest.length + out.length ≤ 17592186044415 → Ev (fun k => impl_order.l0 k L (acc ++ nums out) rest) r → Ev (fun k => impl_order.l0 k L acc (rest ++ (ints s).reverse)) r := by
 have hL1 := hL.1
 induction h with
 | nil d =>
  intro _ acc rest _ _ h
  simpa [nums, ints] using h
 | @cons d i s a b h1 h2 ih1 ih2 =>
  intro hs acc rest ha hr h
  have hi := hs i List.mem_cons_self
  have hki : ∀ k, k ∈ kd L i → k < L.length := fun k hk' => by
   unfold kd at hk'
   obtain ⟨x, hx, rfl⟩ := List.mem_map.mp hk'
   have := ((hk i hi).2 x hx)
   unfold KidOk at this
   omega
  have l1 := Pre_len h1
  have l2 := Pre_len h2
  rw [List.length_cons, List.length_append] at ha hr
  have hs1 := (it_small hL hi).2
  have e3 : (ints (kd L i)).length = (it L i).f6.length := by rw [← kids_ints hk hi]
  rw [ints_length] at e3
  have e4 : rest ++ (ints (i :: s)).reverse = (rest ++ (ints s).reverse) ++ [(i : Int)] := by simp [ints]
  rw [e4]
  rw [nums_cons] at h
  have g2 := ih2 (fun k hk' => hs k (List.mem_cons_of_mem _ hk')) (acc ++ [(i : Int)] ++ nums a) rest (by simp only [List.length_append, nums_length, List.length_singleton]; omega) (by omega) (by simpa using h)
  have g1 := ih1 hki (acc ++ [(i : Int)]) (rest ++ (ints s).reverse) (by simp only [List.length_append, List.length_singleton]; omega) (by simp only [List.length_append, List.length_reverse, ints_length]; omega) g2
  have g0 := push L hL i hi (acc ++ [(i : Int)]) r (it L i).f6.length (rest ++ (ints s).reverse) (Nat.le_refl _) (by simp only [List.length_append, List.length_reverse, ints_length]; omega) (by
   rw [List.take_length, kids_ints hk hi]; exact g1)
  have hlen : (((rest ++ (ints s).reverse) ++ [(i : Int)]).length : Int) = (((rest ++ (ints s).reverse).length : Nat) : Int) + 1 := by rw [List.length_append, List.length_singleton]; rfl
  have hb : (rest ++ (ints s).reverse).length ≤ 17592186044416 := by simp only [List.length_append, List.length_reverse, ints_length]; omega
  have hw : wrap64 ((((rest ++ (ints s).reverse) ++ [(i : Int)]).length : Int) - 1) = (((rest ++ (ints s).reverse).length : Nat) : Int) := by rw [hlen, w64 (by omega) (by omega)]; omega
  have hrd : rd ((rest ++ (ints s).reverse) ++ [(i : Int)]) (((rest ++ (ints s).reverse).length : Nat) : Int) = (i : Int) := by
   rw [rdI _ _ (by rw [List.length_append (bs := [(i : Int)]), List.length_singleton]; omega)]
   simp
  refine Ev.step (fun k => ?_) g0
  simp only [impl_order.l0, hw, hrd, Int.toNat_natCast]
  rw [List.take_left, hlen]
  rw [if_pos (by omega), if_pos (by omega), if_pos (by omega), if_pos (by omega), if_pos (by omega), if_pos (by omega), if_pos (by omega)]
  change impl_order.l1 k L (acc ++ [(i : Int)]) (rest ++ (ints s).reverse) i (wrap64 (((it L i).f6.length : Int) - 1)) = _
  rw [w64 (by omega) (by omega)]
theorem Order_spec (L : List S50) (hL : Small L) (hk : LinksP L) {d : Nat} {s : List Nat} {out : List (Nat × Nat)} (h : Pre (kd L) d s out) : ∀ (i j : Nat) (acc : List Int), i < L.length → (kd L i).drop j = s →
  acc.length + out.length ≤ L.length → Ev (fun k => spec_l6Order.l0 k L i acc j) (acc ++ nums out) := by
 have hL1 := hL.1
 induction h with
 | nil d =>
  intro i j acc hi hd _
  have hj : (kd L i).length ≤ j := List.drop_eq_nil_iff.mp hd
  have e3 : (kd L i).length = (it L i).f6.length := List.length_map _
  have e4 : (rd_T50 L (i : Int)).f6.length ≤ j := by rw [e3] at hj; exact hj
  simp only [nums, ints, List.map_nil, List.append_nil]
  refine Ev.here fun k => ?_
  simp only [spec_l6Order.l0]
  rw [if_pos (by omega), if_pos (by omega), if_neg (by omega)]
 | @cons d x s a b h1 h2 ih1 ih2 =>
  intro i j acc hi hd hl
  rw [List.length_cons, List.length_append] at hl
  have e3 : (kd L i).length = (it L i).f6.length := List.length_map _
  have hj : j < (kd L i).length := by
   rcases Nat.lt_or_ge j (kd L i).length with q | q
   ·exact q
   ·rw [List.drop_eq_nil_of_le q] at hd; exact absurd hd (by simp)
  have hj2 : j < (it L i).f6.length := by omega
  have hj3 : j < (rd_T50 L (i : Int)).f6.length := hj2
  have hs1 := (it_small hL hi).2
  rw [List.drop_eq_getElem_cons hj] at hd
  obtain ⟨hx, hs⟩ := List.cons.inj hd
  have hget : (it L i).f6[j] = (x : Int) := by
   have : (kd L i)[j] = ((it L i).f6[j]).toNat := List.getElem_map _
   have h0 := ((hk i hi).2 _ (List.getElem_mem hj2)).1
   omega
  have hxl : x < L.length := by
   have := ((hk i hi).2 _ (List.getElem_mem hj2)).2.1
   omega
  have hrd : rd (rd_T50 L (i : Int)).f6 (j : Int) = (x : Int) := by
   have : rd (it L i).f6 (j : Int) = (x : Int) := by rw [rdI _ j hj2]; exact hget
   exact this
  have g1 := ih1 x 0 (acc ++ [(x : Int)]) hxl (by rw [List.drop_zero]) (by rw [List.length_append, List.length_singleton]; omega)
  have g2 := ih2 i (j + 1) (acc ++ [(x : Int)] ++ nums a) hi hs (by simp only [List.length_append, List.length_singleton, nums_length]; omega)
  have f1 : Ev (fun k => spec_l6Order.f k L x acc) (acc ++ [(x : Int)] ++ nums a) := by
   refine Ev.step (fun k => ?_) g1
   simp only [spec_l6Order.f]
   rw [if_neg (by omega), if_pos (by omega)]
   rfl
  have e5 : acc ++ nums ((x, d) :: (a ++ b)) = acc ++ [(x : Int)] ++ nums a ++ nums b := by rw [nums_cons]; simp
  rw [e5]
  refine Ev.step (f := fun k => (spec_l6Order.f k L x acc).bind fun t => spec_l6Order.l0 k L i t ((j + 1 : Nat) : Int)) (fun k => ?_) (Ev.bind f1 g2)
  simp only [spec_l6Order.l0, hrd, succ64 (show j < 9223372036854775807 by omega)]
  rw [if_pos (by omega), if_pos (by omega), if_pos (by omega), if_pos (by omega)]
/-- All in order: one list, told by both. -/
structure Walk (L : List S50) (out : List (Nat × Nat)) : Prop where
 pre : Pre (kd L) 0 [0] out
 once : (out.map Prod.fst).Nodup
 all : ∀ p, p ∈ out → p.1 < L.length ∧ At (upp L) p.2 p.1
 len : out.length ≤ L.length
theorem Order_tells (L : List S50) (hL : Small L) (h1 : 1 ≤ L.length) (hk : LinksP L) : ∃ out, Walk L out ∧ Ev (fun k => impl_order.f k L) (nums out) ∧ Ev (fun k => spec_l6Order.f k L 0 []) (nums out) := by
 have hL1 := hL.1
 obtain ⟨out, p1, p2, p3, p4⟩ := Pre_root (Links_ok L h1 hk)
 refine ⟨out, ⟨p1, p2, p3, p4⟩, ?_, ?_⟩
 ·have h0 : ∀ k, k ∈ [0] → k < L.length := fun k hk' => by
   obtain rfl : k = 0 := by simpa using hk'
   exact h1
  have h := Order_imp L hL hk (nums out) p1 h0 [] [] (by simp only [List.length_nil]; omega) (by simp only [List.length_nil]; omega) (Ev.here fun k => by simp only [impl_order.l0, List.nil_append]; rw [if_neg (by simp)])
  exact h
 ·cases p1 with
  | @cons _ _ _ a b q1 q2 =>
   cases q2 with
   | nil =>
    rw [List.length_cons, List.append_nil] at p4
    have g := Order_spec L hL hk q1 0 0 [(0 : Int)] (by omega) (by rw [List.drop_zero]) (by rw [List.length_singleton]; omega)
    rw [nums_cons]
    have e : (0 : Int) :: (nums a ++ nums []) = [(0 : Int)] ++ nums a := by simp [nums, ints]
    refine Ev.cast (Ev.step (fun k => ?_) g) e.symm
    simp only [spec_l6Order.f]
    rw [if_neg (by simp only [List.length_nil]; omega), if_pos (by simp)]
    rfl
end Go.Proofs.Ytgljgbkbjlondaa.Tr
