/- Signs of names: the program's IsFirst, IsNext and the reference's tell the same. No conditions. -/
import Derived.Test.YtaomfbbbdddlmaaSignList
import Derived.Test.YtaomfbbbdddlmaaQe2
import Derived.Test.YtaomfbbbdddlmaaQe22
import Derived.Test.YtaomfbbbdddlmaaQe25
set_option linter.unusedVariables false
set_option linter.unusedSimpArgs false
namespace Go.Proofs.Ytaomfbbbdddlmaa.Sg
open Go Go.RowKit Go.Proofs.Ytaomfbbbdddlmaa.P Go.Proofs.Ytaomfbbbdddlmaa.Evs Go.Proofs.YtaomfbbbdddlmaaW.PrintWords Go.Proofs.YtaomfbbbdddlmaaW.PrintLast

theorem IsLetter_same (a : Int) : spec_IsLetter.f a = impl_IsLetter.f a := rfl
theorem IsLetter_tells (a : Int) : ∃ b, impl_IsLetter.f a = some b := by
 unfold impl_IsLetter.f
 rw [inRange_eq, inRange_eq]
 simp only [Option.bind_some]
 split <;> exact ⟨_, rfl⟩
def flI : List (Int × Int) → List Int
 | [] => []
 | p :: ps => p.1 :: p.2 :: flI ps
theorem flI_length : ∀ sp, (flI sp).length = 2 * sp.length
 | [] => rfl
 | p :: ps => by simp only [flI, List.length_cons, flI_length ps]; omega
theorem flI_get : ∀ (sp : List (Int × Int)) (j : Nat) (h : j < sp.length), (flI sp)[2 * j]? = some sp[j].1 ∧ (flI sp)[2 * j + 1]? = some sp[j].2
 | [], _, h => absurd h (by simp)
 | _ :: _, 0, _ => ⟨rfl, rfl⟩
 | p :: ps, j + 1, h => by
  have ih := flI_get ps j (by simpa using h)
  rw [show 2 * (j + 1) = 2 * j + 1 + 1 from by omega]
  exact ⟨by simpa [flI] using ih.1, by simpa [flI] using ih.2⟩
theorem rd_some (xs : List Int) (i : Nat) (v : Int) (h : xs[i]? = some v) : rd xs (i : Int) = v := by
 unfold rd
 rw [Int.toNat_natCast, List.getD_eq_getElem?_getD, h]; rfl
theorem Within_loop (sp : List (Int × Int)) (a : Int) (hsp : sp.length ≤ 100) : ∀ (d j : Nat), sp.length - j = d → j ≤ sp.length →
  Ev (fun k => spec_l2Within.l0 k (flI sp) a ((2 * j : Nat) : Int)) (inSp a (sp.drop j)) := by
 intro d
 have hlen := flI_length sp
 induction d with
 | zero =>
  intro j hd hj
  rw [List.drop_eq_nil_of_le (by omega)]
  refine Ev.here fun k => ?_
  simp only [spec_l2Within.l0]
  rw [w64 (by omega) (by omega), if_neg (by omega)]; rfl
 | succ d ih =>
  intro j hd hj
  have hjl : j < sp.length := by omega
  obtain ⟨g1, g2⟩ := flI_get sp j hjl
  have ih' := ih (j + 1) (by omega) (by omega)
  have hw : wrap64 (((2 * j : Nat) : Int) + 1) = ((2 * j + 1 : Nat) : Int) := by rw [w64 (by omega) (by omega)]; rfl
  have hw2 : wrap64 (((2 * j : Nat) : Int) + 2) = ((2 * (j + 1) : Nat) : Int) := by rw [w64 (by omega) (by omega)]; omega
  have hstep : ∀ k, spec_l2Within.l0 (k + 1) (flI sp) a ((2 * j : Nat) : Int) = if sp[j].1 ≤ a ∧ a ≤ sp[j].2 then some true else spec_l2Within.l0 k (flI sp) a ((2 * (j + 1) : Nat) : Int) := by
   intro k
   simp only [spec_l2Within.l0, hw, hw2, rd_some _ _ _ g1, rd_some _ _ _ g2, l1In_eq, Option.bind_some]
   rw [if_pos (by omega), if_pos (by omega), if_pos (by omega), if_pos (by omega)]
   by_cases c : sp[j].1 ≤ a ∧ a ≤ sp[j].2
   ·rw [if_pos (decide_eq_true c), if_pos c]
   ·rw [if_neg (by rw [decide_eq_true_iff]; exact c), if_neg c]
  rw [inSp_drop a sp j hjl]
  by_cases c : sp[j].1 ≤ a ∧ a ≤ sp[j].2
  ·rw [if_pos c]
   exact Ev.here fun k => by rw [hstep, if_pos c]
  ·rw [if_neg c]
   exact Ev.step (fun k => by rw [hstep, if_neg c]) ih'
theorem Within_tells (sp : List (Int × Int)) (a : Int) (hsp : sp.length ≤ 100) : Ev (fun k => spec_l2Within.f k (flI sp) a) (inSp a sp) := by
 unfold spec_l2Within.f
 exact Within_loop sp a hsp sp.length 0 (by omega) (by omega)
theorem IsFirst_same (a : Int) : ∃ b, Ev (fun k => spec_IsFirst.f k a) b ∧ impl_IsFirst.f a = some b := by
 obtain ⟨t, ht⟩ := IsLetter_tells a
 unfold spec_IsFirst.f impl_IsFirst.f
 rw [IsLetter_same, ht]
 cases t with
 | true => exact ⟨true, Ev.opt rfl (Ev.ite_pos rfl (Ev.now _)), rfl⟩
 | false =>
  by_cases c : a = 95
  ·subst c; exact ⟨true, Ev.opt rfl (Ev.ite_neg (by decide) (Ev.ite_pos rfl (Ev.now _))), rfl⟩
  ·refine ⟨inSp a spansFirst, Ev.opt rfl (Ev.ite_neg (by decide) (Ev.ite_neg c (Ev.bind (Within_tells spansFirst a (by decide)) (Ev.now _)))), ?_⟩
   simp only [Option.bind_some]
   rw [if_neg (by decide), if_neg c]
theorem IsNext_same (a : Int) : ∃ b, Ev (fun k => spec_IsNext.f k a) b ∧ impl_IsNext.f a = some b := by
 obtain ⟨t, h1, h2⟩ := IsFirst_same a
 unfold spec_IsNext.f impl_IsNext.f
 rw [h2]
 cases t with
 | true => exact ⟨true, Ev.bind h1 (Ev.ite_pos rfl (Ev.now _)), rfl⟩
 | false =>
  simp only [Option.bind_some]
  rw [if_neg (by decide)]
  by_cases c1 : a = 45
  ·subst c1; exact ⟨_, Ev.bind h1 (Ev.ite_neg (by decide) (Ev.ite_pos rfl (Ev.now _))), rfl⟩
  by_cases c2 : a = 46
  ·subst c2; exact ⟨_, Ev.bind h1 (Ev.ite_neg (by decide) (Ev.ite_neg c1 (Ev.ite_pos rfl (Ev.now _)))), rfl⟩
  by_cases c3 : a = 183
  ·subst c3; exact ⟨_, Ev.bind h1 (Ev.ite_neg (by decide) (Ev.ite_neg c1 (Ev.ite_neg c2 (Ev.ite_pos rfl (Ev.now _))))), rfl⟩
  refine ⟨inSp a [(48, 57), (768, 879), (8255, 8256)], Ev.bind h1 (Ev.ite_neg (by decide) (Ev.ite_neg c1 (Ev.ite_neg c2 (Ev.ite_neg c3 (Ev.bind (Within_tells [(48, 57), (768, 879), (8255, 8256)] a (by decide)) (Ev.now _)))))), ?_⟩
  congr 1
  simp only [spansNext, inSp]
  rw [if_neg (show ¬ ((45 : Int) ≤ a ∧ a ≤ 46) by omega)]
  by_cases c4 : (48 : Int) ≤ a ∧ a ≤ 57
  ·rw [if_pos c4, if_pos c4]
  ·rw [if_neg c4, if_neg c4, if_neg (show ¬ ((183 : Int) ≤ a ∧ a ≤ 183) by omega)]
end Go.Proofs.Ytaomfbbbdddlmaa.Sg
