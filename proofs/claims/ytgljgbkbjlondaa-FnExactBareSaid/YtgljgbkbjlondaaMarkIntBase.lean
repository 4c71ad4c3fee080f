/- Marks: the laws' own code writes numbers that count up into a row: it ends. No conditions but the sizes. -/
import Derived.Test.YtgljgbkbjlondaaLoopBase
import Derived.Test.YtgljgbkbjlondaaPb6
set_option linter.unusedVariables false
set_option linter.unusedSimpArgs false
namespace Go.Proofs.Ytgljgbkbjlondaa.Mk
open Go.RowKit Go.Proofs.Ytgljgbkbjlondaa.P Go.Proofs.Ytgljgbkbjlondaa.Evs Go.Proofs.YtgljgbkbjlondaaW.PrintWords Go.Proofs.YtgljgbkbjlondaaW.PrintLast

def mis (k0 n : Nat) : List Int := (List.range n).map fun i : Nat => ((k0 + i : Nat) : Int)
theorem mis_length (k0 n : Nat) : (mis k0 n).length = n := by simp [mis]
theorem mis_get (k0 n i : Nat) (h : i < (mis k0 n).length) : (mis k0 n)[i] = ((k0 + i : Nat) : Int) := by simp [mis]
theorem markIntS_loop (l : List Int) (k0 : Nat) (hl : l.length ≤ 1048576) (hk : k0 ≤ 1152921504600000000) : ∀ (d j : Nat), l.length - j = d → j ≤ l.length →
  Ev (fun k => laws_markIntS.l0 k (mis k0 j ++ l.drop j) ((k0 + j : Nat) : Int) j) (((k0 + l.length : Nat) : Int), mis k0 l.length) := by
 intro d
 induction d with
 | zero =>
  intro j hd hj
  obtain rfl : j = l.length := by omega
  rw [List.drop_length, List.append_nil]
  refine Ev.here fun k => ?_
  simp only [laws_markIntS.l0]
  rw [if_neg (by rw [mis_length]; omega)]
 | succ d ih =>
  intro j hd hj
  have hjl : j < l.length := by omega
  have hlen : (mis k0 j ++ l.drop j).length = l.length := by rw [List.length_append, mis_length, List.length_drop]; omega
  have w1 : wrap64 (((k0 + j : Nat) : Int) + 1) = ((k0 + (j + 1) : Nat) : Int) := succ64 (by omega)
  have w2 : wrap64 ((j : Int) + 1) = ((j + 1 : Nat) : Int) := succ64 (by omega)
  have hst : (mis k0 j ++ l.drop j).set j ((k0 + j : Nat) : Int) = mis k0 (j + 1) ++ l.drop (j + 1) := by
   rw [List.set_append_right _ _ (by rw [mis_length]; exact Nat.le_refl _), mis_length, Nat.sub_self, List.drop_eq_getElem_cons hjl, List.set_cons_zero]
   simp [mis, List.range_succ]
  refine Ev.step (fun k => ?_) (ih (j + 1) (by omega) (by omega))
  simp only [laws_markIntS.l0, w1, w2, Int.toNat_natCast, hst]
  rw [if_pos (by rw [hlen]; omega), if_pos (Int.natCast_nonneg j)]
theorem markIntS_tells (l : List Int) (k0 : Nat) (hl : l.length ≤ 1048576) (hk : k0 ≤ 1152921504600000000) : Ev (fun k => laws_markIntS.f k l k0) (((k0 + l.length : Nat) : Int), mis k0 l.length) := by
 have h := markIntS_loop l k0 hl hk l.length 0 (by omega) (by omega)
 rw [List.drop_zero] at h
 exact h
end Go.Proofs.Ytgljgbkbjlondaa.Mk
