/- Whether an attribute is there: the reference's loop tells what the program's search tells. No conditions but the size. -/
import Derived.Test.YtaomfbbbdddlmaaEvBase
import Derived.Test.YtaomfbbbdddlmaaQe27
import Derived.Test.YtaomfbbbdddlmaaQe3
set_option linter.unusedVariables false
set_option linter.unusedSimpArgs false
namespace Go.Proofs.Ytaomfbbbdddlmaa.Hs
open Go.RowKit Go.Proofs.Ytaomfbbbdddlmaa.P Go.Proofs.Ytaomfbbbdddlmaa.Evs Go.Proofs.YtaomfbbbdddlmaaW.PrintWords Go.Proofs.YtaomfbbbdddlmaaW.PrintLast

theorem Has_loop (nm : ByteArray) (l : List S62) (hl : l.length ≤ 1048576) : ∀ (d j : Nat), l.length - j = d → j ≤ l.length → Ev (fun k => spec_l4Has.l0 k l nm j) ((l.drop j).any (hasA nm)) := by
 intro d
 induction d with
 | zero =>
  intro j hd hj
  rw [List.drop_eq_nil_of_le (by omega)]
  refine Ev.here fun k => ?_
  simp only [spec_l4Has.l0]; rw [if_neg (by omega)]; rfl
 | succ d ih =>
  intro j hd hj
  have hjl : j < l.length := by omega
  have hrd : rd_T62 l (j : Int) = l[j] := rdT l _ j hjl
  have hw : wrap64 ((j : Int) + 1) = ((j + 1 : Nat) : Int) := by rw [w64 (by omega) (by omega)]; rfl
  rw [List.drop_eq_getElem_cons hjl, List.any_cons]
  have hstep : ∀ k, spec_l4Has.l0 (k + 1) l nm j = if hasA nm l[j] = true then some true else spec_l4Has.l0 k l nm ((j + 1 : Nat) : Int) := fun k => by
   simp only [spec_l4Has.l0, hrd, hw]
   rw [if_pos (by omega), if_pos (by omega)]
   by_cases c : l[j].f0.toList = nm.toList
   ·rw [if_pos c, if_pos (by unfold hasA; rw [c]; simp)]
   ·rw [if_neg c, if_neg (by unfold hasA; simpa using c)]
  by_cases c : hasA nm l[j] = true
  ·rw [c, Bool.true_or]; exact Ev.here fun k => by rw [hstep, if_pos c]
  ·rw [Bool.eq_false_iff.mpr c, Bool.false_or]; exact Ev.step (fun k => by rw [hstep, if_neg c]) (ih (j + 1) (by omega) (by omega))
theorem Has_tells (nm : ByteArray) (l : List S62) (hl : l.length ≤ 1048576) : Ev (fun k => spec_l4Has.f k l nm) (l.any (hasA nm)) := by
 have h := Has_loop nm l hl l.length 0 (by omega) (by omega)
 rw [List.drop_zero] at h
 exact h
end Go.Proofs.Ytaomfbbbdddlmaa.Hs
