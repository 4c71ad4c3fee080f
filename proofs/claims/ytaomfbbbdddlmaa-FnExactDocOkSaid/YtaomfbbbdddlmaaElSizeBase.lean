/- How many an element is: the program's ElSize and the reference's tell the same number. No conditions but the sizes. -/
import Derived.Test.YtaomfbbbdddlmaaEvBase
import Derived.Test.YtaomfbbbdddlmaaQe32
set_option linter.unusedVariables false
set_option linter.unusedSimpArgs false
namespace Go.Proofs.Ytaomfbbbdddlmaa.Le
open Go.RowKit Go.Proofs.Ytaomfbbbdddlmaa.P Go.Proofs.Ytaomfbbbdddlmaa.Evs Go.Proofs.YtaomfbbbdddlmaaW.PrintWords Go.Proofs.YtaomfbbbdddlmaaW.PrintLast

theorem ElSize_loop (y : S48) (hlen : y.f5.length ≤ 1048576)
  (hx : ∀ z ∈ y.f5, ∃ r, Ev (fun k => spec_ElSize.f k z.f0 z.f1 z.f2 z.f3 z.f4 z.f5) r ∧ Ev (fun k => impl_ElSize.f k z.f0 z.f1 z.f2 z.f3 z.f4 z.f5) r) :
  ∀ (d i : Nat) (acc : Int), y.f5.length - i = d → i ≤ y.f5.length →
  ∃ r, Ev (fun k => spec_ElSize.l0 k acc i y.f0 y.f1 y.f2 y.f3 y.f4 y.f5) r ∧ Ev (fun k => impl_ElSize.l0 k acc y.f5 y.f5.length i) r := by
 intro d
 induction d with
 | zero =>
  intro i acc hd hi
  refine ⟨acc, Ev.here fun k => ?_, Ev.here fun k => ?_⟩
  ·simp only [spec_ElSize.l0]; rw [if_neg (by omega)]
  ·simp only [impl_ElSize.l0]; rw [if_neg (by omega)]
 | succ d ih =>
  intro i acc hd hi
  have hil : i < y.f5.length := by omega
  obtain ⟨t, e1, e2⟩ := hx y.f5[i] (List.getElem_mem hil)
  have hrd : rd_T48 y.f5 (i : Int) = y.f5[i] := rdT y.f5 _ i hil
  obtain ⟨r, er1, er2⟩ := ih (i + 1) (wrap64 (acc + t)) (by omega) (by omega)
  have e1' := w64 (i := (i : Int) + 1) (by omega) (by omega)
  refine ⟨r, ?_, ?_⟩
  ·refine Ev.step (f := fun k => (spec_ElSize.f k y.f5[i].f0 y.f5[i].f1 y.f5[i].f2 y.f5[i].f3 y.f5[i].f4 y.f5[i].f5).bind fun t121 => (spec_ElSize.l0 k (wrap64 (acc + t121)) (wrap64 ((i : Int) + 1)) y.f0 y.f1 y.f2 y.f3 y.f4 y.f5)) (fun k => ?_) (Ev.bind e1 ?_)
   ·simp only [spec_ElSize.l0]; rw [if_pos (by omega), if_pos (by omega), hrd]
   ·rw [e1', show ((i : Int) + 1) = ((i + 1 : Nat) : Int) from rfl]; exact er1
  ·refine Ev.step (f := fun k => (impl_ElSize.f k y.f5[i].f0 y.f5[i].f1 y.f5[i].f2 y.f5[i].f3 y.f5[i].f4 y.f5[i].f5).bind fun t183 => (impl_ElSize.l0 k (wrap64 (acc + t183)) y.f5 (y.f5.length : Int) (wrap64 ((i : Int) + 1)))) (fun k => ?_) (Ev.bind e2 ?_)
   ·simp only [impl_ElSize.l0]; rw [if_pos (by omega), if_pos (by omega), if_pos (by omega), hrd]
   ·rw [e1', show ((i : Int) + 1) = ((i + 1 : Nat) : Int) from rfl]; exact er2

theorem ElSize_same : ∀ (m : Nat) (y : S48), G48 1048576 m y → ∃ r, Ev (fun k => spec_ElSize.f k y.f0 y.f1 y.f2 y.f3 y.f4 y.f5) r ∧ Ev (fun k => impl_ElSize.f k y.f0 y.f1 y.f2 y.f3 y.f4 y.f5) r := by
 intro m
 induction m with
 | zero => intro y hy; exact hy.elim
 | succ m ih =>
  intro y hy
  obtain ⟨_, _, _, _, _, hl5, hg5⟩ := hy
  obtain ⟨r, e1, e2⟩ := ElSize_loop y hl5 (fun z hz => ih z (hg5 z hz)) y.f5.length 0 1 (by omega) (by omega)
  exact ⟨r, Ev.step (fun k => by simp only [spec_ElSize.f]; rfl) e1, Ev.step (fun k => by simp only [impl_ElSize.f]; rfl) e2⟩

end Go.Proofs.Ytaomfbbbdddlmaa.Le
