/- The program's Clean, CleanOk and the reference's tell the same. No conditions but the size. -/
import Derived.Test.YtaomfbbbdddlmaaSignList
import Derived.Test.YtaomfbbbdddlmaaQs31
import Derived.Test.YtaomfbbbdddlmaaQs7
set_option linter.unusedVariables false
set_option linter.unusedSimpArgs false
namespace Go.Proofs.Ytaomfbbbdddlmaa.Sg
open Go Go.RowKit Go.Proofs.Ytaomfbbbdddlmaa.P Go.Proofs.Ytaomfbbbdddlmaa.Evs Go.Proofs.YtaomfbbbdddlmaaW.PrintWords Go.Proofs.YtaomfbbbdddlmaaW.PrintLast

theorem Clean_same (s : ByteArray) (hs : s.size ≤ 1048576) : ∃ t : ByteArray, Ev (fun k => spec_Clean.f k s) t ∧ Ev (fun k => impl_Clean.f k s) t ∧ t.size ≤ 4 * s.size := by
 obtain ⟨l, e1, e2, hl⟩ := Signs_same s hs
 obtain ⟨t, f1, f2, ht⟩ := SignText_same l (by omega)
 exact ⟨t, Ev.bind e1 (Ev.bind f1 (Ev.now t)), Ev.bind e2 (Ev.bind f2 (Ev.now t)), by omega⟩
theorem CleanOk_same (s : ByteArray) (hs : s.size ≤ 1048576) : ∃ b : Bool, Ev (fun k => spec_CleanOk.f k s) b ∧ Ev (fun k => impl_CleanOk.f k s) b := by
 obtain ⟨t, e1, e2, _⟩ := Clean_same s hs
 exact ⟨_, Ev.bind e1 (Ev.now _), Ev.bind e2 (Ev.now _)⟩

end Go.Proofs.Ytaomfbbbdddlmaa.Sg
