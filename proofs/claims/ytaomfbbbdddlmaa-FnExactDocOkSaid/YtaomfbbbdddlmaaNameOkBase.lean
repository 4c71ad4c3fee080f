/- The program's NameOk and the reference's tell the same. No conditions but the size. -/
import Derived.Test.YtaomfbbbdddlmaaNameSigns
import Derived.Test.YtaomfbbbdddlmaaCleanBase
import Derived.Test.YtaomfbbbdddlmaaQe26
import Derived.Test.YtaomfbbbdddlmaaQe3
set_option linter.unusedVariables false
set_option linter.unusedSimpArgs false
namespace Go.Proofs.Ytaomfbbbdddlmaa.Sg
open Go.RowKit Go.Proofs.Ytaomfbbbdddlmaa Go.Proofs.Ytaomfbbbdddlmaa.P Go.Proofs.Ytaomfbbbdddlmaa.Evs Go.Proofs.YtaomfbbbdddlmaaW.PrintWords Go.Proofs.YtaomfbbbdddlmaaW.PrintLast

theorem NameOk_loop (s : ByteArray) (l : List Int) (hs : s.size ≤ 1048576) (hl : l.length ≤ 1048576) : ∀ (d j : Nat), l.length - j = d → j ≤ l.length →
  ∃ b, Ev (fun k => spec_NameOk.l0 k s l j) b ∧ Ev (fun k => impl_NameOk.l0 k s l l.length j) b := by
 intro d
 induction d with
 | zero =>
  intro j hd hj
  obtain ⟨b, e1, e2⟩ := CleanOk_same s hs
  by_cases c : s.toList = []
  ·refine ⟨false, Ev.here fun k => ?_, Ev.here fun k => ?_⟩
   ·simp only [spec_NameOk.l0]; rw [if_neg (by omega), if_pos c]
   ·simp only [impl_NameOk.l0]; rw [if_neg (by omega), if_pos c]
  ·refine ⟨b, ?_, ?_⟩
   ·exact Ev.step (fun k => by simp only [spec_NameOk.l0]; rw [if_neg (by omega), if_neg c]) (Ev.bind e1 (Ev.now _))
   ·exact Ev.step (fun k => by simp only [impl_NameOk.l0]; rw [if_neg (by omega), if_neg c]) (Ev.bind e2 (Ev.now _))
 | succ d ih =>
  intro j hd hj
  have hjl : j < l.length := by omega
  obtain ⟨t, ht1, ht2⟩ := IsFirst_same l[j]
  obtain ⟨u, hu1, hu2⟩ := IsNext_same l[j]
  obtain ⟨b, e1, e2⟩ := ih (j + 1) (by omega) (by omega)
  have hw : wrap64 ((j : Int) + 1) = ((j + 1 : Nat) : Int) := by rw [w64 (by omega) (by omega)]; rfl
  have next : ∃ b, Ev (fun k => (spec_IsNext.f k l[j]).bind fun t => if t = true then spec_NameOk.l0 k s l ((j + 1 : Nat) : Int) else some false) b ∧ Ev (fun k => (impl_IsNext.f l[j]).bind fun t => if t = true then impl_NameOk.l0 k s l l.length ((j + 1 : Nat) : Int) else some false) b := by
   by_cases c : u = true
   ·exact ⟨b, Ev.bind hu1 (Ev.ite_pos c e1), Ev.opt hu2 (Ev.ite_pos c e2)⟩
   ·exact ⟨false, Ev.bind hu1 (Ev.ite_neg c (Ev.now _)), Ev.opt hu2 (Ev.ite_neg c (Ev.now _))⟩
  obtain ⟨b', n1, n2⟩ := next
  by_cases c0 : (j : Int) = 0
  ·by_cases c : t = true
   ·refine ⟨b', ?_, ?_⟩
    ·refine Ev.step (fun k => by simp only [spec_NameOk.l0, hw]; rw [if_pos (by omega), if_pos c0, if_pos (by omega), rdI l j hjl]) (Ev.bind ht1 (Ev.ite_pos c n1))
    ·refine Ev.step (fun k => by simp only [impl_NameOk.l0, hw]; rw [if_pos (by omega), if_pos (by omega), if_pos (by omega), if_pos c0, rdI l j hjl]) (Ev.opt ht2 (Ev.ite_pos c n2))
   ·refine ⟨false, ?_, ?_⟩
    ·refine Ev.step (fun k => by simp only [spec_NameOk.l0, hw]; rw [if_pos (by omega), if_pos c0, if_pos (by omega), rdI l j hjl]) (Ev.bind ht1 (Ev.ite_neg c (Ev.now _)))
    ·refine Ev.step (fun k => by simp only [impl_NameOk.l0, hw]; rw [if_pos (by omega), if_pos (by omega), if_pos (by omega), if_pos c0, rdI l j hjl]) (Ev.opt ht2 (Ev.ite_neg c (Ev.now _)))
  ·refine ⟨b', ?_, ?_⟩
   ·refine Ev.step (fun k => by simp only [spec_NameOk.l0, hw]; rw [if_pos (by omega), if_neg c0, if_pos (by omega), rdI l j hjl]) n1
   ·refine Ev.step (fun k => by simp only [impl_NameOk.l0, hw]; rw [if_pos (by omega), if_pos (by omega), if_pos (by omega), if_neg c0, rdI l j hjl]) n2
theorem NameOk_same (s : ByteArray) (hs : s.size ≤ 1048576) : ∃ b, Ev (fun k => spec_NameOk.f k s) b ∧ Ev (fun k => impl_NameOk.f k s) b := by
 obtain ⟨l, e1, e2, hl⟩ := Signs_same s hs
 obtain ⟨b, h1, h2⟩ := NameOk_loop s l hs (by omega) l.length 0 (by omega) (by omega)
 exact ⟨b, Ev.bind e1 h1, Ev.bind e2 h2⟩
end Go.Proofs.Ytaomfbbbdddlmaa.Sg
