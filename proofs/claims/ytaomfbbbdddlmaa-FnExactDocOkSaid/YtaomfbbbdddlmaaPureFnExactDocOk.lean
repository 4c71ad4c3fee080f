/- A strict document: the program's DocOk and the reference's tell the same: the pure statement of the law FnExactDocOk. No conditions but the row's. -/
import Derived.Test.YtaomfbbbdddlmaaElOkBase
import Derived.Test.YtaomfbbbdddlmaaElTree
import Derived.Test.YtaomfbbbdddlmaaElSizeBase
import Derived.Test.YtaomfbbbdddlmaaQe32
import Derived.Test.YtaomfbbbdddlmaaQe33
set_option linter.unusedVariables false
set_option linter.unusedSimpArgs false
namespace Go.Proofs.Ytaomfbbbdddlmaa.Pure
open Go.RowKit Go.Proofs.Ytaomfbbbdddlmaa.P Go.Proofs.Ytaomfbbbdddlmaa.Evs Go.Proofs.Ytaomfbbbdddlmaa.Le Go.Proofs.YtaomfbbbdddlmaaW.PrintWords Go.Proofs.YtaomfbbbdddlmaaW.PrintLast

theorem DocOk_loop (m : Nat) (hm : m ≤ 1048577) (xs : List S48) (hlen : xs.length ≤ 1048576) (hx : ∀ y ∈ xs, G48 1048576 m y) : ∀ (d i a : Nat) (b : Int), xs.length - i = d → i ≤ xs.length → a ≤ i →
  ∃ v : Bool, Ev (fun k => spec_DocOk.l0 k xs a b i) v ∧ Ev (fun k => impl_DocOk.l0 k a b xs xs.length i) v := by
 intro d
 induction d with
 | zero =>
  intro i a b hd hi ha
  by_cases c : (a : Int) = 1
  ·exact ⟨decide (b ≤ 3000), Ev.here fun k => by simp only [spec_DocOk.l0]; rw [if_neg (by omega), if_pos c], Ev.here fun k => by simp only [impl_DocOk.l0]; rw [if_neg (by omega), if_pos c]⟩
  ·exact ⟨false, Ev.here fun k => by simp only [spec_DocOk.l0]; rw [if_neg (by omega), if_neg c], Ev.here fun k => by simp only [impl_DocOk.l0]; rw [if_neg (by omega), if_neg c]⟩
 | succ d ih =>
  intro i a b hd hi ha
  have hil : i < xs.length := by omega
  have hrd : rd_T48 xs (i : Int) = xs[i] := rdT xs _ i hil
  obtain ⟨o, eo1, eo2⟩ := ElOk_same m xs[i] (hx _ (List.getElem_mem hil)) hm
  obtain ⟨s, es1, es2⟩ := ElSize_same m xs[i] (hx _ (List.getElem_mem hil))
  have sS : ∀ k, spec_DocOk.l0 (k + 1) xs a b i = (spec_ElOk.f k xs[i].f0 xs[i].f1 xs[i].f2 xs[i].f3 xs[i].f4 xs[i].f5).bind fun t432 => (if t432 = true then (spec_DocOk.j1 k xs a b i (xs[i].f0 == 2)) else (spec_DocOk.j1 k xs a b i true)) := fun k => by
   simp only [spec_DocOk.l0, hrd]; rw [if_pos (by omega), if_pos (by omega)]
  have sI : ∀ k, impl_DocOk.l0 (k + 1) a b xs xs.length i = (impl_ElOk.f k xs[i].f0 xs[i].f1 xs[i].f2 xs[i].f3 xs[i].f4 xs[i].f5).bind fun t444 => (if t444 = true then (impl_DocOk.j1 k a b xs xs.length i (xs[i].f0 == 2) xs[i].f0 xs[i].f1 xs[i].f2 xs[i].f3 xs[i].f4 xs[i].f5) else (impl_DocOk.j1 k a b xs xs.length i true xs[i].f0 xs[i].f1 xs[i].f2 xs[i].f3 xs[i].f4 xs[i].f5)) := fun k => by
   simp only [impl_DocOk.l0, hrd]; rw [if_pos (by omega), if_pos (by omega), if_pos (by omega)]
  have no1 : Ev (fun k => spec_DocOk.j1 k xs a b i true) false := Ev.here fun k => by simp only [spec_DocOk.j1]; rw [if_pos True.intro]
  have no2 : Ev (fun k => impl_DocOk.j1 k a b xs xs.length i true xs[i].f0 xs[i].f1 xs[i].f2 xs[i].f3 xs[i].f4 xs[i].f5) false := Ev.here fun k => by simp only [impl_DocOk.j1]; rw [if_pos True.intro]
  cases o with
  | false => exact ⟨false, Ev.step sS (Ev.bind eo1 (Ev.ite_neg Bool.false_ne_true no1)), Ev.step sI (Ev.bind eo2 (Ev.ite_neg Bool.false_ne_true no2))⟩
  | true =>
   by_cases c2 : xs[i].f0 = 2
   ·have e : (xs[i].f0 == 2) = true := beq_iff_eq.mpr c2
    rw [e] at sS sI
    exact ⟨false, Ev.step sS (Ev.bind eo1 (Ev.ite_pos rfl no1)), Ev.step sI (Ev.bind eo2 (Ev.ite_pos rfl no2))⟩
   ·have e : (xs[i].f0 == 2) = false := beq_eq_false_iff_ne.mpr c2
    rw [e] at sS sI
    have hw := succ64 (show i < 9223372036854775807 by omega)
    by_cases c1 : xs[i].f0 = 1
    ·obtain ⟨v, v1, v2⟩ := ih (i + 1) (a + 1) (wrap64 (b + s)) (by omega) (by omega) (by omega)
     have ha1 : wrap64 ((a : Int) + 1) = ((a + 1 : Nat) : Int) := succ64 (by omega)
     refine ⟨v, Ev.step sS (Ev.bind eo1 (Ev.ite_pos rfl ?_)), Ev.step sI (Ev.bind eo2 (Ev.ite_pos rfl ?_))⟩
     ·refine Ev.step (f := fun k => (spec_ElSize.f k xs[i].f0 xs[i].f1 xs[i].f2 xs[i].f3 xs[i].f4 xs[i].f5).bind fun t437 => (spec_DocOk.l0 k xs ((a + 1 : Nat) : Int) (wrap64 (b + t437)) ((i + 1 : Nat) : Int))) (fun k => ?_) (Ev.bind es1 v1)
      simp only [spec_DocOk.j1, hrd, hw, spec_l1Bit.f]
      rw [if_neg Bool.false_ne_true, if_pos (by omega), if_pos (by omega), if_pos (beq_iff_eq.mpr c1)]
      simp only [Option.bind_some, ha1]
     ·refine Ev.step (f := fun k => (impl_ElSize.f k xs[i].f0 xs[i].f1 xs[i].f2 xs[i].f3 xs[i].f4 xs[i].f5).bind fun t445 => (impl_DocOk.l0 k ((a + 1 : Nat) : Int) (wrap64 (b + t445)) xs xs.length ((i + 1 : Nat) : Int))) (fun k => ?_) (Ev.bind es2 v2)
      simp only [impl_DocOk.j1, hw, ha1]
      rw [if_neg Bool.false_ne_true, if_pos c1]
    ·obtain ⟨v, v1, v2⟩ := ih (i + 1) a (wrap64 (b + s)) (by omega) (by omega) (by omega)
     have ha1 : wrap64 ((a : Int) + 0) = (a : Int) := by rw [w64 (by omega) (by omega), Int.add_zero]
     refine ⟨v, Ev.step sS (Ev.bind eo1 (Ev.ite_pos rfl ?_)), Ev.step sI (Ev.bind eo2 (Ev.ite_pos rfl ?_))⟩
     ·refine Ev.step (f := fun k => (spec_ElSize.f k xs[i].f0 xs[i].f1 xs[i].f2 xs[i].f3 xs[i].f4 xs[i].f5).bind fun t437 => (spec_DocOk.l0 k xs (a : Int) (wrap64 (b + t437)) ((i + 1 : Nat) : Int))) (fun k => ?_) (Ev.bind es1 v1)
      simp only [spec_DocOk.j1, hrd, hw, spec_l1Bit.f]
      rw [if_neg Bool.false_ne_true, if_pos (by omega), if_pos (by omega), if_neg (by rw [beq_iff_eq]; exact c1)]
      simp only [Option.bind_some, ha1]
     ·refine Ev.step (f := fun k => (impl_ElSize.f k xs[i].f0 xs[i].f1 xs[i].f2 xs[i].f3 xs[i].f4 xs[i].f5).bind fun t445 => (impl_DocOk.l0 k (a : Int) (wrap64 (b + t445)) xs xs.length ((i + 1 : Nat) : Int))) (fun k => ?_) (Ev.bind es2 v2)
      simp only [impl_DocOk.j1, hw]
      rw [if_neg Bool.false_ne_true, if_neg c1]
theorem eqElS_self (m : Nat) (xs : List S48) (hlen : xs.length ≤ 1048576) (hx : ∀ y ∈ xs, G48 1048576 m y) : Ev (fun k => laws_eqElS.f k xs xs) true := by
 refine Ev.step (f := fun k => laws_eqElS.l0 k xs xs 0) (fun k => ?_) (eqElS_loop xs hlen (fun z hz => eqEl_self m z (hx z hz)) xs.length 0 (by omega) (by omega))
 simp only [laws_eqElS.f, if_true]
theorem FnExactDocOk : laws_FnExactDocOk.Pure := by
 intro n l ⟨h1, h2⟩
 suffices h : Ev (fun k => laws_FnExactDocOk.f k l) true from h.rounds
 unfold laws_FnExactDocOk.f
 obtain ⟨t, et, _, _, tq⟩ := szElS_tells n l 1048576 h1 h2 (by omega) (by omega)
 by_cases c : t < 0
 ·exact Ev.bind et (Ev.ite_pos c (Ev.now _))
 obtain ⟨q1, q2⟩ := tq (by omega)
 obtain ⟨r, er, hr, gr⟩ := toElS_tells _ l q1 q2
 obtain ⟨v, v1, v2⟩ := DocOk_loop _ (by omega) r (by omega) gr r.length 0 0 0 (by omega) (by omega) (by omega)
 have e1 : Ev (fun k => spec_DocOk.f k r) v := v1
 have e2 : Ev (fun k => impl_DocOk.f k r) v := v2
 exact Ev.bind et (Ev.ite_neg c (Ev.bind er (Ev.bind e1 (Ev.bind er (Ev.bind e2 (Ev.ite_neg (by simp) (Ev.bind er (Ev.bind (eqElS_self _ r (by omega) gr) (Ev.ite_pos rfl (Ev.now _))))))))))
end Go.Proofs.Ytaomfbbbdddlmaa.Pure
