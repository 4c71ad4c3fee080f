/- Attributes made strict: the program's AttrsOf and the reference's tell the same, and hand out rows of their own: the pure statement of the law FnExactAttrsOf. No conditions but the row's. -/
import Derived.Test.YtaomfbbbdddlmaaMarkBaset
import Derived.Test.YtaomfbbbdddlmaaAttrBaset
import Derived.Test.YtaomfbbbdddlmaaHasBaset
import Derived.Test.YtaomfbbbdddlmaaNameBaset
import Derived.Test.YtaomfbbbdddlmaaTextOfBaset
import Derived.Test.YtaomfbbbdddlmaaQt18
import Derived.Test.YtaomfbbbdddlmaaQt20
import Derived.Test.YtaomfbbbdddlmaaQt4
set_option linter.unusedVariables false
set_option linter.unusedSimpArgs false
namespace Go.Proofs.Ytaomfbbbdddlmaa.Pure
open Go.RowKit Go.Proofs.Ytaomfbbbdddlmaa.P Go.Proofs.Ytaomfbbbdddlmaa.Evs Go.Proofs.Ytaomfbbbdddlmaa.Sg Go.Proofs.Ytaomfbbbdddlmaa.It Go.Proofs.Ytaomfbbbdddlmaa.Mk Go.Proofs.YtaomfbbbdddlmaaW.PrintWords Go.Proofs.YtaomfbbbdddlmaaW.PrintLast

theorem AttrsOf_loop (l : List S62) (hl : l.length ≤ 1048576) (hs : ∀ y ∈ l, y.f0.size ≤ 1048576 ∧ y.f1.size ≤ 1048576) : ∀ (d j : Nat) (acc : List S62), l.length - j = d → j ≤ l.length → acc.length ≤ j →
    ∃ r : List S62, Ev (fun k => spec_AttrsOf.l0 k l acc j) r ∧ Ev (fun k => impl_AttrsOf.l0 k acc l l.length j) r ∧ r.length ≤ l.length := by
  intro d
  induction d with
  | zero =>
    intro j acc hd hj ha
    exact ⟨acc, Ev.here fun k => by simp only [spec_AttrsOf.l0]; rw [if_neg (by omega)], Ev.here fun k => by simp only [impl_AttrsOf.l0]; rw [if_neg (by omega)], by omega⟩
  | succ d ih =>
    intro j acc hd hj ha
    have hjl : j < l.length := by omega
    have hrd : rd_T62 l (j : Int) = l[j] := rdT l _ j hjl
    obtain ⟨h0, h1⟩ := hs l[j] (List.getElem_mem hjl)
    obtain ⟨nm, n1, n2, _⟩ := NameOf_same l[j].f0 h0
    obtain ⟨tx, t1, t2, _⟩ := TextOf_same l[j].f1 h1
    have hh := Hs.Has_tells nm acc (by omega)
    have sS : ∀ k, spec_AttrsOf.l0 (k + 1) l acc j = (spec_NameOf.f k l[j].f0).bind fun t187 => (if t187.toList = ([120, 109, 108, 110, 115] : List UInt8) then (spec_AttrsOf.l0 k l acc ((j + 1 : Nat) : Int)) else ((spec_l4Has.f k acc t187).bind fun t188 => (if t188 = true then (spec_AttrsOf.l0 k l acc ((j + 1 : Nat) : Int)) else ((spec_TextOf.f k l[j].f1).bind fun t190 => (if acc.length < 4398046511104 then (spec_AttrsOf.l0 k l (acc ++ [(⟨t187, t190⟩ : S62)]) ((j + 1 : Nat) : Int)) else (none)))))) := fun k => by
      simp only [spec_AttrsOf.l0, hrd, succ64 (show j < 9223372036854775807 by omega)]
      rw [if_pos (by omega), if_pos (by omega)]
    have sI : ∀ k, impl_AttrsOf.l0 (k + 1) acc l l.length j = (impl_NameOf.f k l[j].f0).bind fun t253 => (if t253.toList = ([120, 109, 108, 110, 115] : List UInt8) then (impl_AttrsOf.l0 k acc l l.length ((j + 1 : Nat) : Int)) else (if acc.any (hasA t253) = true then (impl_AttrsOf.l0 k acc l l.length ((j + 1 : Nat) : Int)) else ((impl_TextOf.f k l[j].f1).bind fun t255 => (if acc.length < 4398046511104 then (impl_AttrsOf.l0 k (acc ++ [(⟨t253, t255⟩ : S62)]) l l.length ((j + 1 : Nat) : Int)) else (none))))) := fun k => by
      simp only [impl_AttrsOf.l0, hrd, succ64 (show j < 9223372036854775807 by omega), impl_hasAttr.f, Option.bind_some]
      rw [if_pos (by omega), if_pos (by omega), if_pos (by omega)]
    by_cases c : nm.toList = ([120, 109, 108, 110, 115] : List UInt8)
    · obtain ⟨r, r1, r2, r3⟩ := ih (j + 1) acc (by omega) (by omega) (by omega)
      exact ⟨r, Ev.step sS (Ev.bind n1 (Ev.ite_pos c r1)), Ev.step sI (Ev.bind n2 (Ev.ite_pos c r2)), r3⟩
    · cases e : acc.any (hasA nm) with
      | true =>
        rw [e] at hh
        obtain ⟨r, r1, r2, r3⟩ := ih (j + 1) acc (by omega) (by omega) (by omega)
        exact ⟨r, Ev.step sS (Ev.bind n1 (Ev.ite_neg c (Ev.bind hh (Ev.ite_pos rfl r1)))), Ev.step sI (Ev.bind n2 (Ev.ite_neg c (Ev.ite_pos e r2))), r3⟩
      | false =>
        rw [e] at hh
        obtain ⟨r, r1, r2, r3⟩ := ih (j + 1) (acc ++ [⟨nm, tx⟩]) (by omega) (by omega) (by rw [List.length_append, List.length_singleton]; omega)
        exact ⟨r, Ev.step sS (Ev.bind n1 (Ev.ite_neg c (Ev.bind hh (Ev.ite_neg Bool.false_ne_true (Ev.bind t1 (Ev.ite_pos (by omega) r1)))))), Ev.step sI (Ev.bind n2 (Ev.ite_neg c (Ev.ite_neg (by rw [e]; exact Bool.false_ne_true) (Ev.bind t2 (Ev.ite_pos (by omega) r2))))), r3⟩
theorem FnExactAttrsOf : laws_FnExactAttrsOf.Pure := by
  intro n l ⟨h1, h2⟩
  suffices h : Ev (fun k => laws_FnExactAttrsOf.f k l) true from h.rounds
  obtain ⟨t, et, _, _, tq⟩ := szAttrS_tells l n 1048576 h1 h2 (by omega) (by omega)
  unfold laws_FnExactAttrsOf.f
  by_cases c : t < 0
  · exact Ev.bind et (Ev.ite_pos c (Ev.now _))
  obtain ⟨q1, q2⟩ := tq (by omega)
  have ec := toAttrS_tells l q1
  have hl : (l.map toA).length ≤ 1048576 := by rw [List.length_map]; exact q1
  have hs : ∀ y ∈ l.map toA, y.f0.size ≤ 1048576 ∧ y.f1.size ≤ 1048576 := fun y hy => by
    obtain ⟨x, hx, rfl⟩ := List.mem_map.mp hy
    exact q2 x hx
  obtain ⟨r, r1, r2, r3⟩ := AttrsOf_loop (l.map toA) hl hs (l.map toA).length 0 [] (by omega) (by omega) (Nat.zero_le _)
  replace r1 : Ev (fun k => spec_AttrsOf.f k (l.map toA)) r := r1
  replace r2 : Ev (fun k => impl_AttrsOf.f k (l.map toA)) r := r2
  have er := eqAttrS_self r (by omega)
  have ex := eqAttrS_self (l.map toA) (by omega)
  have em := markAttrS_tells (l.map toA) 1 hl (by omega)
  have eg := markAttrS_tells r 1 (by omega) (by omega)
  have eh := heldAttrS_tells 1 r.length (by omega) (by omega)
  refine Ev.bind et (Ev.ite_neg c (Ev.bind ec (Ev.bind r1 (Ev.bind ec (Ev.bind r2 (Ev.bind er (Ev.ite_pos rfl (Ev.bind ec (Ev.bind ex (Ev.ite_pos rfl (Ev.bind em (Ev.ite_neg (by show ¬ ((1 + 2 * (l.map toA).length : Nat) : Int) < 0; omega) (Ev.bind er ?_)))))))))))))
  refine Ev.step (fun k => by simp only [laws_FnExactAttrsOf.j0]; rw [if_neg (by decide)]) ?_
  exact Ev.bind eg (Ev.bind eh (Ev.ite_neg (by omega) (Ev.ite_pos rfl (Ev.bind ec (Ev.bind r2 (Ev.bind er (Ev.ite_pos rfl (Ev.bind eh (Ev.ite_neg (by omega) (Ev.ite_pos rfl (Ev.now _)))))))))))
end Go.Proofs.Ytaomfbbbdddlmaa.Pure
