/- What is said of a tree: the program's PageText and the reference's tell the same: the pure statement of the law FnExactPageText. No conditions but the row's. -/
import Derived.Test.YtgljgbkbjlondaaDoorPageSaid
import Derived.Test.YtgljgbkbjlondaaDoorTreeSmall
import Derived.Test.YtgljgbkbjlondaaDoorPp29
set_option linter.unusedVariables false
set_option linter.unusedSimpArgs false
namespace Go.Proofs.YtgljgbkbjlondaaDoor.Pure
open Go.RowKit Go.Proofs.YtgljgbkbjlondaaDoor.P Go.Proofs.YtgljgbkbjlondaaDoor.Evs Go.Proofs.YtgljgbkbjlondaaDoor.It Go.Proofs.YtgljgbkbjlondaaDoor.Tr Go.Proofs.YtgljgbkbjlondaaDoorW.PrintWords Go.Proofs.YtgljgbkbjlondaaDoorW.PrintLast

theorem Pre_all (L : List S90) (h : Right L) : ∃ d out, Pre (kd L) d (kd L 0) out ∧ out.length ≤ L.length ∧ ∀ p, p ∈ out → p.1 < L.length := by
 obtain ⟨out, w, hl⟩ := h.2.2.2.2
 have ok := Links_ok L h.1.1 h.2.2.2.1
 obtain ⟨o2, h1, _, h3, h4⟩ := Pre_root ok
 cases h1 with
 | @cons _ _ _ a b q1 q2 =>
  refine ⟨_, a, q1, ?_, fun p hp => (h3 p (List.mem_cons_of_mem _ (List.mem_append_left _ hp))).1⟩
  rw [List.length_cons, List.length_append] at h4
  omega
theorem PageText_same (L : List S90) (hL : Small L) (hf : ∀ i, i < L.length → Fit (it L i)) (hw : Light L) : ∃ v : ByteArray, Ev (fun k => spec_PageText.f k L) v ∧ Ev (fun k => impl_PageText.f k L) v := by
 have hL1 := hL.1
 unfold spec_PageText.f impl_PageText.f
 by_cases h : Right L
 ·have h3 := (spec_tells L hL).1 h
  have h4 := (impl_tells L hL).1 h
  have hG : Tr.Good L := ⟨hL, hf, h⟩
  have hpos := h.1.1
  have hmax := h.1.2
  have c1 : (it L 0).f0 = 1 := h.2.1
  obtain ⟨d, out, p1, p2, p3⟩ := Pre_all L h
  obtain ⟨a, ta, sa⟩ := Tx_ex L hw p1 p3
  have hn := (hf 0 (by omega)).name
  have eo : opn L 0 = ByteArray.empty := by show opnX _ _ = _; unfold opnX; rw [if_neg (by omega), if_neg (by omega), if_neg (by omega), if_neg (by omega)]
  have ec : cls L 0 = ByteArray.empty := by show clsX _ = _; unfold clsX; rw [if_neg (by omega)]
  have e0 : (⟨#[]⟩ : ByteArray) = ByteArray.empty := rfl
  have z0 : ByteArray.empty.size = 0 := rfl
  have g1 := spec_go L hG ta 0 0 (⟨#[]⟩ : ByteArray) (by omega) (by rw [List.drop_zero]) (Or.inl c1) (by rw [e0, z0]; omega)
  have g2 := impl_one L 0 (by omega) hL1 (hf 0 (by omega)) (h.2.2.1 0 (by omega)).1 (fun c => by omega) a (⟨#[]⟩ : ByteArray) (by rw [e0, eo, z0]; omega) (fun acc' hs' => impl_go L hG ta 0 0 acc' (by omega) (by rw [List.drop_zero]) (by omega))
  rw [eo, ec, e0, app_empty, app_empty, ByteArray.empty_append] at g2
  rw [ec, e0, app_empty, ByteArray.empty_append] at g1
  refine ⟨a, Ev.bind h3 (Ev.ite_pos rfl (Ev.bind (a := a) ?_ (Ev.now _))), Ev.bind h4 (Ev.ite_pos rfl g2)⟩
  refine Ev.step (f := fun k => spec_l11Said.j1 k L (⟨#[]⟩ : ByteArray) (it L 0).f0 (it L 0).f1 (it L 0).f2 (it L 0).f3 (it L 0).f4 (it L 0).f5 (it L 0).f6) (fun k => ?_) (Ev.step (fun k => by simp only [spec_l11Said.j1]; rfl) g1)
  have hrd : rd_T90 L (0 : Int) = it L 0 := rfl
  simp only [spec_l11Said.f, hrd]
  rw [if_pos (by omega), if_pos (by omega), if_neg (by omega), if_neg (by omega), if_neg (by omega), if_neg (by omega)]
 ·exact ⟨(⟨#[]⟩ : ByteArray), Ev.bind ((spec_tells L hL).2 h) (Ev.ite_neg Bool.false_ne_true (Ev.now _)), Ev.bind ((impl_tells L hL).2 h) (Ev.ite_neg Bool.false_ne_true (Ev.now _))⟩
theorem FnExactPageText : laws_FnExactPageText.Pure := by
 intro n l ⟨h1, h2⟩
 suffices h : Ev (fun k => laws_FnExactPageText.f k l) true from h.rounds
 unfold laws_FnExactPageText.f
 obtain ⟨t, et, _, _, tq⟩ := szItemS_tells n l 1048576 h1 h2 (by omega) (by omega)
 obtain ⟨t', et', _, _, tw⟩ := szItemS_w n l 1048576 h1 h2 (by omega) (by omega)
 obtain rfl := Ev.uniq et et'
 by_cases c : t < 0
 ·exact Ev.bind et (Ev.ite_pos c (Ev.now _))
 obtain ⟨q1, q2⟩ := tq (by omega)
 obtain ⟨s1, s2⟩ := toItems_small n l q1 q2
 have e2 := toItemS_tells n l q1 q2
 have hlen : (l.map toI).length = l.length := List.length_map _
 obtain ⟨v, e3, e4⟩ := PageText_same (l.map toI) s1 (fun i hi => by
  obtain ⟨_, _, g2, ⟨g3, g3'⟩, g4, _, ⟨g6, _⟩⟩ := s2 _ (List.getElem_mem hi)
  rw [it_get hi]
  exact ⟨g2, g4, g3, g6, fun a ha => g3' a ha⟩) (fun i hi => by
  have hi' : i < l.length := by omega
  rw [it_get hi, List.getElem_map, wt_toI]
  exact tw (by omega) _ (List.getElem_mem hi'))
 exact Ev.bind et (Ev.ite_neg c (Ev.bind e2 (Ev.bind e3 (Ev.bind e2 (Ev.bind e4 (Ev.ite_pos rfl (Ev.bind e2 (Ev.bind (eqItemS_self n _ s1.1 s2) (Ev.ite_pos rfl (Ev.now _))))))))))
end Go.Proofs.YtgljgbkbjlondaaDoor.Pure
