/- A text without a byte 38 stays as it is; what a reference tells is a sign; drawn texts that are escaped come back; the program's references and the reference's are alike: the pure statement of the law FnRefs. No conditions but the row's. -/
import Derived.Test.YtgljgbkbjlondaaDoorEscBackr
import Derived.Test.YtgljgbkbjlondaaDoorRefDrawr
import Derived.Test.YtgljgbkbjlondaaDoorPr25
set_option linter.unusedVariables false
set_option linter.unusedSimpArgs false
namespace Go.Proofs.YtgljgbkbjlondaaDoor.Pure
open Go Go.RowKit Go.Proofs.YtgljgbkbjlondaaDoor.P Go.Proofs.YtgljgbkbjlondaaDoor.Evs Go.Proofs.YtgljgbkbjlondaaDoor.Rf Go.Proofs.YtgljgbkbjlondaaDoor.Dr Go.Proofs.YtgljgbkbjlondaaDoorW.PrintWords Go.Proofs.YtgljgbkbjlondaaDoorW.PrintLast

theorem Ref_any (s : ByteArray) (hs : s.size ≤ 4194304) (a : Int) (v : Bool) : ∃ p : ByteArray × Int, Ev (fun k => impl_Ref.f k s a v) p ∧ Ev (fun k => spec_Ref.f k s a v) p ∧ (p.2 = 0 ∨ 1 ≤ p.1.size) := by
 by_cases c : a < 0 ∨ (s.size : Int) ≤ a
 ·obtain ⟨h1, h2⟩ := ref_out s hs a v c
  exact ⟨NoR, h1, h2, Or.inl rfl⟩
 ·obtain ⟨i, rfl⟩ := Int.eq_ofNat_of_zero_le (show 0 ≤ a by omega)
  obtain ⟨h1, h2⟩ := ref_tells s hs i v (by omega)
  refine ⟨_, h1, h2, ?_⟩
  rcases (refV_le v (s.data.toList.drop i)).2 with q | q
  ·left; show ((refV v (s.data.toList.drop i)).2 : Int) = 0; rw [q]; rfl
  ·right; exact q.1
theorem last_loop (s T pt : ByteArray) (pn x : Int) (hs : s.size ≤ 4194304) (hp : pn = 0 ∨ 1 ≤ pt.size) : ∀ (d i : Nat), s.size - i = d → i ≤ s.size → ((38 : UInt8) ∉ s.data.toList.drop i → T.toList = s.toList) →
  Ev (fun k => laws_FnRefs.l0 k s T pt pn x i) true := by
 intro d
 induction d with
 | zero =>
  intro i hd hi ht
  rw [drop_end s i (by omega)] at ht
  refine Ev.here fun k => ?_
  simp only [laws_FnRefs.l0]
  rw [if_neg (by omega), if_pos (ht (by simp)), nb_impl, Option.bind_some, ok_impl, Option.bind_some, decide_eq_true (nb_ok x)]
 | succ d ih =>
  intro i hd hi ht
  have hil : i < s.size := by omega
  obtain ⟨b, e1, e2⟩ := bt_byte s i hil
  have h38 : ((b.toNat : Int) = 38) ↔ b = 38 := byte_eq b 38 (by decide)
  have hw : wrap64 ((i : Int) + 1) = ((i + 1 : Nat) : Int) := succ64 (by omega)
  by_cases c : b = 38
  ·refine Ev.here fun k => ?_
   simp only [laws_FnRefs.l0, e2]
   rw [if_pos (by omega), if_pos (by omega), if_pos (h38.mpr c)]
   by_cases c0 : pn = 0
   ·rw [if_pos c0]
   ·rw [if_neg c0, decide_eq_true (by have := hp.resolve_left c0; omega)]
  ·refine Ev.step (fun k => ?_) (ih (i + 1) (by omega) (by omega) (fun hn => ht (fun hm => by
    rw [e1] at hm
    rcases List.mem_cons.mp hm with q | q
    ·exact c q.symm
    ·exact hn q)))
   simp only [laws_FnRefs.l0, e2, hw]
   rw [if_pos (by omega), if_pos (by omega), if_neg (fun q => c (h38.mp q))]
theorem FnRefs : laws_FnRefs.Pure := by
 intro l _ _ _
 suffices h : Ev (fun k => laws_FnRefs.f k l) true from h.rounds
 unfold laws_FnRefs.f
 by_cases c : (l.length : Int) > 1048576
 ·exact Ev.opt (a := true) (by unfold laws_big.f; rw [decide_eq_true c]) (Ev.ite_pos rfl (Ev.now _))
 have hb : l.length ≤ 1048576 := by omega
 refine Ev.opt (a := false) (by unfold laws_big.f; rw [decide_eq_false c]) (Ev.ite_neg Bool.false_ne_true ?_)
 obtain ⟨s, v, hs, d1⟩ := drawRefs l hb
 obtain ⟨r, a, u, hr, d2⟩ := drawRef l hb
 obtain ⟨x, d3⟩ := drawNumbered l hb
 obtain ⟨y, d4⟩ := drawNameSign l hb
 obtain ⟨e, w, he, d5⟩ := drawEscape l hb
 obtain ⟨t1, t2⟩ := Refs_tells s (by omega) v
 obtain ⟨⟨pt, pn⟩, p1, p2, hp⟩ := Ref_any r (by omega) a u
 obtain ⟨t, x1, x2⟩ := Refs_Escape e w (by omega)
 have fin : Ev (fun k => laws_FnRefs.l0 k s (mk (refs v s.size s.data.toList)) pt pn x 0) true := last_loop s _ pt pn x (by omega) hp s.size 0 (by omega) (by omega) (fun hn => by
  rw [List.drop_zero] at hn
  rw [refs_plain v s.size s.data.toList (Nat.le_refl _) hn, mk_list])
 have j1 : Ev (fun k => laws_FnRefs.j1 k s (mk (refs v s.size s.data.toList)) pt pn x false) true := Ev.step (fun k => by simp only [laws_FnRefs.j1]; rw [if_neg Bool.false_ne_true]) fin
 have j0 : Ev (fun k => laws_FnRefs.j0 k l s (mk (refs v s.size s.data.toList)) pt pn x false) true := by
  refine Ev.step (f := fun k => (spec_DrawEscape.f k l).bind fun bt365 => ((impl_Escape.f bt365.1 bt365.2).bind fun t367 => ((impl_Refs.f k t367 bt365.2).bind fun t368 => (if t368.toList = bt365.1.toList then (laws_FnRefs.j1 k s (mk (refs v s.size s.data.toList)) pt pn x false) else ((impl_CleanOk.f k bt365.1).bind fun t369 => (laws_FnRefs.j1 k s (mk (refs v s.size s.data.toList)) pt pn x t369)))))) (fun k => ?_) (Ev.bind d5 (Ev.opt x1 (Ev.bind x2 (Ev.ite_pos rfl j1))))
  simp only [laws_FnRefs.j0]
  rw [if_neg Bool.false_ne_true]
 exact Ev.bind d1 (Ev.bind t1 (Ev.bind d2 (Ev.bind p1 (Ev.bind p2 (Ev.bind d3 (Ev.bind d4 (Ev.bind t2 (Ev.ite_pos rfl (Ev.ite_pos rfl (Ev.ite_pos rfl (Ev.opt (nb_impl x) (Ev.bind (nb_spec x) (Ev.ite_pos rfl (Ev.bind (sg_impl y) (Ev.bind (sg_spec y) (Ev.ite_pos rfl (Ev.opt (a := names) rfl (Ev.opt (a := names) rfl j0))))))))))))))))))
end Go.Proofs.YtgljgbkbjlondaaDoor.Pure
